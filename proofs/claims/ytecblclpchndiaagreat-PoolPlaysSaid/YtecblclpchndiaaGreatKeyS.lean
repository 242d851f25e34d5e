/-
  WALKS: harrierref01's Two and Four, harrierref15's Pair. No condition.
-/
import Derived.Test.YtecblclpchndiaaGreatKeyR
set_option linter.unusedVariables false
set_option linter.unusedSimpArgs false
namespace Go.Proofs.YtecblclpchndiaaGreat
open Go.RowKit

/-- A number's two bytes. -/
def twoS (n : Nat) : List Nat := [n / 256 % 256, n % 256]
set_option maxRecDepth 100000 in
set_option maxHeartbeats 1000000 in
theorem two01_any (n : Nat) (hn : n < 65536) (w : World) :
    Calls Tryz.prog 96 #[.int .i64 n] w fun e w' => ∃ v', e = .returned v' ∧ w'.ownsRow w.heap.size 5 1 v' (twoS n).length ((twoS n).map byV) ∧ Chg [] w w' := by
  have h1 : bits .and .i64 (n : Int) 65535 = (n : Int) := by
    unfold bits
    show IntKind.i64.wrap ((BitVec.ofInt 64 (n : Int) &&& BitVec.ofInt 64 65535).toNat : Int) = (n : Int)
    have e1 : (BitVec.ofInt 64 (n : Int)) = BitVec.ofNat 64 n := by simp
    have e2 : (BitVec.ofInt 64 65535) = BitVec.ofNat 64 65535 := by decide
    rw [e1, e2, BitVec.toNat_and, BitVec.toNat_ofNat, BitVec.toNat_ofNat, Nat.mod_eq_of_lt (by omega : n < 2 ^ 64), Nat.mod_eq_of_lt (by omega : 65535 < 2 ^ 64), show (65535 : Nat) = 2 ^ 16 - 1 by rfl, Nat.and_two_pow_sub_one_eq_mod, Nat.mod_eq_of_lt (by omega)]
    rw [IntKind.wrap_i64]; omega
  have HT : Hid (twoS n = [n / 256 % 256, n % 256]) := Lib.hid rfl
  have q1 : (n : Int) / 256 = ((n / 256 : Nat) : Int) := rfl
  have q2 : (n : Int) % 256 = ((n % 256 : Nat) : Int) := rfl
  have t1 : (n : Int).tdiv 256 = ((n / 256 : Nat) : Int) := rfl
  have t2 : (n : Int).tmod 256 = ((n % 256 : Nat) : Int) := rfl
  have e1 : IntKind.u8.wrap ((n / 256 : Nat) : Int) = ((n / 256 % 256 : Nat) : Int) := wrap8 _
  have e2 : IntKind.u8.wrap ((n % 256 : Nat) : Int) = ((n % 256 : Nat) : Int) := by rw [wrap8, Nat.mod_mod]
  have HO := Lib.hid (own_lit (base := w.heap.size) w 5 1 2 #[byV (n / 256 % 256), byV (n % 256)] (Nat.le_refl _) (by simp [maxLen]) rfl)
  have HA := Lib.hid ((Chg.refl [] w).alloc (.cells #[byV (n / 256 % 256), byV (n % 256)] 5))
  have hb : n / 256 < 256 := by omega
  generalize n / 256 % 256 = c at *
  generalize n / 256 = a at *
  generalize n % 256 = b at *
  go_enter Tryz.func96, Tryz.ntmps96
  go_wp2_with fail
  go_ret
  rw [HT.out]
  exact ⟨_, rfl, HO.out, HA.out⟩
theorem two_four (n : Nat) (hn : n < 4294967296) : twoS (n / 65536) ++ twoS (n % 65536) = fourS n := by
  simp only [twoS, fourS, List.cons_append, List.nil_append]
  congr 1
  · omega
  · congr 1
    congr 1
    · omega
    · congr 1
      omega
set_option maxRecDepth 100000 in
set_option maxHeartbeats 1000000 in
theorem four01_any (n : Nat) (hn : n < 4294967296) (w : World) :
    Calls Tryz.prog 85 #[.int .u32 n] w fun e w' => ∃ v', e = .returned v' ∧ w'.ownsRow w.heap.size 5 1 v' (fourS n).length ((fourS n).map byV) ∧ Chg [] w w' := by
  have HF := Lib.hid (two_four n hn)
  have q1 : (n : Int) / 65536 = ((n / 65536 : Nat) : Int) := rfl
  have q2 : (n : Int) % 65536 = ((n % 65536 : Nat) : Int) := rfl
  have t1 : (n : Int).tdiv 65536 = ((n / 65536 : Nat) : Int) := rfl
  have t2 : (n : Int).tmod 65536 = ((n % 65536 : Nat) : Int) := rfl
  have hb : n / 65536 < 65536 := by omega
  have hb2 : n % 65536 < 65536 := by omega
  generalize n / 65536 = a at *
  generalize n % 65536 = b at *
  have e1 : IntKind.i64.wrap (a : Int) = (a : Int) := by rw [IntKind.wrap_i64]; omega
  have e2 : IntKind.i64.wrap (b : Int) = (b : Int) := by rw [IntKind.wrap_i64]; omega
  have F1 := Lib.hid (two01_any a hb w)
  go_enter Tryz.func85, Tryz.ntmps85
  go_wp2_with fail
  refine F1.out.mono ?_
  rintro e w1 ⟨v1, rfl, hown1, hc1⟩
  have F2 := Lib.hid (two01_any b hb2 w1)
  clear F1
  go_wp2_with fail
  refine F2.out.mono ?_
  rintro e w2 ⟨v2, rfl, hown2, hc2⟩
  have hown1' := own_chg hown1 hc2 (by simp)
  have hs2 := Sl.of_own hown2
  have HC := Lib.hid (And.intro (hc1.trans hc2) (own_lt hown1))
  have hsz := (hc1.trans hc2).size
  clear F2 hown1 hown2 hc1 hc2
  go_wp2_with (first
    | (at_builtin; refine wpList_app elY rfl (.tmp 6) (.tmp 10) rfl w.heap.size rfl hown1' rfl hs2 (byV_one _) (by simp [twoS, maxLen]) (by simp [twoS]) hsz ?_; intro v3 w3 hown3 hc3 hb3)
    | fail)
  go_ret
  refine ⟨v3, rfl, ?_, HC.out.1.trans' hc3 (fun x hx => .inr (HC.out.2 x hx).1)⟩
  rw [← HF.out, List.map_append, List.length_append]
  exact hown3

set_option maxRecDepth 100000 in
set_option maxHeartbeats 1000000 in
theorem pair15_any (w : World) (ka kb a b : Int) :
    Calls Tryz.prog 70 #[.agg #[.int .u64 ka, .int .u64 kb], .int .i64 a, .int .i64 b] w fun e w' => e = .returned (.int .u64 (pairS ka kb a b)) ∧ Chg [] w w' := by
  have hA := (Chg.refl [] w).alloc (.cells #[.int .u64 ka, .int .u64 kb] 41)
  have hB1 : Blk (w.alloc (.cells #[.int .u64 ka, .int .u64 kb] 41)) w.heap.size 41 #[.int .u64 ka, .int .u64 kb] := Blk.new _ _ _
  have HI := Lib.hid (And.intro hA hB1)
  have ea := wrap32_nat a
  have eb := wrap32_nat b
  have la : (IntKind.u32.wrap a).toNat < 4294967296 := by simp [IntKind.wrap, IntKind.signed, IntKind.bits]; omega
  have lb : (IntKind.u32.wrap b).toNat < 4294967296 := by simp [IntKind.wrap, IntKind.signed, IntKind.bits]; omega
  have HP : Hid (pairS ka kb a b = sumS ka kb (fourS (IntKind.u32.wrap a).toNat ++ fourS (IntKind.u32.wrap b).toNat)) := Lib.hid rfl
  generalize (IntKind.u32.wrap a).toNat = na at *
  generalize (IntKind.u32.wrap b).toNat = nb at *
  clear hA hB1
  go_enter Tryz.func70, Tryz.ntmps70
  go_upto_region 1 with fail
  obtain ⟨hA, hB1⟩ := HI.out
  generalize (w.alloc (.cells #[.int .u64 ka, .int .u64 kb] 41)) = w1 at *
  have HSR : ∀ W : World, Blk W w.heap.size 41 #[.int .u64 ka, .int .u64 kb] → W.rangeAt w.heap.size 0 (#[.int .u64 ka, .int .u64 kb] : Array Value).toList := fun W h => h.rangeQ
  have hS0 := hB1.drew
  have hA2 : Chg [] w w1.drew := hA.drew
  refine wp_region_noPanic ?_
  refine wp_region_held_drew (S := fun W : World => Blk W w.heap.size 41 #[.int .u64 ka, .int .u64 kb]) (by kernel_rfl) hS0 (fun _ => ?_)
  generalize w1.drew = w2 at *
  refine wpAnyH_take (i := 0) rfl (by kernel_rfl) (by kernel_rfl) (by kernel_rfl) (fun _ _ _ h => h) (yields_row (by rfl) 41 (.tmp 3) rfl w.heap.size 0 rfl (#[.int .u64 ka, .int .u64 kb]) _ HSR Tryz.underlying41 rfl (by kernel_rfl)) (by with_reducible assumption) ?_
  try simp only [List.getElem_toArray, List.getElem_cons_succ, List.getElem_cons_zero, Act.put, List.setIfInBounds_toArray, List.set_cons_zero, List.set_cons_succ]
  refine wpAnyH_take (i := 1) (v := ?_) rfl (by kernel_rfl) (by kernel_rfl) (by kernel_rfl) (fun _ _ _ h => h) (yields_pure (by rfl) (fun w => ?_)) (by with_reducible assumption) ?_
  rotate_left
  · (go_simp <;> with_reducible rfl)
  try simp only [List.getElem_toArray, List.getElem_cons_succ, List.getElem_cons_zero, Act.put, List.setIfInBounds_toArray, List.set_cons_zero, List.set_cons_succ]
  refine wpAnyH_take (i := 2) (v := ?_) rfl (by kernel_rfl) (by kernel_rfl) (by kernel_rfl) (fun _ _ _ h => h) (yields_pure (by rfl) (fun w => ?_)) (by with_reducible assumption) ?_
  rotate_left
  · (go_simp <;> with_reducible rfl)
  try simp only [List.getElem_toArray, List.getElem_cons_succ, List.getElem_cons_zero, Act.put, List.setIfInBounds_toArray, List.set_cons_zero, List.set_cons_succ]
  refine wpAnyH_take (i := 4) (v := ?_) rfl (by kernel_rfl) (by kernel_rfl) (by kernel_rfl) (fun _ _ _ h => h) (yields_pure (by rfl) (fun w => ?_)) (by with_reducible assumption) ?_
  rotate_left
  · (go_simp <;> with_reducible rfl)
  try simp only [List.getElem_toArray, List.getElem_cons_succ, List.getElem_cons_zero, Act.put, List.setIfInBounds_toArray, List.set_cons_zero, List.set_cons_succ]
  refine wpAnyH_take (i := 5) (v := ?_) rfl (by kernel_rfl) (by kernel_rfl) (by kernel_rfl) (fun _ _ _ h => h) (yields_pure (by rfl) (fun w => ?_)) (by with_reducible assumption) ?_
  rotate_left
  · (go_simp <;> with_reducible rfl)
  try simp only [List.getElem_toArray, List.getElem_cons_succ, List.getElem_cons_zero, Act.put, List.setIfInBounds_toArray, List.set_cons_zero, List.set_cons_succ]
  refine wpAnyH_ready (rs := [3]) (by kernel_rfl) (by simp) (AllReadyH.cons rfl (fun K hK => ?_) AllReadyH.nil)
  have F1 := Lib.hid (four01_any na la w2)
  go_simp
  refine F1.out.mono ?_
  rintro e w3 ⟨v3, rfl, hown3, hc3⟩
  have hS3 : (fun W : World => Blk W w.heap.size 41 #[.int .u64 ka, .int .u64 kb]) w3 := hS0.chg hc3 (by simp)
  refine hK.out _ _ (by with_reducible assumption) (fun _ => ?_)
  clear hK K
  try simp only [List.getElem_toArray, List.getElem_cons_succ, List.getElem_cons_zero, Act.put, List.setIfInBounds_toArray, List.set_cons_zero, List.set_cons_succ]
  refine wpAnyH_ready (rs := [6]) (by kernel_rfl) (by simp) (AllReadyH.cons rfl (fun K hK => ?_) AllReadyH.nil)
  have F2 := Lib.hid (four01_any nb lb w3)
  go_simp
  refine F2.out.mono ?_
  rintro e w4 ⟨v4, rfl, hown4, hc4⟩
  have hS4 : (fun W : World => Blk W w.heap.size 41 #[.int .u64 ka, .int .u64 kb]) w4 := hS3.chg hc4 (by simp)
  have hs4 := Sl.of_own hown4
  have hown3' := own_chg hown3 hc4 (by simp)
  have hz4 : w2.heap.size ≤ w4.heap.size := (hc3.trans hc4).size
  refine hK.out _ _ (by with_reducible assumption) (fun _ => ?_)
  clear hK K
  try simp only [List.getElem_toArray, List.getElem_cons_succ, List.getElem_cons_zero, Act.put, List.setIfInBounds_toArray, List.set_cons_zero, List.set_cons_succ]
  refine wpAnyH_ready (rs := [7]) (by kernel_rfl) (by simp) (AllReadyH.cons rfl (fun K hK => ?_) AllReadyH.nil)
  refine step_app elY rfl (.tmp 10) (.tmp 13) rfl w2.heap.size rfl hown3' rfl hs4 (byV_one _) (by simp [fourS, maxLen]) (by simp [fourS]) hz4 ?_
  intro v5 w5 hown5 hc5 hb5
  rw [← List.map_append, ← List.length_append] at hown5
  have hC5 : Chg [] w2 w5 := (hc3.trans hc4).trans' hc5 (fun x hx => .inr (own_lt hown3 x hx).1)
  have hS5 : (fun W : World => Blk W w.heap.size 41 #[.int .u64 ka, .int .u64 kb]) w5 := hS0.chg hC5 (by simp)
  have hs5 : SlY w5 w2.heap.size v5 (fourS na ++ fourS nb) := Sl.of_own hown5
  refine hK.out _ _ (by with_reducible assumption) (fun _ => ?_)
  clear hK K
  try simp only [List.getElem_toArray, List.getElem_cons_succ, List.getElem_cons_zero, Act.put, List.setIfInBounds_toArray, List.set_cons_zero, List.set_cons_succ]
  refine wpAnyH_ready (rs := [8]) (by kernel_rfl) (by simp) (AllReadyH.cons rfl (fun K hK => ?_) AllReadyH.nil)
  have F3 := Lib.hid (sum15_any hs5 (by simp [fourS]) (by intro x hx; rcases List.mem_append.1 hx with hx | hx <;> exact fourS_lt x hx) ka kb)
  go_simp
  refine F3.out.mono ?_
  rintro e w6 ⟨rfl, hc6⟩
  have hS6 : (fun W : World => Blk W w.heap.size 41 #[.int .u64 ka, .int .u64 kb]) w6 := hS5.chg hc6 (by simp)
  refine hK.out _ _ (by with_reducible assumption) (fun _ => ?_)
  clear hK K
  try simp only [List.getElem_toArray, List.getElem_cons_succ, List.getElem_cons_zero, Act.put, List.setIfInBounds_toArray, List.set_cons_zero, List.set_cons_succ]
  refine wpAnyH_take (i := 9) (v := ?_) rfl (by kernel_rfl) (by kernel_rfl) (by kernel_rfl) (fun _ _ _ h => h) (yields_pure (by rfl) (fun w => ?_)) (by with_reducible assumption) ?_
  rotate_left
  · (go_simp <;> with_reducible rfl)
  try simp only [List.getElem_toArray, List.getElem_cons_succ, List.getElem_cons_zero, Act.put, List.setIfInBounds_toArray, List.set_cons_zero, List.set_cons_succ]
  refine wpAnyH_done (by kernel_rfl) ?_ _
  refine NoPanic.normal ?_
  have HC := Lib.hid (hA2.trans (hC5.trans hc6))
  clear F1 F2 F3 hS0 hS3 hS4 hS5 hS6 hc6 hC5 hc5 hc4 hc3 hown5 hown4 hown3 hown3' hs4 hs5 HSR hA2 hA hB1
  go_wp2_with fail
  go_ret
  rw [HP.out]
  exact ⟨rfl, HC.out⟩
end Go.Proofs.YtecblclpchndiaaGreat
