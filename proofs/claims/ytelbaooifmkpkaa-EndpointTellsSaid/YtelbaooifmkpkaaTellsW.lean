/-
  WALKS over the document's answer for chapter 29, and harrierref07.Same of segments without options and bytes. No condition but on the payload's length.
-/
import Derived.Test.YtelbaooifmkpkaaEpW2
import Derived.Deep.RegionWith
set_option linter.unusedVariables false
set_option linter.unusedSimpArgs false
namespace Go.Proofs.Ytelbaooifmkpkaa
open Go.RowKit

theorem and_pow (x : BitVec 64) (i : Nat) (m : BitVec 64) (hm : m = BitVec.twoPow 64 i) : x &&& m = 0#64 ∨ x &&& m = m := by
  subst hm
  rw [BitVec.and_twoPow]
  split
  · exact .inr rfl
  · exact .inl rfl
theorem has_of {fl m : Int} (i : Nat) (h : BitVec.ofInt 64 m = BitVec.twoPow 64 i) (hz : (IntKind.i64.wrap (BitVec.ofInt 64 m).toNat) = m) (hm : m ≠ 0) : (bits .and .i64 fl m != 0) = hasF fl m := by
  have e' : bits .and .i64 fl m = IntKind.i64.wrap ((BitVec.ofInt 64 fl &&& BitVec.ofInt 64 m).toNat : Int) := rfl
  unfold hasF
  rw [e']
  rcases and_pow (BitVec.ofInt 64 fl) i (BitVec.ofInt 64 m) h with e | e <;> rw [e]
  · have : IntKind.i64.wrap ((0#64).toNat : Int) = 0 := by decide
    rw [this]
    have : (0 == m) = false := by simpa using fun h => hm h.symm
    rw [this]; rfl
  · rw [hz]; simp [hm]
theorem has1 (fl : Int) : (bits .and .i64 fl 1 != 0) = hasF fl 1 := has_of 0 (by decide) (by decide) (by decide)
theorem has2 (fl : Int) : (bits .and .i64 fl 2 != 0) = hasF fl 2 := has_of 1 (by decide) (by decide) (by decide)
theorem has4 (fl : Int) : (bits .and .i64 fl 4 != 0) = hasF fl 4 := has_of 2 (by decide) (by decide) (by decide)
theorem has16 (fl : Int) : (bits .and .i64 fl 16 != 0) = hasF fl 16 := has_of 4 (by decide) (by decide) (by decide)

set_option maxHeartbeats 400000 in
theorem bit_any (t : TC) (o p : Value) (m : Int) (h : (bits .and .i64 t.flags m != 0) = hasF t.flags m) (w : World) :
    Calls Try.prog 46 #[.agg (enT t o p), .int .i64 m] w fun e w' => e = .returned (.bool (hasF t.flags m)) ∧ Chg [] w w' := by
  have H := Lib.hid h
  clear h
  unfold enT
  go_enter Try.func46, Try.ntmps46
  go_wp2_with fail
  go_ret
  rw [H.out]
  exact ⟨rfl, (Chg.refl _ _).alloc _⟩
set_option maxHeartbeats 400000 in
theorem flag_any (t : TC) (o p : Value) (m : Int) (h : (bits .and .i64 t.flags m != 0) = hasF t.flags m) (w : World) :
    Calls Try.prog 53 #[.agg (enT t o p), .int .i64 m] w fun e w' => e = .returned (.bool (hasF t.flags m)) ∧ Chg [] w w' := by
  have H := Lib.hid h
  clear h
  unfold enT
  go_enter Try.func53, Try.ntmps53
  go_wp2_with fail
  go_ret
  rw [H.out]
  exact ⟨rfl, (Chg.refl _ _).alloc _⟩

set_option maxHeartbeats 400000 in
theorem rspan_any (t : TC) (o : Value) (A : Option Addr) (n c : Nat) (w : World) :
    Calls Try.prog 48 #[.agg (enT t o (.slice A n c))] w fun e w' => e = .returned (.int .u32 (spanF t.flags n)) ∧ Chg [] w w' := by
  cases h2 : hasF t.flags 2 <;> cases h1 : hasF t.flags 1
  all_goals
    have hs : spanF t.flags n = spanF t.flags n := rfl
    conv at hs => rhs; unfold spanF; simp only [h1, h2]
    have HS := Lib.hid hs
    have H1 := Lib.hid h1
    have H2 := Lib.hid h2
    clear hs h1 h2
    have hc0 : Chg [] w (w.alloc (.cells (enT t o (.slice A n c)) 52)) := (Chg.refl _ _).alloc _
    have hb0 : Blk (w.alloc (.cells (enT t o (.slice A n c)) 52)) w.heap.size 52 (enT t o (.slice A n c)) := Blk.new _ _ _
    unfold enT at *
    go_enter Try.func48, Try.ntmps48
    go_wp2_with fail
    refine (flag_any t o (.slice A n c) 2 (has2 _) _).mono ?_
    rw [H2.out]
    rintro e w1 ⟨rfl, hc1⟩
    have hb1 := hb0.chg hc1 (by simp)
    have x0 := hb1.cell 0
    have x1 := hb1.cell 1
    have x2 := hb1.cell 2
    have x3 := hb1.cell 3
    have x4 := hb1.cell 4
    have x5 := hb1.cell 5
    have x6 := hb1.cell 6
    have x7 := hb1.cell 7
    have x8 := hb1.cell 8
    have x9 := hb1.cell 9
    simp only [List.getElem?_toArray, List.getElem?_cons_succ, List.getElem?_cons_zero] at x0 x1 x2 x3 x4 x5 x6 x7 x8 x9
    go_wp2_with fail
    refine (flag_any t o (.slice A n c) 1 (has1 _) _).mono ?_
    rw [H1.out]
    rintro e w2 ⟨rfl, hc2⟩
    go_wp2_with fail
    go_ret
    rw [HS.out]
    exact ⟨by simp [u32w], (hc0.trans hc1).trans hc2⟩

set_option maxHeartbeats 400000 in
theorem told_any (a b c : Int) (w : World) :
    Calls Try.prog 47 #[.int .u32 a, .int .u32 b, .int .i64 c] w fun e w' => e = .returned (.agg (enT (segF a b c) (.slice none 0 0) (.slice none 0 0))) ∧ Chg [] w w' := by
  unfold enT segF
  go_enter Try.func47, Try.ntmps47
  go_wp2_with fail
  exact bodyPost_ret (v := .agg #[.int .i64 0, .int .i64 0, .int .u32 a, .int .u32 b, .int .i64 c, .int .i64 4096, .int .i64 0, .int .i64 0, .slice none 0 0, .slice none 0 0]) (by simp [results, Try.results47, go_sem]) rfl ⟨rfl, (Chg.refl _ _).alloc _⟩

set_option maxHeartbeats 400000 in
theorem rstart_any (a b : Int) (w : World) :
    Calls Try.prog 28 #[.int .u32 a, .int .u32 b] w fun e w' => e = .returned (.agg (enC (startF a b))) ∧ Chg [] w w' := by
  unfold enC startF u32w
  go_enter Try.func28, Try.ntmps28
  go_wp2_with fail
  exact bodyPost_ret (v := .agg #[.int .i64 1, .int .u32 a, .int .u32 b, .int .u32 ((a + 1) % 4294967296), .int .u32 ((b + 1) % 4294967296), .int .i64 0, .int .u32 0]) (by simp [results, Try.results28, go_sem]) rfl ⟨rfl, (Chg.refl _ _).alloc _⟩

set_option maxHeartbeats 800000 in
theorem rmix_any {w : World} {B : Nat} (s : Int) {v : Value} {l : List Int} (h : SlB w B v l) (hm : l.length ≤ 9223372036854775807) (hr : ∀ x ∈ l, 0 ≤ x ∧ x ≤ 255) :
    Calls Try.prog 35 #[.int .u32 s, v] w fun e w' => e = .returned (.int .u32 (mixF s l)) ∧ w = w' := by
  obtain ⟨A, c, hv⟩ := Sl.form h
  have HV := Lib.hid hv
  rw [hv]
  clear hv
  go_enter Try.func35, Try.ntmps35
  go_wp2_with fail
  go_loop [0, 5] (fun a i => ∃ j : Nat, j ≤ l.length ∧ i = .int .i64 j ∧ a = .int .u32 (mixF s (l.take j))) (fun _ i => l.length - (intOf i).toNat)
  case atStart => exact ⟨0, by omega, rfl, rfl⟩
  case round =>
    obtain ⟨j, hj, rfl, rfl⟩ := hrel
    by_cases hlt : j < l.length
    · have hp : l[j]? = some l[j] := List.getElem?_eq_getElem hlt
      have hb := hr _ (List.getElem_mem hlt)
      generalize l[j] = x at hp hb
      obtain ⟨h0, h1⟩ := hb
      have e : mixF s (l.take (j + 1)) = u32w (u32w (mixF s (l.take j) * 31) + x) := by rw [List.take_add_one, hp]; exact mixF_snoc _ _ _
      have HE := Lib.hid e
      obtain ⟨b, o, c', hv, g0⟩ := h.at_ hp
      have hv' := HV.out.symm.trans hv
      simp only [Value.slice.injEq, true_and] at hv'
      obtain ⟨rfl, rfl⟩ := hv'
      clear e hp hv
      go_wp2_with fail
      go_round
      case rel => exact ⟨j + 1, by omega, by go_num, by rw [HE.out]; simp [u32w, Int.mul_comm]⟩
      case measure => simp [intOf]; omega
    · have e : l.take j = l := List.take_of_length_le (by omega)
      have HE := Lib.hid e
      clear e
      go_wp2_with fail
      go_ret
      rw [HE.out]
      exact ⟨rfl, rfl⟩

set_option maxHeartbeats 400000 in
theorem rgreet_any (c : CN) (w : World) :
    Calls Try.prog 30 #[.agg (enC c)] w fun e w' => e = .returned (.agg (enT (greetF c) (.slice none 0 0) (.slice none 0 0))) ∧ Chg [] w w' := by
  unfold enC
  go_enter Try.func30, Try.ntmps30
  go_wp2_with fail
  refine (told_any _ _ _ _).mono ?_
  rintro e w1 ⟨rfl, hc1⟩
  have h0 : Blk ((w.alloc (.cells #[.int .i64 c.st, .int .u32 c.first, .int .u32 c.own, .int .u32 c.next, .int .u32 c.sent, .int .i64 c.got, .int .u32 c.sum] 65)).alloc (.cells #[.int .i64 0, .int .i64 0, .int .u32 0, .int .u32 0, .int .i64 0, .int .i64 0, .int .i64 0, .int .i64 0, .slice none 0 0, .slice none 0 0] 52)) (w.heap.size + 1) 52 #[.int .i64 0, .int .i64 0, .int .u32 0, .int .u32 0, .int .i64 0, .int .i64 0, .int .i64 0, .int .i64 0, .slice none 0 0, .slice none 0 0] := Blk.new' (by simp)
  have hb := h0.chg hc1 (by simp)
  have hcg : Chg [] w w1 := (((Chg.refl [] w).alloc _).alloc _).trans hc1
  clear h0
  go_wp2_with (refine wpList_store_blk rfl 52 (.tmp 2) (.tmp 7) rfl rfl hb rfl rfl rfl (by kernel_rfl) rfl ?_; intro w2 hb2 hc2)
  exact bodyPost_ret (results_blk rfl rfl hb2 _ Try.underlying52 rfl (by kernel_rfl)) rfl ⟨rfl, hcg.trans' hc2 (by simp)⟩

set_option maxHeartbeats 400000 in
theorem rbare_any (c : CN) (w : World) :
    Calls Try.prog 32 #[.agg (enC c)] w fun e w' => e = .returned (.agg (enT (bareF c) (.slice none 0 0) (.slice none 0 0))) ∧ Chg [] w w' := by
  unfold enC
  go_enter Try.func32, Try.ntmps32
  go_wp2_with fail
  refine (told_any _ _ _ _).mono ?_
  rintro e w1 ⟨rfl, hc1⟩
  have h0 : Blk ((w.alloc (.cells #[.int .i64 c.st, .int .u32 c.first, .int .u32 c.own, .int .u32 c.next, .int .u32 c.sent, .int .i64 c.got, .int .u32 c.sum] 65)).alloc (.cells #[.int .i64 0, .int .i64 0, .int .u32 0, .int .u32 0, .int .i64 0, .int .i64 0, .int .i64 0, .int .i64 0, .slice none 0 0, .slice none 0 0] 52)) (w.heap.size + 1) 52 #[.int .i64 0, .int .i64 0, .int .u32 0, .int .u32 0, .int .i64 0, .int .i64 0, .int .i64 0, .int .i64 0, .slice none 0 0, .slice none 0 0] := Blk.new' (by simp)
  have hb := h0.chg hc1 (by simp)
  have hcg : Chg [] w w1 := (((Chg.refl [] w).alloc _).alloc _).trans hc1
  clear h0
  go_wp2_with (refine wpList_store_blk rfl 52 (.tmp 2) (.tmp 7) rfl rfl hb rfl rfl rfl (by kernel_rfl) rfl ?_; intro w2 hb2 hc2)
  exact bodyPost_ret (results_blk rfl rfl hb2 _ Try.underlying52 rfl (by kernel_rfl)) rfl ⟨rfl, hcg.trans' hc2 (by simp)⟩

set_option maxHeartbeats 400000 in
theorem rfin_any (c : CN) (w : World) :
    Calls Try.prog 34 #[.agg (enC c)] w fun e w' => e = .returned (.agg (enT (finF c) (.slice none 0 0) (.slice none 0 0))) ∧ Chg [] w w' := by
  unfold enC
  go_enter Try.func34, Try.ntmps34
  go_wp2_with fail
  refine (told_any _ _ _ _).mono ?_
  rintro e w1 ⟨rfl, hc1⟩
  have h0 : Blk ((w.alloc (.cells #[.int .i64 c.st, .int .u32 c.first, .int .u32 c.own, .int .u32 c.next, .int .u32 c.sent, .int .i64 c.got, .int .u32 c.sum] 65)).alloc (.cells #[.int .i64 0, .int .i64 0, .int .u32 0, .int .u32 0, .int .i64 0, .int .i64 0, .int .i64 0, .int .i64 0, .slice none 0 0, .slice none 0 0] 52)) (w.heap.size + 1) 52 #[.int .i64 0, .int .i64 0, .int .u32 0, .int .u32 0, .int .i64 0, .int .i64 0, .int .i64 0, .int .i64 0, .slice none 0 0, .slice none 0 0] := Blk.new' (by simp)
  have hb := h0.chg hc1 (by simp)
  have hcg : Chg [] w w1 := (((Chg.refl [] w).alloc _).alloc _).trans hc1
  clear h0
  go_wp2_with (refine wpList_store_blk rfl 52 (.tmp 2) (.tmp 8) rfl rfl hb rfl rfl rfl (by kernel_rfl) rfl ?_; intro w2 hb2 hc2)
  exact bodyPost_ret (results_blk rfl rfl hb2 _ Try.underlying52 rfl (by kernel_rfl)) rfl ⟨rfl, hcg.trans' hc2 (by simp)⟩

def zeroT : TC := ⟨0, 0, 0, 0, 0, 0, 0, 0⟩
def resetF (t : TC) (n : Nat) : TC × Bool :=
  if hasF t.flags 4 then (zeroT, false) else if hasF t.flags 16 then (segF t.ack 0 4, true) else (segF 0 (u32w (t.seq + spanF t.flags n)) 20, true)

set_option maxHeartbeats 1000000 in
theorem reset_any (t : TC) (o : Value) (A : Option Addr) (n c : Nat) (w : World) :
    Calls Try.prog 25 #[.agg (enT t o (.slice A n c))] w fun e w' => e = .returned (.tuple #[.agg (enT (resetF t n).1 (.slice none 0 0) (.slice none 0 0)), .bool (resetF t n).2]) ∧ Chg [] w w' := by
  have hc0 : Chg [] w ((w.alloc (.cells (enT t o (.slice A n c)) 52)).alloc (.cells (enT zeroT (.slice none 0 0) (.slice none 0 0)) 52)) := ((Chg.refl _ _).alloc _).alloc _
  have ht0 : Blk ((w.alloc (.cells (enT t o (.slice A n c)) 52)).alloc (.cells (enT zeroT (.slice none 0 0) (.slice none 0 0)) 52)) w.heap.size 52 (enT t o (.slice A n c)) := (Blk.new _ _ _).alloc _
  have hr0 : Blk ((w.alloc (.cells (enT t o (.slice A n c)) 52)).alloc (.cells (enT zeroT (.slice none 0 0) (.slice none 0 0)) 52)) (w.heap.size + 1) 52 (enT zeroT (.slice none 0 0) (.slice none 0 0)) := Blk.new' (by simp)
  cases h4 : hasF t.flags 4
  · have H4 := Lib.hid h4
    cases h16 : hasF t.flags 16
    · have H16 := Lib.hid h16
      have hf : resetF t n = (segF 0 (u32w (t.seq + spanF t.flags n)) 20, true) := by simp [resetF, h4, h16]
      rw [hf]
      clear h4 h16 hf
      unfold enT zeroT at *
      go_enter Try.func25, Try.ntmps25
      go_wp2_with fail
      refine (has_any t o (.slice A n c) 4 _).mono ?_
      rw [H4.out]
      rintro e w1 ⟨rfl, hc1⟩
      have ht1 := ht0.chg hc1 (by simp)
      have hr1 := hr0.chg hc1 (by simp)
      have x0 := ht1.cell 0
      have x1 := ht1.cell 1
      have x2 := ht1.cell 2
      have x3 := ht1.cell 3
      have x4 := ht1.cell 4
      have x5 := ht1.cell 5
      have x6 := ht1.cell 6
      have x7 := ht1.cell 7
      have x8 := ht1.cell 8
      have x9 := ht1.cell 9
      simp only [List.getElem?_toArray, List.getElem?_cons_succ, List.getElem?_cons_zero] at x0 x1 x2 x3 x4 x5 x6 x7 x8 x9
      go_wp2_with fail
      refine (has_any t o (.slice A n c) 16 _).mono ?_
      rw [H16.out]
      rintro e w2 ⟨rfl, hc2⟩
      have ht2 := ht1.chg hc2 (by simp)
      have hr2 := hr1.chg hc2 (by simp)
      clear x0 x1 x2 x3 x4 x5 x6 x7 x8 x9
      have x0 := ht2.cell 0
      have x1 := ht2.cell 1
      have x2 := ht2.cell 2
      have x3 := ht2.cell 3
      have x4 := ht2.cell 4
      have x5 := ht2.cell 5
      have x6 := ht2.cell 6
      have x7 := ht2.cell 7
      have x8 := ht2.cell 8
      have x9 := ht2.cell 9
      simp only [List.getElem?_toArray, List.getElem?_cons_succ, List.getElem?_cons_zero] at x0 x1 x2 x3 x4 x5 x6 x7 x8 x9
      go_wp2_with fail
      have hcc := (hc0.trans hc1).trans hc2
      clear hc0 hc1 hc2 ht0 ht1 hr0 hr1
      go_cut [3] (fun v wx => v = .bool true ∧ Blk wx (w.heap.size + 1) 52 (enT (segF 0 (u32w (t.seq + spanF t.flags n)) 20) (.slice none 0 0) (.slice none 0 0)) ∧ Chg [] w wx)
      case first =>
        go_region_with (first | (go_at_call 44; refine (span_any t o A n c _).mono ?_; rintro e w3 ⟨rfl, hc3⟩; have hr3 := hr2.drew.chg hc3 (by simp); have z2 := hc3.cell x2 (by simp)) | (go_at_call 43; refine (seg_any _ _ _ _).mono ?_; rintro e w4 ⟨rfl, hc4⟩; have hr4 := hr3.chg hc4 (by simp); have q0 := hr4.cell 0; have q1 := hr4.cell 1; have q2 := hr4.cell 2; have q3 := hr4.cell 3; have q4 := hr4.cell 4; have q5 := hr4.cell 5; have q6 := hr4.cell 6; have q7 := hr4.cell 7; have q8 := hr4.cell 8; have q9 := hr4.cell 9; simp only [List.getElem?_toArray, List.getElem?_cons_succ, List.getElem?_cons_zero] at q0 q1 q2 q3 q4 q5 q6 q7 q8 q9; have fz4 := hr4.frozen; have hl4 := hr4.lt; unfold enT segF))
        all_goals
          go_wp2_with fail
          go_meet
          have hst := Chg.setCells (g := w.heap.size + 1) (enT (segF 0 (u32w (t.seq + spanF t.flags n)) 20) (.slice none 0 0) (.slice none 0 0)).toList 0 (w := w4)
          exact ⟨rfl, Blk.setAll hr4 (enT (segF 0 (u32w (t.seq + spanF t.flags n)) 20) (.slice none 0 0) (.slice none 0 0)).toList rfl, ((hcc.drew.trans hc3).trans hc4).trans' hst (by simp)⟩
      case rest =>
        obtain ⟨rfl, hb9, hc9⟩ := hcut
        go_wp2_with fail
        exact bodyPost_ret (results_blk2 rfl rfl hb9 _ Try.underlying52 rfl (by kernel_rfl)) rfl ⟨rfl, hc9⟩
    · have H16 := Lib.hid h16
      have hf : resetF t n = (segF t.ack 0 4, true) := by simp [resetF, h4, h16]
      rw [hf]
      clear h4 h16 hf
      unfold enT zeroT at *
      go_enter Try.func25, Try.ntmps25
      go_wp2_with fail
      refine (has_any t o (.slice A n c) 4 _).mono ?_
      rw [H4.out]
      rintro e w1 ⟨rfl, hc1⟩
      have ht1 := ht0.chg hc1 (by simp)
      have hr1 := hr0.chg hc1 (by simp)
      have x0 := ht1.cell 0
      have x1 := ht1.cell 1
      have x2 := ht1.cell 2
      have x3 := ht1.cell 3
      have x4 := ht1.cell 4
      have x5 := ht1.cell 5
      have x6 := ht1.cell 6
      have x7 := ht1.cell 7
      have x8 := ht1.cell 8
      have x9 := ht1.cell 9
      simp only [List.getElem?_toArray, List.getElem?_cons_succ, List.getElem?_cons_zero] at x0 x1 x2 x3 x4 x5 x6 x7 x8 x9
      go_wp2_with fail
      refine (has_any t o (.slice A n c) 16 _).mono ?_
      rw [H16.out]
      rintro e w2 ⟨rfl, hc2⟩
      have ht2 := ht1.chg hc2 (by simp)
      have hr2 := hr1.chg hc2 (by simp)
      clear x0 x1 x2 x3 x4 x5 x6 x7 x8 x9
      have x0 := ht2.cell 0
      have x1 := ht2.cell 1
      have x2 := ht2.cell 2
      have x3 := ht2.cell 3
      have x4 := ht2.cell 4
      have x5 := ht2.cell 5
      have x6 := ht2.cell 6
      have x7 := ht2.cell 7
      have x8 := ht2.cell 8
      have x9 := ht2.cell 9
      simp only [List.getElem?_toArray, List.getElem?_cons_succ, List.getElem?_cons_zero] at x0 x1 x2 x3 x4 x5 x6 x7 x8 x9
      go_wp2_with fail
      refine (seg_any _ _ _ _).mono ?_
      rintro e w3 ⟨rfl, hc3⟩
      have hr3 := hr2.chg hc3 (by simp)
      go_wp2_with (refine wpList_store_blk rfl 52 (.tmp 2) (.tmp 13) rfl rfl hr3 rfl rfl rfl (by kernel_rfl) rfl ?_; intro w4 hb4 hc4)
      exact bodyPost_ret (results_blk2 rfl rfl hb4 _ Try.underlying52 rfl (by kernel_rfl)) rfl ⟨rfl, (((hc0.trans hc1).trans hc2).trans hc3).trans' hc4 (by simp)⟩
  · have H4 := Lib.hid h4
    have hf : resetF t n = (zeroT, false) := by simp [resetF, h4]
    rw [hf]
    clear h4 hf
    unfold enT zeroT at *
    go_enter Try.func25, Try.ntmps25
    go_wp2_with fail
    refine (has_any t o (.slice A n c) 4 _).mono ?_
    rw [H4.out]
    rintro e w1 ⟨rfl, hc1⟩
    have hr1 := hr0.chg hc1 (by simp)
    have x0 := hr1.cell 0
    have x1 := hr1.cell 1
    have x2 := hr1.cell 2
    have x3 := hr1.cell 3
    have x4 := hr1.cell 4
    have x5 := hr1.cell 5
    have x6 := hr1.cell 6
    have x7 := hr1.cell 7
    have x8 := hr1.cell 8
    have x9 := hr1.cell 9
    simp only [List.getElem?_toArray, List.getElem?_cons_succ, List.getElem?_cons_zero] at x0 x1 x2 x3 x4 x5 x6 x7 x8 x9
    go_wp2_with (refine wpList_store_blk rfl 52 (.tmp 2) (.tmp 7) rfl rfl hr1 rfl rfl rfl (by kernel_rfl) rfl ?_; intro w4 hb4 hc4)
    exact bodyPost_ret (results_blk2 rfl rfl hb4 _ Try.underlying52 rfl (by kernel_rfl)) rfl ⟨rfl, (hc0.trans hc1).trans' hc4 (by simp)⟩

set_option maxHeartbeats 1000000 in
theorem rreset_any (t : TC) (o : Value) (A : Option Addr) (n c : Nat) (w : World) :
    Calls Try.prog 26 #[.agg (enT t o (.slice A n c))] w fun e w' => e = .returned (.tuple #[.agg (enT (resetF t n).1 (.slice none 0 0) (.slice none 0 0)), .bool (resetF t n).2]) ∧ Chg [] w w' := by
  have hc0 : Chg [] w ((w.alloc (.cells (enT t o (.slice A n c)) 52)).alloc (.cells (enT zeroT (.slice none 0 0) (.slice none 0 0)) 52)) := ((Chg.refl _ _).alloc _).alloc _
  have ht0 : Blk ((w.alloc (.cells (enT t o (.slice A n c)) 52)).alloc (.cells (enT zeroT (.slice none 0 0) (.slice none 0 0)) 52)) w.heap.size 52 (enT t o (.slice A n c)) := (Blk.new _ _ _).alloc _
  have hr0 : Blk ((w.alloc (.cells (enT t o (.slice A n c)) 52)).alloc (.cells (enT zeroT (.slice none 0 0) (.slice none 0 0)) 52)) (w.heap.size + 1) 52 (enT zeroT (.slice none 0 0) (.slice none 0 0)) := Blk.new' (by simp)
  cases h4 : hasF t.flags 4
  · have H4 := Lib.hid h4
    cases h16 : hasF t.flags 16
    · have H16 := Lib.hid h16
      have hf : resetF t n = (segF 0 (u32w (t.seq + spanF t.flags n)) 20, true) := by simp [resetF, h4, h16]
      rw [hf]
      clear h4 h16 hf
      unfold enT zeroT at *
      go_enter Try.func26, Try.ntmps26
      go_wp2_with fail
      refine (bit_any t o (.slice A n c) 4 (has4 _) _).mono ?_
      rw [H4.out]
      rintro e w1 ⟨rfl, hc1⟩
      have ht1 := ht0.chg hc1 (by simp)
      have hr1 := hr0.chg hc1 (by simp)
      have x0 := ht1.cell 0
      have x1 := ht1.cell 1
      have x2 := ht1.cell 2
      have x3 := ht1.cell 3
      have x4 := ht1.cell 4
      have x5 := ht1.cell 5
      have x6 := ht1.cell 6
      have x7 := ht1.cell 7
      have x8 := ht1.cell 8
      have x9 := ht1.cell 9
      simp only [List.getElem?_toArray, List.getElem?_cons_succ, List.getElem?_cons_zero] at x0 x1 x2 x3 x4 x5 x6 x7 x8 x9
      go_wp2_with fail
      refine (bit_any t o (.slice A n c) 16 (has16 _) _).mono ?_
      rw [H16.out]
      rintro e w2 ⟨rfl, hc2⟩
      have ht2 := ht1.chg hc2 (by simp)
      have hr2 := hr1.chg hc2 (by simp)
      clear x0 x1 x2 x3 x4 x5 x6 x7 x8 x9
      have x0 := ht2.cell 0
      have x1 := ht2.cell 1
      have x2 := ht2.cell 2
      have x3 := ht2.cell 3
      have x4 := ht2.cell 4
      have x5 := ht2.cell 5
      have x6 := ht2.cell 6
      have x7 := ht2.cell 7
      have x8 := ht2.cell 8
      have x9 := ht2.cell 9
      simp only [List.getElem?_toArray, List.getElem?_cons_succ, List.getElem?_cons_zero] at x0 x1 x2 x3 x4 x5 x6 x7 x8 x9
      go_wp2_with fail
      have hcc := (hc0.trans hc1).trans hc2
      clear hc0 hc1 hc2 ht0 ht1 hr0 hr1
      go_cut [3] (fun v wx => v = .bool true ∧ Blk wx (w.heap.size + 1) 52 (enT (segF 0 (u32w (t.seq + spanF t.flags n)) 20) (.slice none 0 0) (.slice none 0 0)) ∧ Chg [] w wx)
      case first =>
        go_region_with (first | (go_at_call 48; refine (rspan_any t o A n c _).mono ?_; rintro e w3 ⟨rfl, hc3⟩; have hr3 := hr2.drew.chg hc3 (by simp); have z2 := hc3.cell x2 (by simp)) | (go_at_call 47; refine (told_any _ _ _ _).mono ?_; rintro e w4 ⟨rfl, hc4⟩; have hr4 := hr3.chg hc4 (by simp); have q0 := hr4.cell 0; have q1 := hr4.cell 1; have q2 := hr4.cell 2; have q3 := hr4.cell 3; have q4 := hr4.cell 4; have q5 := hr4.cell 5; have q6 := hr4.cell 6; have q7 := hr4.cell 7; have q8 := hr4.cell 8; have q9 := hr4.cell 9; simp only [List.getElem?_toArray, List.getElem?_cons_succ, List.getElem?_cons_zero] at q0 q1 q2 q3 q4 q5 q6 q7 q8 q9; have fz4 := hr4.frozen; have hl4 := hr4.lt; unfold enT segF))
        all_goals
          go_wp2_with fail
          go_meet
          have hst := Chg.setCells (g := w.heap.size + 1) (enT (segF 0 (u32w (t.seq + spanF t.flags n)) 20) (.slice none 0 0) (.slice none 0 0)).toList 0 (w := w4)
          exact ⟨rfl, Blk.setAll hr4 (enT (segF 0 (u32w (t.seq + spanF t.flags n)) 20) (.slice none 0 0) (.slice none 0 0)).toList rfl, ((hcc.drew.trans hc3).trans hc4).trans' hst (by simp)⟩
      case rest =>
        obtain ⟨rfl, hb9, hc9⟩ := hcut
        go_wp2_with fail
        exact bodyPost_ret (results_blk2 rfl rfl hb9 _ Try.underlying52 rfl (by kernel_rfl)) rfl ⟨rfl, hc9⟩
    · have H16 := Lib.hid h16
      have hf : resetF t n = (segF t.ack 0 4, true) := by simp [resetF, h4, h16]
      rw [hf]
      clear h4 h16 hf
      unfold enT zeroT at *
      go_enter Try.func26, Try.ntmps26
      go_wp2_with fail
      refine (bit_any t o (.slice A n c) 4 (has4 _) _).mono ?_
      rw [H4.out]
      rintro e w1 ⟨rfl, hc1⟩
      have ht1 := ht0.chg hc1 (by simp)
      have hr1 := hr0.chg hc1 (by simp)
      have x0 := ht1.cell 0
      have x1 := ht1.cell 1
      have x2 := ht1.cell 2
      have x3 := ht1.cell 3
      have x4 := ht1.cell 4
      have x5 := ht1.cell 5
      have x6 := ht1.cell 6
      have x7 := ht1.cell 7
      have x8 := ht1.cell 8
      have x9 := ht1.cell 9
      simp only [List.getElem?_toArray, List.getElem?_cons_succ, List.getElem?_cons_zero] at x0 x1 x2 x3 x4 x5 x6 x7 x8 x9
      go_wp2_with fail
      refine (bit_any t o (.slice A n c) 16 (has16 _) _).mono ?_
      rw [H16.out]
      rintro e w2 ⟨rfl, hc2⟩
      have ht2 := ht1.chg hc2 (by simp)
      have hr2 := hr1.chg hc2 (by simp)
      clear x0 x1 x2 x3 x4 x5 x6 x7 x8 x9
      have x0 := ht2.cell 0
      have x1 := ht2.cell 1
      have x2 := ht2.cell 2
      have x3 := ht2.cell 3
      have x4 := ht2.cell 4
      have x5 := ht2.cell 5
      have x6 := ht2.cell 6
      have x7 := ht2.cell 7
      have x8 := ht2.cell 8
      have x9 := ht2.cell 9
      simp only [List.getElem?_toArray, List.getElem?_cons_succ, List.getElem?_cons_zero] at x0 x1 x2 x3 x4 x5 x6 x7 x8 x9
      go_wp2_with fail
      refine (told_any _ _ _ _).mono ?_
      rintro e w3 ⟨rfl, hc3⟩
      have hr3 := hr2.chg hc3 (by simp)
      go_wp2_with (refine wpList_store_blk rfl 52 (.tmp 2) (.tmp 11) rfl rfl hr3 rfl rfl rfl (by kernel_rfl) rfl ?_; intro w4 hb4 hc4)
      exact bodyPost_ret (results_blk2 rfl rfl hb4 _ Try.underlying52 rfl (by kernel_rfl)) rfl ⟨rfl, (((hc0.trans hc1).trans hc2).trans hc3).trans' hc4 (by simp)⟩
  · have H4 := Lib.hid h4
    have hf : resetF t n = (zeroT, false) := by simp [resetF, h4]
    rw [hf]
    clear h4 hf
    unfold enT zeroT at *
    go_enter Try.func26, Try.ntmps26
    go_wp2_with fail
    refine (bit_any t o (.slice A n c) 4 (has4 _) _).mono ?_
    rw [H4.out]
    rintro e w1 ⟨rfl, hc1⟩
    have hr1 := hr0.chg hc1 (by simp)
    have x0 := hr1.cell 0
    have x1 := hr1.cell 1
    have x2 := hr1.cell 2
    have x3 := hr1.cell 3
    have x4 := hr1.cell 4
    have x5 := hr1.cell 5
    have x6 := hr1.cell 6
    have x7 := hr1.cell 7
    have x8 := hr1.cell 8
    have x9 := hr1.cell 9
    simp only [List.getElem?_toArray, List.getElem?_cons_succ, List.getElem?_cons_zero] at x0 x1 x2 x3 x4 x5 x6 x7 x8 x9
    go_wp2_with (refine wpList_store_blk rfl 52 (.tmp 2) (.tmp 6) rfl rfl hr1 rfl rfl rfl (by kernel_rfl) rfl ?_; intro w4 hb4 hc4)
    exact bodyPost_ret (results_blk2 rfl rfl hb4 _ Try.underlying52 rfl (by kernel_rfl)) rfl ⟨rfl, (hc0.trans hc1).trans' hc4 (by simp)⟩
end Go.Proofs.Ytelbaooifmkpkaa
