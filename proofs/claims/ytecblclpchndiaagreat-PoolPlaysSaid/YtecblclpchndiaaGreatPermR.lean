/-
  WALKS over package harrierref16: At, Of. Condition: from 2 to 1000 slots.
-/
import Derived.Test.YtecblclpchndiaaGreatPermO
set_option linter.unusedVariables false
set_option linter.unusedSimpArgs false
namespace Go.Proofs.YtecblclpchndiaaGreat
open Go.RowKit

theorem own_less16 {w : World} {B B' size n : Nat} {e : TypeId} {v : Value} {xs : List Value} (h : w.ownsRow B e size v n xs) (hB : B' ≤ B) : w.ownsRow B' e size v n xs := by
  refine ⟨h.1, ?_⟩
  rcases h.2 with h2 | ⟨g, cap, cur, a, b, c⟩
  · exact .inl h2
  · exact .inr ⟨g, cap, cur, a, Nat.le_trans hB b, c⟩
theorem off_mod2 (ka kb node : Int) (m : Nat) : (pairS ka kb node 1) % (m : Int) = (offN ka kb node m : Nat) := by
  unfold offN
  rw [pairS_nat ka kb node 1]
  generalize (pairS ka kb node 1).toNat = z
  rw [Int.toNat_natCast]
  exact (Int.natCast_emod _ _).symm
theorem skp_mod2 (ka kb node : Int) (m : Nat) : (pairS ka kb node 2) % ((m - 1 : Nat) : Int) + 1 = (skpN ka kb node m : Nat) := by
  unfold skpN
  rw [pairS_nat ka kb node 2]
  generalize (pairS ka kb node 2).toNat = z
  rw [Int.toNat_natCast, Int.natCast_add, Int.natCast_emod]
  rfl
set_option maxRecDepth 100000 in
set_option maxHeartbeats 1000000 in
theorem at16_any (ka kb node : Int) (m i : Nat) (h2 : 2 ≤ m) (h3 : m ≤ 1000) (hi : i < m) (w : World) :
    Calls Tryz.prog 54 #[.agg #[.int .u64 ka, .int .u64 kb], .int .i64 node, .int .i64 m, .int .i64 i] w fun e w' => e = .returned (.int .i64 (((offN ka kb node m + i * skpN ka kb node m) % m : Nat))) ∧ Chg [] w w' := by
  have hA := (Chg.refl [] w).alloc (.cells #[.int .u64 ka, .int .u64 kb] 41)
  have hB1 : Blk (w.alloc (.cells #[.int .u64 ka, .int .u64 kb] 41)) w.heap.size 41 #[.int .u64 ka, .int .u64 kb] := Blk.new _ _ _
  have HA := Lib.hid (And.intro hA hB1)
  have R1 := Lib.hid hB1.rangeQ
  have F1 := Lib.hid (fun W => pair15_any W ka kb node 1)
  have F2 := Lib.hid (fun W => pair15_any W ka kb node 2)
  have HO := Lib.hid (off_mod2 ka kb node m)
  have HS := Lib.hid (skp_mod2 ka kb node m)
  have hn1 : 0 ≤ pairS ka kb node 1 := by unfold pairS; exact sumS_nat _ _ _
  have hn2 : 0 ≤ pairS ka kb node 2 := by unfold pairS; exact sumS_nat _ _ _
  have hoff := offN_lt (ka := ka) (kb := kb) (node := node) h2
  have hskp := skpN_lt (ka := ka) (kb := kb) (node := node) h2
  generalize pairS ka kb node 1 = p1 at *
  generalize pairS ka kb node 2 = p2 at *
  generalize offN ka kb node m = off at *
  generalize skpN ka kb node m = skp at *
  clear hA hB1
  have e1 : p1.tmod (m : Int) = (off : Int) := by rw [Int.tmod_eq_emod_of_nonneg hn1]; exact HO.out
  have e1' : p1 % (m : Int) = (off : Int) := HO.out
  have e2' : p2 % ((m - 1 : Nat) : Int) = ((skp - 1 : Nat) : Int) := by have := HS.out; omega
  have e2 : p2.tmod ((m - 1 : Nat) : Int) = ((skp - 1 : Nat) : Int) := by rw [Int.tmod_eq_emod_of_nonneg hn2]; exact e2'
  have m1 : IntKind.u64.wrap (m : Int) = (m : Int) := wrap_nat (by omega)
  have m2 : IntKind.i64.wrap ((m : Int) - 1) = ((m - 1 : Nat) : Int) := by rw [IntKind.wrap_i64]; omega
  have m3 : IntKind.u64.wrap ((m - 1 : Nat) : Int) = ((m - 1 : Nat) : Int) := wrap_nat (by omega)
  have m4 : IntKind.i64.wrap (off : Int) = (off : Int) := by rw [IntKind.wrap_i64]; omega
  have m5 : IntKind.i64.wrap ((skp - 1 : Nat) : Int) = ((skp - 1 : Nat) : Int) := by rw [IntKind.wrap_i64]; omega
  have m6 : IntKind.i64.wrap (((skp - 1 : Nat) : Int) + 1) = (skp : Int) := by rw [IntKind.wrap_i64]; omega
  have hb : i * skp ≤ 1000 * 1000 := Nat.mul_le_mul (by omega) (by omega)
  have m7 : IntKind.i64.wrap ((i : Int) * (skp : Int)) = ((i * skp : Nat) : Int) := by rw [IntKind.wrap_i64]; push_cast; omega
  have m8 : IntKind.i64.wrap ((off : Int) + ((i * skp : Nat) : Int)) = ((off + i * skp : Nat) : Int) := by rw [IntKind.wrap_i64]; omega
  have m9 : ((off + i * skp : Nat) : Int).tmod (m : Int) = (((off + i * skp) % m : Nat) : Int) := rfl
  have m9' : ((off + i * skp : Nat) : Int) % (m : Int) = (((off + i * skp) % m : Nat) : Int) := rfl
  have z1 : ¬ m = 0 := by omega
  have z2 : ¬ m - 1 = 0 := by omega
  generalize (off + i * skp) % m = r at *
  generalize off + i * skp = q at *
  generalize i * skp = is_ at *
  generalize m - 1 = mm at *
  generalize skp - 1 = sm at *
  clear HO HS hn1 hn2
  go_enter Tryz.func54, Tryz.ntmps54
  go_wp2_with (first
    | (refine wpList_row 41 (.tmp 4) rfl rfl w.heap.size 0 rfl _ _ R1.out Tryz.underlying41 rfl (by kernel_rfl) ?_)
    | fail)
  refine (F1.out _).mono ?_
  rintro e w1 ⟨rfl, hc1⟩
  have R2 := Lib.hid (HA.out.2.chg hc1 (by simp)).rangeQ
  clear R1 F1
  go_wp2_with (first
    | (refine wpList_row 41 (.tmp 4) rfl rfl w.heap.size 0 rfl _ _ R2.out Tryz.underlying41 rfl (by kernel_rfl) ?_)
    | fail)
  refine (F2.out _).mono ?_
  rintro e w2 ⟨rfl, hc2⟩
  clear R2 F2
  go_wp2_with fail
  go_ret
  exact ⟨rfl, (HA.out.1.trans hc1).trans hc2⟩

set_option maxRecDepth 100000 in
set_option maxHeartbeats 2000000 in
theorem of16_any (ka kb node : Int) (m : Nat) (h2 : 2 ≤ m) (h3 : m ≤ 1000) (w : World) :
    Calls Tryz.prog 33 #[.agg #[.int .u64 ka, .int .u64 kb], .int .i64 node, .int .i64 m] w fun e w' => ∃ v, e = .returned v ∧ w'.ownsRow w.heap.size 3 1 v m ((ordN ka kb m node).map (fun x : Nat => Value.int .i64 x)) ∧ Chg [] w w' := by
  have hA := (Chg.refl [] w).alloc (.cells #[.int .u64 ka, .int .u64 kb] 41)
  have hB1 : Blk (w.alloc (.cells #[.int .u64 ka, .int .u64 kb] 41)) w.heap.size 41 #[.int .u64 ka, .int .u64 kb] := Blk.new _ _ _
  have hzz : (w.alloc (.cells #[.int .u64 ka, .int .u64 kb] 41)).heap.size = w.heap.size + 1 := by simp
  have HA := Lib.hid (And.intro hA (And.intro hB1 hzz))
  have F1 := Lib.hid (fun W i (hi : i < m) => at16_any ka kb node m i h2 h3 hi W)
  have HR : Hid (ordN ka kb m node = upto (fun i => (offN ka kb node m + i * skpN ka kb node m) % m) m) := Lib.hid rfl
  generalize hf : (fun i => (offN ka kb node m + i * skpN ka kb node m) % m) = f at *
  have F1' : Hid (∀ (W : World) i, i < m → Calls Tryz.prog 54 #[.agg #[.int .u64 ka, .int .u64 kb], .int .i64 node, .int .i64 m, .int .i64 i] W fun e w' => e = .returned (.int .i64 (f i : Nat)) ∧ Chg [] W w') := Lib.hid (by
    subst hf; exact F1.out)
  clear hf F1 hA hB1 hzz
  have HU := Lib.hid (fun k => upto_succ f k)
  go_enter Tryz.func33, Tryz.ntmps33
  go_wp2_with fail
  obtain ⟨hA, hB1, hzz⟩ := HA.out
  generalize (w.alloc (.cells #[.int .u64 ka, .int .u64 kb] 41)) = w1 at *
  have h0 : w1.ownsRow (w.heap.size + 1) 3 1 (.slice none 0 0) 0 ((upto f 0).map (fun x : Nat => Value.int .i64 x)) := World.ownsRow_nil ..
  have hz1 : w.heap.size + 1 ≤ w1.heap.size := hB1.lt
  have hm2 : (2 : Int) ≤ (m : Int) := by omega
  have hm3 : (m : Int) ≤ 1000 := by omega
  go_loopw [7, 8] (fun u iv wr => ∃ k : Nat, k ≤ m ∧ iv = .int .i64 k ∧ wr.ownsRow (w.heap.size + 1) 3 1 u k ((upto f k).map (fun x : Nat => Value.int .i64 x)) ∧ Hid (Chg [] w1 wr)) (fun _ iv _ => m - (intOf iv).toNat)
  case atStart => exact ⟨0, by omega, rfl, h0, Lib.hid (Chg.refl _ _)⟩
  case round =>
    obtain ⟨k, hk, rfl, hrow, HC⟩ := hrel
    by_cases hlt : k < m
    · have hcn : (k : Int) < (m : Int) := by omega
      have R1 := Lib.hid (hB1.chg HC.out (by simp)).rangeQ
      have G1 := Lib.hid (F1'.out wr k hlt)
      go_wp2_with (first
        | (refine wpList_row 41 (.tmp 3) rfl rfl w.heap.size 0 rfl _ _ R1.out Tryz.underlying41 rfl (by kernel_rfl) ?_)
        | fail)
      refine G1.out.mono ?_
      rintro e w2 ⟨rfl, hc2⟩
      have HUk := Lib.hid (HU.out k)
      generalize f k = x at *
      have hA2 := hc2.alloc (.cells #[.int .i64 (x : Int)] 3)
      have hrow2 := own_chg hrow hA2 (by simp)
      have hcat : Sl (w2.alloc (.cells #[.int .i64 (x : Int)] 3)) 0 1 (.slice (some ⟨w2.heap.size, 0, none⟩) 1 1) 1 [.int .i64 (x : Int)] :=
        Sl.of_own (own_lit (base := 0) w2 3 1 1 #[.int .i64 (x : Int)] (Nat.zero_le _) (by simp [maxLen]) rfl)
      have HC2 := Lib.hid (HC.out.trans hA2)
      have hz2 := HC2.out.size
      have hz3 : w.heap.size + 1 ≤ (w2.alloc (.cells #[.int .i64 (x : Int)] 3)).heap.size := by omega
      have HL := Lib.hid (own_lt hrow2)
      clear G1 R1 hc2 hA2 hrow HC F1' HU
      go_wp2_with (first
        | (at_builtin; refine wpList_app elZ rfl (.tmp 22) (.tmp 28) rfl (w.heap.size + 1) rfl hrow2 rfl hcat (by intro u hu; simp at hu; subst hu; rfl) (by unfold maxLen; omega) (by omega) hz3 ?_; intro v3 w3 hown3 hc3 hb3)
        | fail)
      have HR3 : Hid (w3.ownsRow (w.heap.size + 1) 3 1 v3 (k + 1) ((upto f (k + 1)).map (fun x : Nat => Value.int .i64 x))) := Lib.hid (by rw [HUk.out, List.map_append]; exact hown3)
      have HC3 := Lib.hid (HC2.out.trans' hc3 (fun y hy => .inr (by
        have := (HL.out y hy)
        omega)))
      go_roundw
      case rel => exact ⟨k + 1, by omega, by go_num, HR3.out, HC3⟩
      case measure => simp [intOf] <;> omega
    · obtain rfl : k = m := by omega
      go_wp2_with fail
      go_ret
      refine ⟨_, rfl, ?_, hA.trans HC.out⟩
      rw [HR.out]
      exact own_less16 hrow (by omega)
end Go.Proofs.YtecblclpchndiaaGreat
