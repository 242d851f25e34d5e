/-
  WALKS over packages perm and harrierref16: the order in which a backend takes slots. Condition: from 2 to 1000 slots.
-/
import Derived.Test.YtecblclpchndiaaGreatPermW
import Derived.Test.YtecblclpchndiaaGreatPickIter
import Derived.RangeFuncCalls
import Derived.Test.YtecblclpchndiaaGreatMapO
set_option linter.unusedVariables false
set_option linter.unusedSimpArgs false
namespace Go.Proofs.YtecblclpchndiaaGreat
open Go.RowKit Go.Shelf

theorem bits_u64 (op : BinOp) (x y : Int) : 0 ≤ bits op .u64 x y ∧ bits op .u64 x y < 18446744073709551616 := by
  unfold bits
  simp only
  generalize (BitVec.toNat _ : Int) = z
  simp only [IntKind.wrap, IntKind.signed, IntKind.bits]
  simp
  omega
theorem endW_nat (v : W4) : 0 ≤ endW v := by
  unfold endW xorS
  exact (bits_u64 _ _ _).1
theorem sumS_nat (ka kb : Int) (l : List Nat) : 0 ≤ sumS ka kb l := by
  unfold sumS
  exact endW_nat _
theorem pairS_nat (ka kb a b : Int) : pairS ka kb a b = ((pairS ka kb a b).toNat : Int) := by
  unfold pairS
  exact (Int.toNat_of_nonneg (sumS_nat _ _ _)).symm
/-- Which slot first; how much farther each other one. -/
def offN (ka kb node : Int) (m : Nat) : Nat := (pairS ka kb node 1).toNat % m
def skpN (ka kb node : Int) (m : Nat) : Nat := (pairS ka kb node 2).toNat % (m - 1) + 1
def ordN (ka kb : Int) (m : Nat) (node : Int) : List Nat := stepsS (offN ka kb node m) (skpN ka kb node m) m
theorem offN_lt {ka kb node : Int} {m : Nat} (h : 2 ≤ m) : offN ka kb node m < m := Nat.mod_lt _ (by omega)
theorem skpN_lt {ka kb node : Int} {m : Nat} (h : 2 ≤ m) : 1 ≤ skpN ka kb node m ∧ skpN ka kb node m < m := by
  unfold skpN
  have := Nat.mod_lt (pairS ka kb node 2).toNat (show 0 < m - 1 by omega)
  omega
theorem off_mod (ka kb node : Int) {m : Nat} (h : 2 ≤ m) : modS (pairS ka kb node 1) m = (offN ka kb node m : Nat) := by
  unfold modS offN
  rw [if_neg (by omega), pairS_nat ka kb node 1]
  generalize (pairS ka kb node 1).toNat = z
  rw [Int.toNat_natCast]
  exact (Int.natCast_emod _ _).symm
theorem skp_mod (ka kb node : Int) {m : Nat} (h : 2 ≤ m) : modS (pairS ka kb node 2) ((m - 1 : Nat) : Int) + 1 = (skpN ka kb node m : Nat) := by
  unfold modS skpN
  rw [if_neg (by omega), pairS_nat ka kb node 2]
  generalize (pairS ka kb node 2).toNat = z
  rw [Int.toNat_natCast, Int.natCast_add, Int.natCast_emod]
  rfl

set_option maxHeartbeats 400000 in
theorem may_any (m : Nat) (h2 : 2 ≤ m) (h3 : m ≤ 1000) (w : World) : Calls Tryz.prog 103 #[.int .i64 m] w fun e w' => e = .returned (.bool true) ∧ w = w' := by
  have e1 : (2 : Int) ≤ (m : Int) := by omega
  have e2 : (m : Int) ≤ 1000 := by omega
  go_enter Tryz.func103, Tryz.ntmps103
  go_wp2_with fail
  go_ret
  exact ⟨rfl, rfl⟩
set_option maxRecDepth 100000 in
set_option maxHeartbeats 1000000 in
theorem offset_any (ka kb node : Int) (m : Nat) (h2 : 2 ≤ m) (h3 : m ≤ 1000) (w : World) :
    Calls Tryz.prog 105 #[.agg #[.int .u64 ka, .int .u64 kb], .int .i64 node, .int .i64 m] w fun e w' => e = .returned (.int .i64 (offN ka kb node m)) ∧ Chg [] w w' := by
  have hA := (Chg.refl [] w).alloc (.cells #[.int .u64 ka, .int .u64 kb] 24)
  have hB1 : Blk (w.alloc (.cells #[.int .u64 ka, .int .u64 kb] 24)) w.heap.size 24 #[.int .u64 ka, .int .u64 kb] := Blk.new _ _ _
  have R1 := Lib.hid hB1.rangeQ
  have HA := Lib.hid hA
  have HF := Lib.hid (fun W => pair_any W ka kb node 1)
  have HM := Lib.hid (fun W => mod_any W (pairS ka kb node 1) m (by unfold pairS; exact sumS_nat _ _ _) (by omega))
  have HO := Lib.hid (off_mod ka kb node h2)
  have F1 := Lib.hid (fun W => may_any m h2 h3 W)
  clear hA hB1
  go_enter Tryz.func105, Tryz.ntmps105
  go_wp2_with fail
  refine (F1.out _).mono ?_
  rintro e w1 ⟨rfl, rfl⟩
  go_wp2_with (first
    | (refine wpList_row 24 (.tmp 3) rfl rfl w.heap.size 0 rfl _ _ R1.out Tryz.underlying24 rfl (by kernel_rfl) ?_)
    | fail)
  refine (HF.out _).mono ?_
  rintro e w1 ⟨rfl, hc1⟩
  go_wp2_with fail
  refine (HM.out _).mono ?_
  rintro e w2 ⟨rfl, rfl⟩
  rw [HO.out]
  go_wp2_with fail
  go_ret
  exact ⟨rfl, HA.out.trans hc1⟩
set_option maxRecDepth 100000 in
set_option maxHeartbeats 1000000 in
theorem skip_any (ka kb node : Int) (m : Nat) (h2 : 2 ≤ m) (h3 : m ≤ 1000) (w : World) :
    Calls Tryz.prog 106 #[.agg #[.int .u64 ka, .int .u64 kb], .int .i64 node, .int .i64 m] w fun e w' => e = .returned (.int .i64 (skpN ka kb node m)) ∧ Chg [] w w' := by
  have hA := (Chg.refl [] w).alloc (.cells #[.int .u64 ka, .int .u64 kb] 24)
  have hB1 : Blk (w.alloc (.cells #[.int .u64 ka, .int .u64 kb] 24)) w.heap.size 24 #[.int .u64 ka, .int .u64 kb] := Blk.new _ _ _
  have R1 := Lib.hid hB1.rangeQ
  have HA := Lib.hid hA
  have HF := Lib.hid (fun W => pair_any W ka kb node 2)
  have HM := Lib.hid (fun W => mod_any W (pairS ka kb node 2) ((m - 1 : Nat) : Int) (by unfold pairS; exact sumS_nat _ _ _) (by omega))
  have HO := Lib.hid (skp_mod ka kb node h2)
  have F1 := Lib.hid (fun W => may_any m h2 h3 W)
  have hm1 : IntKind.i64.wrap ((m : Int) - 1) = ((m - 1 : Nat) : Int) := by rw [IntKind.wrap_i64]; omega
  have hlt := (skpN_lt (ka := ka) (kb := kb) (node := node) h2).2
  clear hA hB1
  go_enter Tryz.func106, Tryz.ntmps106
  go_wp2_with fail
  refine (F1.out _).mono ?_
  rintro e w1 ⟨rfl, rfl⟩
  go_wp2_with (first
    | (refine wpList_row 24 (.tmp 3) rfl rfl w.heap.size 0 rfl _ _ R1.out Tryz.underlying24 rfl (by kernel_rfl) ?_)
    | fail)
  refine (HF.out _).mono ?_
  rintro e w1 ⟨rfl, hc1⟩
  generalize m - 1 = m1 at *
  go_wp2_with fail
  refine (HM.out _).mono ?_
  rintro e w2 ⟨rfl, rfl⟩
  have hw : IntKind.i64.wrap (modS (pairS ka kb node 2) (m1 : Int) + 1) = ((skpN ka kb node m : Nat) : Int) := by rw [HO.out, IntKind.wrap_i64]; omega
  clear HM HO HF F1
  generalize modS (pairS ka kb node 2) (m1 : Int) = q at *
  go_wp2_with fail
  go_ret
  exact ⟨rfl, HA.out.trans hc1⟩
end Go.Proofs.YtecblclpchndiaaGreat
