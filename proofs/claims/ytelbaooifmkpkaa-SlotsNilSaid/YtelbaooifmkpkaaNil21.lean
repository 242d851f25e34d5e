/-
  WALKS: a table that there is not, or that no call made. Condition: the pointer is nil, or its struct has no hash.
-/
import Derived.Test.YtelbaooifmkpkaaSlotW2
import Derived.Test.YtelbaooifmkpkaaLives21
import Derived.Test.YtelbaooifmkpkaaFrame
set_option linter.unusedVariables false
set_option linter.unusedSimpArgs false
namespace Go.Proofs.Ytelbaooifmkpkaa
open Go.RowKit

def NoTab (w : World) (pv : Value) : Prop := pv = .pointer none ∨ ∃ b, pv = .pointer (some ⟨b, 0, none⟩) ∧ w.cell? ⟨b, 0, none⟩ = some .nilFunc
theorem NoTab.chg {w w' : World} {pv : Value} (h : NoTab w pv) (hc : Chg [] w w') : NoTab w' pv := by
  rcases h with h | ⟨b, h, hb⟩
  · exact .inl h
  · exact .inr ⟨b, h, hc.cell hb (by simp)⟩

set_option maxHeartbeats 400000 in
theorem is_no (pv : Value) {w : World} (h : NoTab w pv) :
    Calls Try.prog 36 #[pv] w fun e w' => e = .returned (.bool false) ∧ w = w' := by
  rcases h with rfl | ⟨b, rfl, hb⟩
  · go_enter Try.func36, Try.ntmps36
    go_wp2
    go_ret
    exact ⟨rfl, rfl⟩
  · have hnn := run_neq_nil_nil (P := Try.prog) Try.underlying25
    go_enter Try.func36, Try.ntmps36
    go_wp2
    go_ret
    exact ⟨rfl, rfl⟩

set_option maxHeartbeats 400000 in
theorem put_no (pv : Value) (k v : Int) {w : World} (h : NoTab w pv) :
    Calls Try.prog 11 #[pv, .int .i64 k, .int .i64 v] w fun e w' => e = .returned (.bool false) ∧ w = w' := by
  go_enter Try.func11, Try.ntmps11
  go_wp2_with fail
  refine (is_no pv h).mono ?_
  rintro e w' ⟨rfl, rfl⟩
  go_wp2_with fail
  go_ret
  exact ⟨rfl, rfl⟩

set_option maxHeartbeats 400000 in
theorem del_no (pv : Value) (k : Int) {w : World} (h : NoTab w pv) :
    Calls Try.prog 13 #[pv, .int .i64 k] w fun e w' => e = .returned (.bool false) ∧ w = w' := by
  go_enter Try.func13, Try.ntmps13
  go_wp2_with fail
  refine (is_no pv h).mono ?_
  rintro e w' ⟨rfl, rfl⟩
  go_wp2_with fail
  go_ret
  exact ⟨rfl, rfl⟩

set_option maxHeartbeats 400000 in
theorem get_no (pv : Value) (k : Int) {w : World} (h : NoTab w pv) :
    Calls Try.prog 15 #[pv, .int .i64 k] w fun e w' => e = .returned (.tuple #[.int .i64 0, .bool false]) ∧ w = w' := by
  go_enter Try.func15, Try.ntmps15
  go_wp2_with fail
  refine (is_no pv h).mono ?_
  rintro e w' ⟨rfl, rfl⟩
  go_wp2_with fail
  go_ret2
  exact ⟨rfl, rfl⟩

set_option maxHeartbeats 400000 in
theorem home_no (pv : Value) (k : Int) {w : World} (h : NoTab w pv) :
    Calls Try.prog 24 #[pv, .int .i64 k] w fun e w' => e = .returned (.int .i64 0) ∧ w = w' := by
  go_enter Try.func24, Try.ntmps24
  go_wp2_with fail
  refine (is_no pv h).mono ?_
  rintro e w' ⟨rfl, rfl⟩
  go_wp2_with fail
  go_ret
  exact ⟨rfl, rfl⟩

set_option maxHeartbeats 400000 in
theorem len_no (pv : Value) {w : World} (h : NoTab w pv) :
    Calls Try.prog 17 #[pv] w fun e w' => e = .returned (.int .i64 0) ∧ w = w' := by
  go_enter Try.func17, Try.ntmps17
  go_wp2_with fail
  refine (is_no pv h).mono ?_
  rintro e w' ⟨rfl, rfl⟩
  go_wp2_with fail
  go_ret
  exact ⟨rfl, rfl⟩

set_option maxHeartbeats 400000 in
theorem cap_no (pv : Value) {w : World} (h : NoTab w pv) :
    Calls Try.prog 18 #[pv] w fun e w' => e = .returned (.int .i64 0) ∧ w = w' := by
  go_enter Try.func18, Try.ntmps18
  go_wp2_with fail
  refine (is_no pv h).mono ?_
  rintro e w' ⟨rfl, rfl⟩
  go_wp2_with fail
  go_ret
  exact ⟨rfl, rfl⟩

set_option maxHeartbeats 400000 in
/-- Of an empty table no cell tells anything; beyond the last one there is none. -/
theorem cell_empty {b c n : Nat} {m : Int} (i : Int) {w : World} (h : Tab w b c n (fun _ => free) m) :
    Calls Try.prog 23 #[.pointer (some ⟨b, 0, none⟩), .int .i64 i] w fun e w' =>
      e = .returned (.tuple #[.int .i64 0, .int .i64 0, .bool false]) ∧ Chg [] w w' := by
  by_cases h0 : i < 0
  · have d1 : decide (i < 0) = true := by simp [h0]
    go_enter Try.func23, Try.ntmps23
    go_wp2_with fail
    go_ret3
    exact ⟨rfl, Chg.refl _ _⟩
  · by_cases h1 : i < n
    · obtain ⟨j, rfl⟩ := Int.eq_ofNat_of_zero_le (show 0 ≤ i by omega)
      refine (cell_any j h (by omega)).mono ?_
      rintro e w' ⟨he, hc⟩
      exact ⟨he, hc⟩
    · have d1 : decide (i < 0) = false := by simp; omega
      have d2 : decide ((n : Int) ≤ i) = true := by simp; omega
      go_enter Try.func23, Try.ntmps23
      go_wp2_with fail
      refine (cap_any h).mono ?_
      rintro e w' ⟨rfl, rfl⟩
      go_wp2_with fail
      go_ret3
      exact ⟨rfl, Chg.refl _ _⟩

set_option maxRecDepth 100000 in
set_option maxHeartbeats 2000000 in
theorem nil21 (k n : Int) (w : World) :
    Calls Try.prog 6 #[.int .i64 k, .int .i64 n] w fun e w' => e = .returned (.bool true) ∧ Chg [] w w' := by
  have hN : NoTab (w.alloc (.cells #[.nilFunc, .slice none 0 0, .int .i64 0] 63)) (.pointer (some ⟨w.heap.size, 0, none⟩)) := .inr ⟨_, rfl, ((Blk.new _ _ _).cell 0).trans rfl⟩
  have hc0 : Chg [] w (w.alloc (.cells #[.nilFunc, .slice none 0 0, .int .i64 0] 63)) := (Chg.refl _ _).alloc _
  go_enter Try.func6, Try.ntmps6
  go_wp2_with fail
  refine (get_no (.pointer none) k (.inl rfl)).mono ?_
  rintro e w' ⟨rfl, rfl⟩
  go_wp2_with fail
  refine (get_no _ k hN).mono ?_
  rintro e w' ⟨rfl, rfl⟩
  go_wp2_with fail
  refine (new_any 3 _ (by omega) (by omega)).mono ?_
  rintro e w1 ⟨b, c, rfl, hb, hc, ht1, hc1⟩
  have hN1 := hN.chg hc1
  have hcc := hc0.trans hc1
  clear hN hc0
  go_wp2_with fail
  refine (cell_empty n ht1).mono ?_
  rintro e w2 ⟨rfl, hc2⟩
  have hN2 := hN1.chg hc2
  have hcc2 := hcc.trans hc2
  clear hN1 hcc
  go_wp2_with fail
  refine (put_no (.pointer none) k n (.inl rfl)).mono ?_
  rintro e w' ⟨rfl, rfl⟩
  go_wp2_with fail
  refine (put_no _ k n hN2).mono ?_
  rintro e w' ⟨rfl, rfl⟩
  go_wp2_with fail
  refine (del_no (.pointer none) k (.inl rfl)).mono ?_
  rintro e w' ⟨rfl, rfl⟩
  go_wp2_with fail
  refine (del_no _ k hN2).mono ?_
  rintro e w' ⟨rfl, rfl⟩
  go_wp2_with fail
  refine (len_no (.pointer none) (.inl rfl)).mono ?_
  rintro e w' ⟨rfl, rfl⟩
  go_wp2_with fail
  refine (cap_no (.pointer none) (.inl rfl)).mono ?_
  rintro e w' ⟨rfl, rfl⟩
  go_wp2_with fail
  refine (home_no (.pointer none) k (.inl rfl)).mono ?_
  rintro e w' ⟨rfl, rfl⟩
  go_wp2_with fail
  refine (len_no _ hN2).mono ?_
  rintro e w' ⟨rfl, rfl⟩
  go_wp2_with fail
  refine (cap_no _ hN2).mono ?_
  rintro e w' ⟨rfl, rfl⟩
  go_wp2_with fail
  refine (home_no _ k hN2).mono ?_
  rintro e w' ⟨rfl, rfl⟩
  go_wp2_with fail
  refine (lives21 _).mono ?_
  rintro e w3 ⟨rfl, hc3⟩
  go_wp2_with fail
  go_ret
  exact ⟨rfl, hcc2.trans hc3⟩
end Go.Proofs.Ytelbaooifmkpkaa
