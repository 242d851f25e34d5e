/-
  WALKS: a wheel that there is not, or that no call made; WheelNil. No condition.
-/
import Derived.Test.YtojkbljpjpifoaaWheelLives
set_option linter.unusedVariables false
set_option linter.unusedSimpArgs false
namespace Go.Proofs.Ytojkbljpjpifoaa
open Go.RowKit Go.Maps

def NoW (w : World) (pv : Value) : Prop := pv = .pointer none ∨ ∃ b, pv = .pointer (some ⟨b, 0, none⟩) ∧ w.cell? ⟨b, 0, none⟩ = some (.bool false)
theorem NoW.chg {w w' : World} {pv : Value} (h : NoW w pv) (hc : Chg [] w w') : NoW w' pv := by
  rcases h with h | ⟨b, h, hb⟩
  · exact .inl h
  · exact .inr ⟨b, h, hc.cell hb (by simp)⟩

set_option maxHeartbeats 400000 in
theorem is_no (pv : Value) {w : World} (h : NoW w pv) :
    Calls Try.prog 31 #[pv] w fun e w' => e = .returned (.bool false) ∧ w = w' := by
  rcases h with rfl | ⟨b, rfl, hb⟩
  · go_enter Try.func31, Try.ntmps31
    go_wp2
    go_ret
    exact ⟨rfl, rfl⟩
  · go_enter Try.func31, Try.ntmps31
    go_wp2
    go_ret
    exact ⟨rfl, rfl⟩

set_option maxHeartbeats 400000 in
theorem when_no (pv : Value) (id : Int) {w : World} (h : NoW w pv) :
    Calls Try.prog 9 #[pv, .int .i64 id] w fun e w' => e = .returned (.tuple #[.int .i64 0, .bool false]) ∧ w = w' := by
  go_enter Try.func9, Try.ntmps9
  go_wp2_with fail
  refine (is_no pv h).mono ?_
  rintro e w' ⟨rfl, rfl⟩
  go_wp2_with fail
  go_ret2
  exact ⟨rfl, rfl⟩

set_option maxHeartbeats 400000 in
theorem setN_no (pv : Value) (id at_ : Int) {w : World} (h : NoW w pv) :
    Calls Try.prog 10 #[pv, .int .i64 id, .int .i64 at_] w fun e w' => e = .returned (.bool false) ∧ w = w' := by
  go_enter Try.func10, Try.ntmps10
  go_wp2_with fail
  refine (is_no pv h).mono ?_
  rintro e w' ⟨rfl, rfl⟩
  go_wp2_with fail
  go_ret
  exact ⟨rfl, rfl⟩

set_option maxHeartbeats 400000 in
theorem unset_no (pv : Value) (id : Int) {w : World} (h : NoW w pv) :
    Calls Try.prog 12 #[pv, .int .i64 id] w fun e w' => e = .returned (.bool false) ∧ Chg [] w w' := by
  have hA := (Chg.refl [] w).alloc (.cells #[.int .i64 id] 3)
  have F1 := Lib.hid (when_no pv id (h.chg hA))
  go_enter Try.func12, Try.ntmps12
  go_wp2_with fail
  refine F1.out.mono ?_
  rintro e w' ⟨rfl, rfl⟩
  go_wp2_with fail
  go_ret
  exact ⟨rfl, hA⟩

set_option maxHeartbeats 400000 in
theorem advance_no (pv : Value) {w : World} (h : NoW w pv) :
    Calls Try.prog 16 #[pv] w fun e w' => e = .returned (.slice none 0 0) ∧ w = w' := by
  go_enter Try.func16, Try.ntmps16
  go_wp2_with fail
  refine (is_no pv h).mono ?_
  rintro e w' ⟨rfl, rfl⟩
  go_wp2_with fail
  go_ret
  exact ⟨rfl, rfl⟩

set_option maxHeartbeats 400000 in
theorem now_no (pv : Value) {w : World} (h : NoW w pv) :
    Calls Try.prog 17 #[pv] w fun e w' => e = .returned (.int .i64 0) ∧ w = w' := by
  go_enter Try.func17, Try.ntmps17
  go_wp2_with fail
  refine (is_no pv h).mono ?_
  rintro e w' ⟨rfl, rfl⟩
  go_wp2_with fail
  go_ret
  exact ⟨rfl, rfl⟩

set_option maxHeartbeats 400000 in
theorem len_no (pv : Value) {w : World} (h : NoW w pv) :
    Calls Try.prog 18 #[pv] w fun e w' => e = .returned (.int .i64 0) ∧ w = w' := by
  go_enter Try.func18, Try.ntmps18
  go_wp2_with fail
  refine (is_no pv h).mono ?_
  rintro e w' ⟨rfl, rfl⟩
  go_wp2_with fail
  go_ret
  exact ⟨rfl, rfl⟩

def nilC : Array Value := #[.bool false, .int .i64 0, .slice none 0 0, .slice none 0 0, .slice none 0 0, .slice none 0 0, .slice none 0 0, .slice none 0 0, .slice none 0 0, .slice none 0 0, .slice none 0 0, .slice none 0 0, .slice none 0 0, .slice none 0 0, .slice none 0 0, .slice none 0 0, .slice none 0 0, .slice none 0 0, .map none]
set_option maxRecDepth 100000 in
set_option maxHeartbeats 1000000 in
theorem nil23 (id at_ : Int) (w : World) : Calls Try.prog 5 #[.int .i64 id, .int .i64 at_] w fun e w' => e = .returned (.bool true) ∧ Chg [] w w' := by
  have hA := (Chg.refl [] w).alloc (.cells nilC 49)
  have n2 : NoW (w.alloc (.cells nilC 49)) (.pointer (some ⟨w.heap.size, 0, none⟩)) := .inr ⟨_, rfl, (Blk.new w 49 nilC).cell 0⟩
  simp only [nilC] at hA n2
  go_enter Try.func5, Try.ntmps5
  go_wp2_with fail
  generalize w.alloc _ = w0 at *
  have N2 := Lib.hid (fun w1 (hc : Chg [] w0 w1) => n2.chg hc)
  have hz := Chg.refl [] w0
  clear n2
  refine (when_no (.pointer none) id (.inl rfl)).mono ?_
  rintro e w9 ⟨rfl, rfl⟩
  go_wp2_with fail
  refine (when_no (.pointer (some ⟨w.heap.size, 0, none⟩)) id (N2.out _ hz)).mono ?_
  rintro e w9 ⟨rfl, rfl⟩
  go_wp2_with fail
  refine (setN_no (.pointer none) id at_ (.inl rfl)).mono ?_
  rintro e w9 ⟨rfl, rfl⟩
  go_wp2_with fail
  refine (setN_no (.pointer (some ⟨w.heap.size, 0, none⟩)) id at_ (N2.out _ hz)).mono ?_
  rintro e w9 ⟨rfl, rfl⟩
  go_wp2_with fail
  refine (unset_no (.pointer none) id (.inl rfl)).mono ?_
  rintro e w9 ⟨rfl, hc9⟩
  replace hz := hz.trans hc9
  clear hc9
  go_wp2_with fail
  refine (unset_no (.pointer (some ⟨w.heap.size, 0, none⟩)) id (N2.out _ hz)).mono ?_
  rintro e w9 ⟨rfl, hc9⟩
  replace hz := hz.trans hc9
  clear hc9
  go_wp2_with fail
  refine (advance_no (.pointer none) (.inl rfl)).mono ?_
  rintro e w9 ⟨rfl, rfl⟩
  go_wp2_with fail
  refine (advance_no (.pointer (some ⟨w.heap.size, 0, none⟩)) (N2.out _ hz)).mono ?_
  rintro e w9 ⟨rfl, rfl⟩
  go_wp2_with fail
  refine (now_no (.pointer none) (.inl rfl)).mono ?_
  rintro e w9 ⟨rfl, rfl⟩
  go_wp2_with fail
  refine (now_no (.pointer (some ⟨w.heap.size, 0, none⟩)) (N2.out _ hz)).mono ?_
  rintro e w9 ⟨rfl, rfl⟩
  go_wp2_with fail
  refine (len_no (.pointer none) (.inl rfl)).mono ?_
  rintro e w9 ⟨rfl, rfl⟩
  go_wp2_with fail
  refine (len_no (.pointer (some ⟨w.heap.size, 0, none⟩)) (N2.out _ hz)).mono ?_
  rintro e w9 ⟨rfl, rfl⟩
  go_wp2_with fail
  refine (lives23 _).mono ?_
  rintro e w9 ⟨rfl, hc9⟩
  go_wp2_with fail
  go_ret
  exact ⟨rfl, (hA.trans hz).trans hc9⟩
end Go.Proofs.Ytojkbljpjpifoaa
