/-
  WALK: the example of chapter 21 holds. No condition.
-/
import Derived.Test.YtelbaooifmkpkaaSlotW2
set_option linter.unusedVariables false
set_option linter.unusedSimpArgs false
namespace Go.Proofs.Ytelbaooifmkpkaa
open Go.RowKit

def c0 : Nat → SC := fun _ => free
def c1 : Nat → SC := putC c0 2 1 5
def c2 : Nat → SC := putC c1 2 17 6
def c3 : Nat → SC := putC c2 2 33 7
theorem l1 : hasRoom c0 2 1 = true ∧ putM c0 2 1 0 = 1 := by decide +kernel
theorem l2 : hasRoom c1 2 17 = true ∧ putM c1 2 17 1 = 2 := by decide +kernel
theorem l3 : hasRoom c2 2 33 = false ∧ putM c2 2 33 2 = 2 := by decide +kernel
theorem l4 : getV c3 2 17 = some 6 ∧ homeOf 2 1 = 1 := by decide +kernel

set_option maxHeartbeats 1000000 in
theorem lives21 (w : World) : Calls Try.prog 10 #[] w fun e w' => e = .returned (.bool true) ∧ Chg [] w w' := by
  go_enter Try.func10, Try.ntmps10
  go_wp2_with fail
  refine (new_any 2 w (by omega) (by omega)).mono ?_
  rintro e w1 ⟨b, c, rfl, hb, hc, ht1, hc1⟩
  go_wp2_with fail
  refine (put_any 1 5 ht1 (by omega) (by omega)).mono ?_
  rw [show hasRoom (fun _ => free) 2 1 = true from l1.1, show putM (fun _ => free) 2 1 0 = 1 from l1.2, show putC (fun _ => free) 2 1 5 = c1 from rfl]
  rintro e w2 ⟨rfl, ht2, hc2⟩
  go_wp2_with fail
  refine (put_any 17 6 ht2 (by omega) (by omega)).mono ?_
  rw [l2.1, l2.2, show putC c1 2 17 6 = c2 from rfl]
  rintro e w3 ⟨rfl, ht3, hc3⟩
  go_wp2_with fail
  refine (put_any 33 7 ht3 (by omega) (by omega)).mono ?_
  rw [l3.1, l3.2, show putC c2 2 33 7 = c3 from rfl]
  rintro e w4 ⟨rfl, ht4, hc4⟩
  go_wp2_with fail
  refine (get_any 17 ht4).mono ?_
  rw [l4.1]
  rintro e w5 ⟨rfl, hc5⟩
  have ht5 := ht4.chg0 hc5
  go_wp2_with fail
  refine (len_any ht5).mono ?_
  rintro e w' ⟨rfl, rfl⟩
  go_wp2_with fail
  refine (home_any 1 ht5).mono ?_
  rw [l4.2]
  rintro e w' ⟨rfl, d, rfl⟩
  go_wp2_with fail
  refine (new_no 0 _ (by omega)).mono ?_
  rintro e w' ⟨rfl, rfl⟩
  go_wp2_with fail
  go_ret
  have hs : ∀ x ∈ [b, c], x ∈ ([] : List Nat) ∨ w.heap.size ≤ x := by intro x hx; simp at hx; omega
  exact ⟨rfl, ((((hc1.trans' hc2 hs).trans' hc3 hs).trans' hc4 hs).trans hc5).drewN _⟩
end Go.Proofs.Ytelbaooifmkpkaa
