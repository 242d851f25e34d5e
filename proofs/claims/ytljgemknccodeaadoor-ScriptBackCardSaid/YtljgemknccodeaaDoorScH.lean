/-
  CONTRACTS: a kind's word and numbers: many, the document's word; Text of both. Conditions: Gl, lengths.
-/
import Derived.Test.YtljgemknccodeaaDoorScF
import Derived.Test.YtljgemknccodeaaDoorScC
set_option linter.unusedVariables false
set_option linter.unusedSimpArgs false
namespace Go.Proofs.YtljgemknccodeaaDoor
open Go.RowKit

/-- How many numbers a step of a kind has. -/
def manyP (k : Int) : Nat := if k = 3 ∨ k = 9 ∨ k = 13 then 0 else if k = 4 ∨ k = 5 ∨ k = 6 ∨ k = 12 then 2 else if k = 11 then 3 else 1
theorem manyP_le (k : Int) : manyP k ≤ 3 := by
  unfold manyP
  split
  · omega
  · split
    · omega
    · split <;> omega
set_option maxRecDepth 100000 in
set_option maxHeartbeats 2000000 in
theorem many_any (k : Int) (w : World) : Calls Tryd.prog 24 #[.int .i64 k] w fun e w' => e = .returned (.int .i64 (manyP k)) ∧ w = w' := by
  by_cases h0 : k = 3 ∨ k = 9 ∨ k = 13
  · have HM : Hid (manyP k = 0) := Lib.hid (by unfold manyP; rw [if_pos h0])
    rcases h0 with rfl | rfl | rfl
    all_goals
      go_enter Tryd.func24, Tryd.ntmps24
      go_wp2_with fail
      go_ret
      exact ⟨by rw [HM.out]; rfl, rfl⟩
  · by_cases h2 : k = 4 ∨ k = 5 ∨ k = 6 ∨ k = 12
    · have HM : Hid (manyP k = 2) := Lib.hid (by unfold manyP; rw [if_neg h0, if_pos h2])
      clear h0
      rcases h2 with rfl | rfl | rfl | rfl
      all_goals
        go_enter Tryd.func24, Tryd.ntmps24
        go_wp2_with fail
        go_ret
        exact ⟨by rw [HM.out]; rfl, rfl⟩
    · by_cases h3 : k = 11
      · have HM : Hid (manyP k = 3) := Lib.hid (by unfold manyP; rw [if_neg h0, if_neg h2, if_pos h3])
        clear h0 h2
        subst h3
        go_enter Tryd.func24, Tryd.ntmps24
        go_wp2_with fail
        go_ret
        exact ⟨by rw [HM.out]; rfl, rfl⟩
      · have HM : Hid (manyP k = 1) := Lib.hid (by unfold manyP; rw [if_neg h0, if_neg h2, if_neg h3])
        have e3 : (k == 3) = false := by simpa using fun e => h0 (.inl e)
        have e9 : (k == 9) = false := by simpa using fun e => h0 (.inr (.inl e))
        have e13 : (k == 13) = false := by simpa using fun e => h0 (.inr (.inr e))
        have e4 : (k == 4) = false := by simpa using fun e => h2 (.inl e)
        have e5 : (k == 5) = false := by simpa using fun e => h2 (.inr (.inl e))
        have e6 : (k == 6) = false := by simpa using fun e => h2 (.inr (.inr (.inl e)))
        have e12 : (k == 12) = false := by simpa using fun e => h2 (.inr (.inr (.inr e)))
        have e11 : (k == 11) = false := by simpa using h3
        clear h0 h2 h3
        go_enter Tryd.func24, Tryd.ntmps24
        go_wp2_with fail
        go_ret
        exact ⟨by rw [HM.out]; rfl, rfl⟩
/-- A kind's word; none: the empty one. -/
def wordP (k : Int) : Bs := if 0 ≤ k ∧ k ≤ 13 then kindsL.getD k.toNat [] else []
/-- How many numbers the document's word says. -/
def numW (k : Int) : Nat := if 0 ≤ k ∧ k ≤ 13 then manyP k else 0
def arrW : Array Value := (kindsL.map str).toArray
def arrM : Array Value := #[.int .i64 1, .int .i64 1, .int .i64 1, .int .i64 0, .int .i64 2, .int .i64 2, .int .i64 2, .int .i64 1, .int .i64 1, .int .i64 0, .int .i64 1, .int .i64 3, .int .i64 2, .int .i64 0]
theorem arrM_eq : arrM = ((List.range 14).map fun (k : Nat) => Value.int .i64 (manyP (k : Int))).toArray := by rfl
theorem arrM_at {k : Nat} (h : k < 14) : arrM[k]? = some (.int .i64 (manyP k)) := by
  rw [arrM_eq]
  simp [h]
theorem kinds_len : kindsL.length = 14 := by decide +kernel
theorem arrW_at {k : Nat} (h : k < 14) : arrW[k]? = some (str (kindsL.getD k [])) := by
  unfold arrW
  have : k < kindsL.length := by rw [kinds_len]; exact h
  simp [List.getElem?_eq_getElem this, List.getD_eq_getElem?_getD]
set_option maxRecDepth 100000 in
set_option maxHeartbeats 2000000 in
theorem word_any (k : Int) (hk : I64s k) (w : World) : Calls Tryd.prog 26 #[.int .i64 k] w fun e w' => e = .returned (.tuple #[str (wordP k), .int .i64 (numW k)]) ∧ Chg [] w w' := by
  go_enter Tryd.func26, Tryd.ntmps26
  go_upto_region 3 with (first
    | (refine wpList_store_blk (vs := arrW) rfl 78 (.tmp 4) (.tmp 6) rfl rfl (Blk.new _ _ _) rfl (by kernel_rfl) (by kernel_rfl) (by kernel_rfl) (by kernel_rfl) ?_; intro w5 hB5 hc5)
    | (refine wpList_store_blk (vs := arrM) rfl 79 (.tmp 5) (.tmp 7) rfl rfl (Blk.new _ _ _) rfl (by kernel_rfl) (by kernel_rfl) (by kernel_rfl) (by kernel_rfl) ?_; intro w6 hB6 hc6)
    | fail)
  have HC6 : Hid (Chg [] w w6) := Lib.hid ((((Chg.refl [] w).alloc _).trans' hc5 (by intro x hx; simp at hx; subst hx; exact .inr (Nat.le_refl _))).alloc _ |>.trans' hc6 (by intro x hx; simp at hx; subst hx; right; have := hc5.size; rw [World.size_alloc] at this; omega))
  have hB5' := hB5.alloc (.cells #[.int .i64 0, .int .i64 0, .int .i64 0, .int .i64 0, .int .i64 0, .int .i64 0, .int .i64 0, .int .i64 0, .int .i64 0, .int .i64 0, .int .i64 0, .int .i64 0, .int .i64 0, .int .i64 0] 79) |>.chg hc6 (by have := hB5.lt; simp; omega)
  clear hB5 hc5 hc6
  by_cases h : 0 ≤ k ∧ k ≤ 13
  · obtain ⟨m, rfl⟩ : ∃ m : Nat, k = m := ⟨k.toNat, by omega⟩
    have hm : m < 14 := by omega
    have c5 : w6.cell? ⟨w.heap.size, m, none⟩ = some (str (kindsL.getD m [])) := by rw [hB5'.cell, arrW_at hm]
    have c6 : w6.cell? ⟨w5.heap.size, m, none⟩ = some (.int .i64 (manyP (m : Int))) := by rw [hB6.cell, arrM_at hm]
    have HR : Hid (wordP (m : Int) = kindsL.getD m [] ∧ numW (m : Int) = manyP (m : Int)) := Lib.hid ⟨by unfold wordP; rw [if_pos h]; rfl, by unfold numW; rw [if_pos h]⟩
    have h1 : ¬ (m : Int) < 0 := by omega
    have h2 : ¬ (13 : Int) < (m : Int) := by omega
    have h3 : (m : Int) < 14 := by omega
    generalize kindsL.getD m [] = p at *
    generalize manyP (m : Int) = mm at *
    generalize hg4 : w.heap.size = g4 at *
    generalize w5.heap.size = g5 at *
    clear h hB5' hB6 hk
    go_upto_region 5 with fail
    go_region
    go_wp2_with fail
    go_ret2
    exact ⟨by rw [HR.out.1, HR.out.2]; rfl, HC6.out.drew⟩
  · have HR : Hid (wordP k = [] ∧ numW k = 0) := Lib.hid ⟨by unfold wordP; rw [if_neg h], by unfold numW; rw [if_neg h]⟩
    by_cases h1 : k < 0
    · clear h hB5' hB6
      go_wp2_with fail
      go_ret2
      exact ⟨by rw [HR.out.1, HR.out.2]; rfl, HC6.out⟩
    · have h2 : (13 : Int) < k := by omega
      clear h hB5' hB6
      go_wp2_with fail
      go_ret2
      exact ⟨by rw [HR.out.1, HR.out.2]; rfl, HC6.out⟩
end Go.Proofs.YtljgemknccodeaaDoor
