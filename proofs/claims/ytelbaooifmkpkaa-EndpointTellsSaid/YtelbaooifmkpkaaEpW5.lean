/-
  WALK: what becomes of a connection by any segment. Conditions: the payload reads as bytes; the count does not pass an int.
-/
import Derived.Test.YtelbaooifmkpkaaEpW4
set_option linter.unusedVariables false
set_option linter.unusedSimpArgs false
namespace Go.Proofs.Ytelbaooifmkpkaa
open Go.RowKit

theorem ackedF_got (c : CN) (t : TC) : (ackedF c t).1.got = c.got ∧ (ackedF c t).1.sum = c.sum := by
  unfold ackedF
  repeat' split
  all_goals exact ⟨rfl, rfl⟩

theorem take_any (c : CN) (t : TC) (o pv : Value) (l : List Int) (w : World) (hp : SlB w 0 pv l) (hlm : l.length ≤ 9223372036854775807) (hr : ∀ x ∈ l, 0 ≤ x ∧ x ≤ 255)
    (hg0 : 0 ≤ c.got) (hg1 : c.got + l.length ≤ 9223372036854775807) (hcs : 0 ≤ c.sum ∧ c.sum < 4294967296) :
    Calls Try.prog 21 #[.agg (enC c), .agg (enT t o pv)] w fun e w' => ∃ v, e = .returned (.tuple #[.agg (enC (takeF c t l).1), v]) ∧ SlT w' w.heap.size v (takeF c t l).2 ∧ Chg [] w w' := by
  have nil : ∀ {f : CN} {e : Ending} {w' : World}, (takeF c t l) = (f, []) → (e = .returned (.tuple #[.agg (enC f), .slice none 0 0]) ∧ Chg [] w w') →
      ∃ v, e = .returned (.tuple #[.agg (enC (takeF c t l).1), v]) ∧ SlT w' w.heap.size v (takeF c t l).2 ∧ Chg [] w w' := by
    intro f e w' hf h
    rw [hf]
    exact ⟨_, h.1, no_seg _ _, h.2⟩
  have lst : ∀ {f : CN} {g : List TC} {e : Ending} {w' : World}, (takeF c t l) = (f, g) → (∃ v, e = .returned (.tuple #[.agg (enC f), v]) ∧ SlT w' w.heap.size v g ∧ Chg [] w w') →
      ∃ v, e = .returned (.tuple #[.agg (enC (takeF c t l).1), v]) ∧ SlT w' w.heap.size v (takeF c t l).2 ∧ Chg [] w w' := by
    intro f g e w' hf h
    rw [hf]
    exact h
  by_cases h0 : c.st < 1 ∨ 4 < c.st
  · exact (take0 c t o pv w h0).mono fun e w' h => nil (by unfold takeF; rw [if_pos h0]) h
  cases h4 : hasF t.flags 4 with
  | true => exact (take1 c t o pv w h0 h4).mono fun e w' h => nil (by unfold takeF; rw [if_neg h0, if_pos h4]) h
  | false =>
    have n4 : ¬ hasF t.flags 4 = true := by simp [h4]
    cases h2 : hasF t.flags 2 with
    | true => exact (take2 c t o pv w h0 h4 h2).mono fun e w' h => lst (by unfold takeF; rw [if_neg h0, if_neg n4, if_pos h2]) h
    | false =>
      have n2 : ¬ hasF t.flags 2 = true := by simp [h2]
      cases h16 : hasF t.flags 16 with
      | false => exact (take3 c t o pv w h0 h4 h2 h16).mono fun e w' h => nil (by unfold takeF; rw [if_neg h0, if_neg n4, if_neg n2, if_neg (by simp [h16])]) h
      | true =>
        have hgs := ackedF_got c t
        obtain ⟨A, ca, hv⟩ := Sl.form hp
        subst hv
        cases ha : ackedF c t with
        | mk c' ok =>
          rw [ha] at hgs
          obtain ⟨e1, e2⟩ := hgs
          have e1 : c'.got = c.got := e1
          have e2 : c'.sum = c.sum := e2
          cases ok with
          | false => exact (take4 c t o _ w c' h0 h4 h2 h16 ha).mono fun e w' h => lst (by unfold takeF; rw [if_neg h0, if_neg n4, if_neg n2, if_pos h16, ha]; rfl) h
          | true =>
            by_cases hs : spanF t.flags l.length = 0
            · exact (take5 c t o A ca l w c' 0 h0 h4 h2 h16 ha hs rfl).mono fun e w' h => nil (by unfold takeF; rw [if_neg h0, if_neg n4, if_neg n2, if_pos h16, ha]; simp only [if_pos]; rw [if_pos hs]) h
            · have d3 : (spanF t.flags l.length == 0) = false := by simp [hs]
              by_cases hm : c'.st = 2 ∧ t.seq = c'.next
              · exact (take6 c t o A ca l w c' _ h0 h4 h2 h16 ha rfl d3 (by simp [hm.1]) (by simp [hm.2]) hp hlm hr (by omega) (by omega) (by omega)).mono fun e w' h =>
                  lst (by unfold takeF; rw [if_neg h0, if_neg n4, if_neg n2, if_pos h16, ha]; simp only [if_pos]; rw [if_neg hs, if_pos hm]) h
              · by_cases h3 : c'.st = 3
                · exact (take7 c t o A ca l w c' _ h0 h4 h2 h16 ha rfl d3 (by simp [h3]) (by simp [h3])).mono fun e w' h =>
                    lst (by unfold takeF; rw [if_neg h0, if_neg n4, if_neg n2, if_pos h16, ha]; simp only [if_pos]; rw [if_neg hs, if_neg hm, if_pos h3]) h
                · by_cases h5 : c'.st = 2
                  · exact (take9 c t o A ca l w c' _ h0 h4 h2 h16 ha rfl d3 (by simp [h5]) (by simp; exact fun e => hm ⟨h5, e⟩) (by simp [h5])).mono fun e w' h =>
                      lst (by unfold takeF; rw [if_neg h0, if_neg n4, if_neg n2, if_pos h16, ha]; simp only [if_pos]; rw [if_neg hs, if_neg hm, if_neg h3]) h
                  · exact (take8 c t o A ca l w c' _ h0 h4 h2 h16 ha rfl d3 (by simp [h5]) (by simp [h3])).mono fun e w' h =>
                      lst (by unfold takeF; rw [if_neg h0, if_neg n4, if_neg n2, if_pos h16, ha]; simp only [if_pos]; rw [if_neg hs, if_neg hm, if_neg h3]) h
end Go.Proofs.Ytelbaooifmkpkaa
