/-
  PLAIN: chapter 26: what a call leaves of ticks and counts. No condition.
-/
import Derived.Test.YtldgdpekhjignaaGreatFtO
set_option linter.unusedVariables false
set_option linter.unusedSimpArgs false
namespace Go.Proofs.YtldgdpekhjignaaGreat.Ft
open Go.RowKit Go.Maps

structure bK (N : Int) (c : Cn) : Prop where
  hits : 0 ≤ c.hits ∧ c.hits ≤ N
  misses : 0 ≤ c.misses ∧ c.misses ≤ N
  learnt : 0 ≤ c.learnt ∧ c.learnt ≤ N
  evicted : 0 ≤ c.evicted ∧ c.evicted ≤ N
  expired : 0 ≤ c.expired ∧ c.expired ≤ N
  clashes : 0 ≤ c.clashes ∧ c.clashes ≤ N
theorem bK.bC {N : Int} {c : Cn} (h : bK N c) (hN : N ≤ 1000000) : bC c := by
  obtain ⟨h1, h2, h3, h4, h5, h6⟩ := h
  exact ⟨⟨h1.1, by omega⟩, ⟨h2.1, by omega⟩, ⟨h3.1, by omega⟩, ⟨h4.1, by omega⟩, ⟨h5.1, by omega⟩, ⟨h6.1, by omega⟩⟩
theorem bK.wf {N : Int} {c : Cn} (h : bK N c) (hN : N ≤ 1000000) : wfC c := by
  obtain ⟨h1, h2, h3, h4, h5, h6⟩ := h
  have key : ∀ x : Int, 0 ≤ x → x ≤ N → wfI x := fun x a b => by unfold wfI; simp [Lit.wf, IntKind.min, IntKind.max, IntKind.signed, IntKind.bits]; omega
  exact ⟨key _ h1.1 h1.2, key _ h2.1 h2.2, key _ h3.1 h3.2, key _ h4.1 h4.2, key _ h5.1 h5.2, key _ h6.1 h6.2⟩
theorem bK.more {N M : Int} {c : Cn} (h : bK N c) (hN : N ≤ M) : bK M c := by
  obtain ⟨h1, h2, h3, h4, h5, h6⟩ := h
  exact ⟨⟨h1.1, by omega⟩, ⟨h2.1, by omega⟩, ⟨h3.1, by omega⟩, ⟨h4.1, by omega⟩, ⟨h5.1, by omega⟩, ⟨h6.1, by omega⟩⟩
theorem bK.of {N M : Int} {c d : Cn} (h : bK N c) (h1 : c.hits ≤ d.hits ∧ d.hits ≤ c.hits + M) (h2 : c.misses ≤ d.misses ∧ d.misses ≤ c.misses + M) (h3 : c.learnt ≤ d.learnt ∧ d.learnt ≤ c.learnt + M)
    (h4 : c.evicted ≤ d.evicted ∧ d.evicted ≤ c.evicted + M) (h5 : c.expired ≤ d.expired ∧ d.expired ≤ c.expired + M) (h6 : c.clashes ≤ d.clashes ∧ d.clashes ≤ c.clashes + M) : bK (N + M) d := by
  obtain ⟨g1, g2, g3, g4, g5, g6⟩ := h
  exact ⟨⟨by omega, by omega⟩, ⟨by omega, by omega⟩, ⟨by omega, by omega⟩, ⟨by omega, by omega⟩, ⟨by omega, by omega⟩, ⟨by omega, by omega⟩⟩
section
variable {n : Nat} {s : Sx} {o : Op6} {N : Int}
theorem goneF_len (now : Int) (L : List En) : (goneF now L).length ≤ L.length := by
  unfold goneF; rw [List.length_map]; exact List.length_filter_le _ _
theorem add_c (n : Nat) (s : Sx) (f : Fl) (node st : Int) : (addS n s f node st).c = s.c ∨ ((addS n s f node st).c = { s.c with evicted := s.c.evicted + 1 } ∧ s.L.length = n) := by
  unfold addS addC
  split
  · next h => exact .inr ⟨rfl, h⟩
  · exact .inl rfl
theorem do_bound (hL : s.L.length ≤ 64) (h : bK N s.c) : bK (N + 64) (doS n s o).1.c ∧ s.now ≤ (doS n s o).1.now ∧ (doS n s o).1.now ≤ s.now + 1 := by
  unfold doS
  split
  · unfold lookS
    split
    · (refine ⟨h.of ?_ ?_ ?_ ?_ ?_ ?_, ?_, ?_⟩ <;> (first | constructor | skip) <;> dsimp only <;> omega)
    · split
      · (refine ⟨h.of ?_ ?_ ?_ ?_ ?_ ?_, ?_, ?_⟩ <;> (first | constructor | skip) <;> dsimp only <;> omega)
      · (refine ⟨h.of ?_ ?_ ?_ ?_ ?_ ?_, ?_, ?_⟩ <;> (first | constructor | skip) <;> dsimp only <;> omega)
  · split
    · unfold pendS
      split
      · refine ⟨?_, by show s.now ≤ s.now; omega, by show s.now ≤ s.now + 1; omega⟩
        rcases add_c n s o.f 0 0 with e | ⟨e, _⟩
        · show bK _ (addS n s o.f 0 0).c; rw [e]; exact h.more (by omega)
        · show bK _ (addS n s o.f 0 0).c; rw [e]
          (refine h.of ?_ ?_ ?_ ?_ ?_ ?_ <;> constructor <;> dsimp only <;> omega)
      · split
        · exact ⟨h.more (by omega), by dsimp only; omega, by dsimp only; omega⟩
        · exact ⟨h.more (by omega), by dsimp only; omega, by dsimp only; omega⟩
    · split
      · unfold learnS
        split
        · exact ⟨h.more (by omega), by dsimp only; omega, by dsimp only; omega⟩
        · split
          · refine ⟨?_, by show s.now ≤ s.now; omega, by show s.now ≤ s.now + 1; omega⟩
            show bK _ (learnC (addS n s o.f o.n 1).c)
            rcases add_c n s o.f o.n 1 with e | ⟨e, _⟩
            · rw [e]; unfold learnC
              (refine h.of ?_ ?_ ?_ ?_ ?_ ?_ <;> constructor <;> dsimp only <;> omega)
            · rw [e]; unfold learnC
              (refine h.of ?_ ?_ ?_ ?_ ?_ ?_ <;> constructor <;> dsimp only <;> omega)
          · split
            · exact ⟨h.more (by omega), by dsimp only; omega, by dsimp only; omega⟩
            · split
              · unfold learnC
                (refine ⟨h.of ?_ ?_ ?_ ?_ ?_ ?_, ?_, ?_⟩ <;> (first | constructor | skip) <;> dsimp only <;> omega)
              · (refine ⟨h.of ?_ ?_ ?_ ?_ ?_ ?_, ?_, ?_⟩ <;> (first | constructor | skip) <;> dsimp only <;> omega)
      · split
        · unfold forgetS
          split
          · exact ⟨h.more (by omega), by dsimp only; omega, by dsimp only; omega⟩
          · exact ⟨h.more (by omega), by dsimp only; omega, by dsimp only; omega⟩
        · have := goneF_len s.now s.L
          unfold tickS
          (refine ⟨h.of ?_ ?_ ?_ ?_ ?_ ?_, ?_, ?_⟩ <;> (first | constructor | skip) <;> dsimp only <;> omega)
/-- As long as there is room, nothing is thrown out. -/
theorem do_room (hL : s.L.length < n) : (doS n s o).1.c.evicted = s.c.evicted := by
  have key : ∀ node st, (addS n s o.f node st).c.evicted = s.c.evicted := fun node st => by
    rcases add_c n s o.f node st with e | ⟨_, e⟩
    · rw [e]
    · omega
  unfold doS
  split
  · unfold lookS
    split
    · rfl
    · split <;> rfl
  · split
    · unfold pendS
      split
      · exact key 0 0
      · split <;> rfl
    · split
      · unfold learnS
        split
        · rfl
        · split
          · exact key o.n 1
          · split
            · rfl
            · split <;> rfl
      · split
        · unfold forgetS
          split <;> rfl
        · rfl
end
end Go.Proofs.YtldgdpekhjignaaGreat.Ft
