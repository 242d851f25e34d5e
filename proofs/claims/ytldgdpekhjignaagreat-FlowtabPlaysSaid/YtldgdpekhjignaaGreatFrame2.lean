/-
  A slice of one-cell elements opened; a slice of bytes. No condition.
-/
import Derived.Test.YtldgdpekhjignaaGreatFrame
set_option linter.unusedVariables false
set_option linter.unusedSimpArgs false
namespace Go.Proofs.YtldgdpekhjignaaGreat
open Go.ChangeShapes Go.WideShapes Go.ChangeAt Go.RowKit Go.Deep

theorem open_ones {H : Type} {enc : TypeId × Value → H} {P : Program} {w : World} {held : Bool} {t e : TypeId} {v : Value} {d : DataW H} {ps : List MemPlace}
    (ht : P.underlying t = some (.slice e)) (hC : P.cellsOf e = 1) (hr : Value.okWide P w .any 0 t v) (h : DataW.Trod enc P w 0 (fun _ => true) held t v d ps) :
    ∃ A len cap, v = .slice A len cap ∧ len ≤ cap ∧ len ≤ maxLen ∧ ∀ i, i < len → ∃ b o, A = some ⟨b, o, none⟩ ∧ ∃ u y n, w.cell? ⟨b, o + i, none⟩ = some u ∧ DataW.trod enc P w 0 (fun _ => true) held n e [u] = some y := by
  obtain ⟨A, len, cap, rfl⟩ := okWide_slice ht hr
  obtain ⟨fuel, hf⟩ := h
  rcases open_slice ht hf with ⟨h0, _⟩ | ⟨a, len', cap', m, n, D, Pl, hcs, hb, hl, hm, hmm, hx, hi⟩
  · simp [Value.cells] at h0
    obtain ⟨rfl, rfl, rfl⟩ := h0
    exact ⟨none, 0, 0, rfl, Nat.le_refl _, Nat.zero_le _, fun i hi => by omega⟩
  · simp [Value.cells] at hcs
    obtain ⟨rfl, rfl, rfl⟩ := hcs
    have key : ∀ i, i < len → ∃ u y n', w.cell? (a.add i) = some u ∧ DataW.trod enc P w 0 (fun _ => true) held n' e [u] = some y := by
      intro i hil
      obtain ⟨cs', hc, ht'⟩ := hi i (by rw [hmm]; simp; omega)
      rw [hC] at hc
      obtain ⟨_, hcl, hat⟩ := World.cells?_some hc
      match cs', hcl with
      | [u], _ =>
        refine ⟨u, _, n, ?_, ht'⟩
        have := hat 0 (by omega)
        rw [Go.Deep.add_add, Nat.mul_one, Nat.add_zero] at this
        exact this
    refine ⟨some a, len, cap, rfl, hl, Nat.le_trans hl hm, fun i hil => ?_⟩
    have hsp : a.spot = none := by
      obtain ⟨u, _, _, hc0, _⟩ := key 0 (by omega)
      exact spot_of_cell (by simpa [Addr.add] using hc0)
    obtain ⟨u, y, n', hc, ht'⟩ := key i hil
    rw [add_none hsp] at hc
    exact ⟨a.block, a.off, by rw [← hsp], u, y, n', hc, ht'⟩

/-- A slice of integers of one kind: what it reads as. -/
theorem open_ints' {H : Type} {enc : TypeId × Value → H} {P : Program} {w : World} {held : Bool} {t e : TypeId} {k : IntKind} {v : Value} {d : DataW H} {ps : List MemPlace}
    (ht : P.underlying t = some (.slice e)) (he : P.underlying e = some (.int k)) (hC : P.cellsOf e = 1) (hr : Value.okWide P w .any 0 t v) (h : DataW.Trod enc P w 0 (fun _ => true) held t v d ps) :
    ∃ A cap l, v = .slice A (List.length l) cap ∧ Sl w 0 1 v l.length (l.map (Value.int k)) ∧ l.length ≤ maxLen ∧ ∀ x ∈ l, (Lit.int k x).wf = true := by
  obtain ⟨A, len, cap, rfl, hl, hm, hc⟩ := open_ones ht hC hr h
  obtain ⟨l, hlen, hp⟩ := list_of (p := fun i (x : Int) => (∃ b o, A = some ⟨b, o, none⟩ ∧ w.cell? ⟨b, o + i, none⟩ = some (.int k x)) ∧ (Lit.int k x).wf = true) len (fun i hi => by
    obtain ⟨b, o, hA, u, y, n, hu, ht'⟩ := hc i hi
    obtain ⟨x, ex, _, wf⟩ := DataW.trod_int he ht'
    simp at ex
    subst ex
    exact ⟨x, ⟨b, o, hA, hu⟩, wf⟩)
  subst hlen
  refine ⟨A, cap, l, rfl, ?_, hm, fun x hx => ?_⟩
  · refine ⟨by simp, A, cap, rfl, hl, fun hn => ?_⟩
    obtain ⟨⟨b, o, hA, _⟩, _⟩ := hp 0 _ (List.getElem?_eq_getElem hn)
    refine ⟨b, o, hA, Nat.zero_le _, fun j u hu => ?_⟩
    rw [List.getElem?_map] at hu
    cases hx : l[j]? with
    | none => rw [hx] at hu; cases hu
    | some x =>
      rw [hx] at hu
      cases hu
      obtain ⟨⟨b', o', hA', hc'⟩, _⟩ := hp j x hx
      rw [hA] at hA'
      cases hA'
      exact hc'
  · obtain ⟨i, hi⟩ := List.mem_iff_getElem?.1 hx
    exact (hp i x hi).2
end Go.Proofs.YtldgdpekhjignaaGreat
