/-
  A slice of elements of whatever size opened. No condition.
-/
import Derived.Test.YtldgdpekhjignaaGreatFrame
set_option linter.unusedVariables false
set_option linter.unusedSimpArgs false
namespace Go.Proofs.YtldgdpekhjignaaGreat
open Go.ChangeShapes Go.WideShapes Go.ChangeAt Go.RowKit Go.Deep

/-- A slice: where each element lies, and that it reads. -/
theorem open_els {H : Type} {enc : TypeId × Value → H} {P : Program} {w : World} {held : Bool} {t e : TypeId} {C : Nat} {v : Value} {d : DataW H} {ps : List MemPlace}
    (ht : P.underlying t = some (.slice e)) (hC : P.cellsOf e = C) (hpos : 0 < C) (hr : Value.okWide P w .any 0 t v) (h : DataW.Trod enc P w 0 (fun _ => true) held t v d ps) :
    ∃ A len cap, v = .slice A len cap ∧ len ≤ cap ∧ len ≤ maxLen ∧ ∀ i, i < len → ∃ b o cs n y, A = some ⟨b, o, none⟩ ∧ List.length cs = C ∧ (∀ j, j < C → w.cell? ⟨b, o + (i * C + j), none⟩ = cs[j]?) ∧ DataW.trod enc P w 0 (fun _ => true) held n e cs = some y := by
  obtain ⟨A, len, cap, rfl⟩ := okWide_slice ht hr
  obtain ⟨fuel, hf⟩ := h
  rcases open_slice ht hf with ⟨h0, _⟩ | ⟨a, len', cap', m, n, D, Pl, hcs, hb, hl, hm, hmm, hx, hi⟩
  · simp [Value.cells] at h0
    obtain ⟨rfl, rfl, rfl⟩ := h0
    exact ⟨none, 0, 0, rfl, Nat.le_refl _, Nat.zero_le _, fun i hi => by omega⟩
  · simp [Value.cells] at hcs
    obtain ⟨rfl, rfl, rfl⟩ := hcs
    have key : ∀ i, i < len → ∃ (cs' : List Value) (y : _), cs'.length = C ∧ (∀ j, j < C → w.cell? (a.add (i * C + j)) = cs'[j]?) ∧ DataW.trod enc P w 0 (fun _ => true) held n e cs' = some y := by
      intro i hil
      obtain ⟨cs', hc, ht'⟩ := hi i (by rw [hmm]; simp; omega)
      rw [hC] at hc
      obtain ⟨_, hcl, hat⟩ := World.cells?_some hc
      refine ⟨cs', _, hcl, fun j hj => ?_, ht'⟩
      have := hat j hj
      rw [Go.Deep.add_add] at this
      exact this
    refine ⟨some a, len, cap, rfl, hl, Nat.le_trans hl hm, fun i hil => ?_⟩
    have hsp : a.spot = none := by
      obtain ⟨cs0, _, hl0, hc0, _⟩ := key 0 (by omega)
      have := hc0 0 hpos
      rw [Nat.zero_mul, Nat.zero_add, List.getElem?_eq_getElem (by omega)] at this
      exact spot_of_cell (by simpa [Addr.add] using this)
    obtain ⟨cs', y, hlen, hc, ht'⟩ := key i hil
    refine ⟨a.block, a.off, cs', n, y, by rw [← hsp], hlen, fun j hj => ?_, ht'⟩
    have := hc j hj
    rw [add_none hsp] at this
    exact this
/-- An array of integers among cells. -/
theorem trod_ints {H : Type} {enc : TypeId × Value → H} {P : Program} {w : World} {held : Bool} {t e : TypeId} {m n : Nat} {k : IntKind} {cs : List Value} {y : DataW H × List MemPlace}
    (ht : P.underlying t = some (.array m e)) (he : P.underlying e = some (.int k)) (hC : P.cellsOf e = 1) (hm : P.cellsOf t = m) (h : DataW.trod enc P w 0 (fun _ => true) held n t cs = some y) :
    cs.length = m ∧ ∀ j, j < m → ∃ x, cs[j]? = some (.int k x) ∧ (Lit.int k x).wf = true := by
  obtain ⟨xs, n', _, _, hl, hxl, hfl⟩ := DataW.trod_array ht h
  refine ⟨by rw [hl, hm], fun j hj => ?_⟩
  have h1 := hfl j hj
  have h2 : (cs.drop (j * P.cellsOf e)).take (P.cellsOf e) = [cs[j]'(by omega)] := by
    rw [hC, Nat.mul_one, List.drop_eq_getElem_cons (by omega)]; rfl
  rw [h2, List.getElem?_eq_getElem (by omega)] at h1
  obtain ⟨x, ex, _, wf⟩ := DataW.trod_int he h1
  simp only [List.cons.injEq, and_true] at ex
  exact ⟨x, by rw [List.getElem?_eq_getElem (by omega), ex], wf⟩
end Go.Proofs.YtldgdpekhjignaaGreat
