/-
  A struct of one-cell fields, an array of integers, and a slice of integers in a cell opened. No condition.
-/
import Derived.Test.YtldgdpekhjignaaGreatFrame2
set_option linter.unusedVariables false
set_option linter.unusedSimpArgs false
namespace Go.Proofs.YtldgdpekhjignaaGreat
open Go.ChangeShapes Go.WideShapes Go.ChangeAt Go.RowKit Go.Deep

/-- A cell that is a slice of integers. -/
theorem open_ints_cell {H : Type} {enc : TypeId × Value → H} {P : Program} {w : World} {held : Bool} {t e : TypeId} {k : IntKind} {u : Value} {n : Nat} {y : DataW H × List MemPlace}
    (ht : P.underlying t = some (.slice e)) (he : P.underlying e = some (.int k)) (hC : P.cellsOf e = 1) (h : DataW.trod enc P w 0 (fun _ => true) held n t [u] = some y) :
    ∃ A cap l, u = .slice A (List.length l) cap ∧ Sl w 0 1 u l.length (l.map (Value.int k)) ∧ l.length ≤ maxLen ∧ ∀ x ∈ l, (Lit.int k x).wf = true := by
  rcases open_slice1 ht hC h with ⟨h0, _⟩ | ⟨a, len, cap, m, n', V, D, Pl, hcs, hb, hl, hm, hmm, hx, hi⟩
  · simp at h0
    subst h0
    exact ⟨none, 0, [], rfl, Sl.nil w 0 1, by simp, by simp⟩
  · simp at hcs
    subst hcs
    have hm' : m = cap := by simpa using hmm
    obtain ⟨l, hlen, hp⟩ := list_of (p := fun i (x : Int) => (∃ b o, a = ⟨b, o, none⟩ ∧ w.cell? ⟨b, o + i, none⟩ = some (.int k x)) ∧ (Lit.int k x).wf = true) len (fun i hil => by
      obtain ⟨hc, ht'⟩ := hi i (by omega)
      obtain ⟨h0, _⟩ := hi 0 (by omega)
      have hsp : a.spot = none := spot_of_cell (by simpa [Addr.add] using h0)
      obtain ⟨x, ex, _, wf⟩ := DataW.trod_int he ht'
      simp at ex
      rw [ex, add_none hsp] at hc
      exact ⟨x, ⟨a.block, a.off, by rw [← hsp], hc⟩, wf⟩)
    subst hlen
    refine ⟨some a, cap, l, rfl, ?_, by omega, fun x hx => ?_⟩
    · refine ⟨by simp, some a, cap, rfl, hl, fun hn => ?_⟩
      obtain ⟨⟨b, o, hA, _⟩, _⟩ := hp 0 _ (List.getElem?_eq_getElem hn)
      refine ⟨b, o, by rw [hA], Nat.zero_le _, fun j u hu => ?_⟩
      rw [List.getElem?_map] at hu
      cases hx : l[j]? with
      | none => rw [hx] at hu; cases hu
      | some x =>
        rw [hx] at hu
        cases hu
        obtain ⟨⟨b', o', hA', hc'⟩, _⟩ := hp j x hx
        rw [hA] at hA'
        cases hA'
        exact hc'
    · obtain ⟨i, hi⟩ := List.mem_iff_getElem?.1 hx
      exact (hp i x hi).2

/-- A struct of one-cell fields that is handed over as a value. -/
theorem open_struct1 {H : Type} {enc : TypeId × Value → H} {P : Program} {w : World} {held : Bool} {t : TypeId} {fs : Array Field} {v : Value} {d : DataW H} {ps : List MemPlace}
    (ht : P.underlying t = some (.struct fs)) (hone : oneCellFields P fs = true) (hC : P.cellsOf t = fs.size) (hr : Value.okWide P w .any 0 t v) (h : DataW.Trod enc P w 0 (fun _ => true) held t v d ps) :
    ∃ cs : List Value, v = .agg cs.toArray ∧ cs.length = fs.size ∧ ∀ (j : Nat) (f : Field), fs[j]? = some f → ∃ y n, DataW.trod enc P w 0 (fun _ => true) held n f.type [cs.getD j undef] = some y := by
  obtain ⟨cs, rfl, hsz⟩ := okWide_struct ht hr
  obtain ⟨fuel, hf⟩ := h
  obtain ⟨xs, n, _, _, hl, hxl, hfl⟩ := DataW.trod_struct ht hf
  have hcs : (Value.agg cs).cells.toList = cs.toList := by rfl
  rw [hcs] at hl hfl
  refine ⟨cs.toList, by simp, by rw [hl, hC], fun j f hj => ?_⟩
  have hjl : j < fs.size := (Array.getElem?_eq_some_iff.1 hj).1
  obtain ⟨ho, hk⟩ := hone_of hone j f hj
  have h1 := hfl j f hj
  rw [ho, hk] at h1
  have hone' : (cs.toList.drop j).take 1 = [cs.toList.getD j undef] := take1_drop _ _ _ (by omega)
  rw [hone', List.getElem?_eq_getElem (by omega)] at h1
  exact ⟨_, n, h1⟩

/-- An array of integers that is handed over as a value. -/
theorem open_array1 {H : Type} {enc : TypeId × Value → H} {P : Program} {w : World} {held : Bool} {t e : TypeId} {m : Nat} {k : IntKind} {v : Value} {d : DataW H} {ps : List MemPlace}
    (ht : P.underlying t = some (.array m e)) (he : P.underlying e = some (.int k)) (hC : P.cellsOf e = 1) (hm : P.cellsOf t = m) (hr : Value.okWide P w .any 0 t v) (h : DataW.Trod enc P w 0 (fun _ => true) held t v d ps) :
    ∃ cs : List Value, v = .agg cs.toArray ∧ cs.length = m ∧ ∀ j, j < m → ∃ x, cs.getD j undef = .int k x ∧ (Lit.int k x).wf = true := by
  unfold Value.okWide at hr
  rw [ht] at hr
  obtain ⟨cs, rfl, hsz, _⟩ := hr
  obtain ⟨fuel, hf⟩ := h
  obtain ⟨xs, n, _, _, hl, hxl, hfl⟩ := DataW.trod_array ht hf
  have hcs : (Value.agg cs).cells.toList = cs.toList := by rfl
  rw [hcs] at hl hfl
  refine ⟨cs.toList, by simp, by rw [hl, hm], fun j hj => ?_⟩
  have h1 := hfl j hj
  rw [hC, Nat.mul_one, take1_drop _ _ undef (by omega), List.getElem?_eq_getElem (by omega)] at h1
  obtain ⟨x, ex, _, wf⟩ := DataW.trod_int he h1
  simp only [List.cons.injEq, and_true] at ex
  exact ⟨x, ex, wf⟩
end Go.Proofs.YtldgdpekhjignaaGreat
