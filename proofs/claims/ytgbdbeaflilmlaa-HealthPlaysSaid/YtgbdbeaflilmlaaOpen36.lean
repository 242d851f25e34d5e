/-
  A slice of calls opened as records. Condition: it reads as data.
-/
import Derived.Test.YtgbdbeaflilmlaaFrame
import Derived.Test.YtgbdbeaflilmlaaMem
set_option linter.unusedVariables false
set_option linter.unusedSimpArgs false
namespace Go.Proofs.Ytgbdbeaflilmlaa
open Go.ChangeShapes Go.WideShapes Go.ChangeAt Go.RowKit Go.Deep

structure OpR where
  kind : Int
  id : Int
  at_ : Int
def encO (x : OpR) : List Value := [.int .i64 x.kind, .int .i64 x.id, .int .i64 x.at_]
theorem encO_len (x : OpR) : (encO x).length = 3 := rfl
def okO (x : OpR) : Prop := (Lit.int .i64 x.kind).wf = true ∧ (Lit.int .i64 x.id).wf = true ∧ (Lit.int .i64 x.at_).wf = true
/-- The slice v reads as the calls ops. -/
def SlO (w : World) (B : Nat) (v : Value) (ops : List OpR) : Prop := Sl w B 3 v ops.length (ops.flatMap encO)

set_option maxRecDepth 100000 in
theorem ops_of {H : Type} {enc : TypeId × Value → H} {w : World} {v : Value} {d : DataW H} {ps : List MemPlace} (hr : Value.okWide Try.prog w .any 0 38 v)
    (h : DataW.Trod enc Try.prog w 0 (fun _ => true) true 38 v d ps) : ∃ A cap ops, v = .slice A (List.length ops) cap ∧ SlO w 0 v ops ∧ ops.length ≤ maxLen ∧ ∀ x ∈ ops, okO x := by
  obtain ⟨A, len, cap, rfl, hl, hm, hc⟩ := open_recs Try.underlying38 Try.underlying43 (by kernel_rfl) (by kernel_rfl) (by decide) hr h
  obtain ⟨ops, hlen, hops⟩ := list_of (p := fun i (x : OpR) => (∃ b o, A = some ⟨b, o, none⟩ ∧ ∀ j u, (encO x)[j]? = some u → w.cell? ⟨b, o + (i * 3 + j), none⟩ = some u) ∧ okO x) len (fun i hi => by
    obtain ⟨b, o, hA, hf⟩ := hc i hi
    obtain ⟨u0, y0, n0, c0, t0⟩ := hf 0 _ rfl
    obtain ⟨u1, y1, n1, c1, t1⟩ := hf 1 _ rfl
    obtain ⟨u2, y2, n2, c2, t2⟩ := hf 2 _ rfl
    obtain ⟨x0, e0, _, w0⟩ := DataW.trod_int Try.underlying3 t0
    obtain ⟨x1, e1, _, w1⟩ := DataW.trod_int Try.underlying3 t1
    obtain ⟨x2, e2, _, w2⟩ := DataW.trod_int Try.underlying3 t2
    simp at e0 e1 e2
    subst e0 e1 e2
    refine ⟨⟨x0, x1, x2⟩, ⟨b, o, hA, fun j u hu => ?_⟩, w0, w1, w2⟩
    match j, hu with
    | 0, hu => cases hu; exact c0
    | 1, hu => cases hu; exact c1
    | 2, hu => cases hu; exact c2)
  subst hlen
  refine ⟨A, cap, ops, rfl, ?_, hm, fun x hx => by
    obtain ⟨i, hi, rfl⟩ := List.mem_iff_getElem.1 hx
    exact (hops i _ (List.getElem?_eq_getElem hi)).2⟩
  unfold SlO
  rcases Nat.eq_zero_or_pos ops.length with h0 | h0
  · have : ops = [] := List.eq_nil_of_length_eq_zero h0
    subst this
    exact Sl.empty w 0 3 A cap
  · obtain ⟨⟨b, o, rfl, _⟩, _⟩ := hops 0 _ (List.getElem?_eq_getElem h0)
    refine Sl.of_cells encO_len (by omega) (Nat.zero_le _) hl (fun i x hx j u hu => ?_)
    obtain ⟨⟨b', o', hA, hcell⟩, _⟩ := hops i x hx
    cases hA
    exact hcell j u hu

end Go.Proofs.Ytgbdbeaflilmlaa
