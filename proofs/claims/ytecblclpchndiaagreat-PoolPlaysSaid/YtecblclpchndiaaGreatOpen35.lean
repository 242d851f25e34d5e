/-
  A slice of changes, opened as records. Condition: it reads as data.
-/
import Derived.Test.YtecblclpchndiaaGreatFrame3
import Derived.Test.YtecblclpchndiaaGreatPool5
set_option linter.unusedVariables false
set_option linter.unusedSimpArgs false
namespace Go.Proofs.YtecblclpchndiaaGreat
open Go.ChangeShapes Go.WideShapes Go.ChangeAt Go.RowKit Go.Deep

theorem i64_of {x : Int} (h : (Lit.int .i64 x).wf = true) : I64 x := by
  simp [Lit.wf, IntKind.min, IntKind.max, IntKind.signed, IntKind.bits] at h
  exact ⟨by omega, by omega⟩
set_option maxRecDepth 100000 in
theorem ops35_of {H : Type} {enc : TypeId × Value → H} {w : World} {v : Value} {d : DataW H} {ps : List MemPlace} (hr : Value.okWide Tryz.prog w .any 0 25 v)
    (h : DataW.Trod enc Tryz.prog w 0 (fun _ => true) true 25 v d ps) : ∃ ops : List PO, SlO w 0 v ops ∧ ∀ o ∈ ops, I64 o.node ∧ I64 o.later := by
  obtain ⟨A, len, cap, rfl, hl, hm, hc⟩ := open_recs Tryz.underlying25 Tryz.underlying29 (by kernel_rfl) (by kernel_rfl) (by decide) hr h
  obtain ⟨ops, hlen, hops⟩ := list_of (p := fun i (x : PO) => (∃ b o, A = some ⟨b, o, none⟩ ∧ ∀ j u, (encO x)[j]? = some u → w.cell? ⟨b, o + (i * 4 + j), none⟩ = some u) ∧ I64 x.node ∧ I64 x.later) len (fun i hi => by
    obtain ⟨b, o, hA, hf⟩ := hc i hi
    obtain ⟨u0, y0, n0, c0, t0⟩ := hf 0 _ rfl
    obtain ⟨u1, y1, n1, c1, t1⟩ := hf 1 _ rfl
    obtain ⟨u2, y2, n2, c2, t2⟩ := hf 2 _ rfl
    obtain ⟨u3, y3, n3, c3, t3⟩ := hf 3 _ rfl
    obtain ⟨x0, e0, _, w0⟩ := DataW.trod_int Tryz.underlying3 t0
    obtain ⟨x1, e1, _, w1⟩ := DataW.trod_int Tryz.underlying3 t1
    obtain ⟨x2, e2, _, w2⟩ := DataW.trod_int Tryz.underlying3 t2
    obtain ⟨x3, e3, _, w3⟩ := DataW.trod_int Tryz.underlying3 t3
    simp at e0 e1 e2 e3
    subst e0 e1 e2 e3
    refine ⟨⟨x0, x1, x2, x3⟩, ⟨b, o, hA, fun j u hu => ?_⟩, i64_of w2, i64_of w1⟩
    match j, hu with
    | 0, hu => cases hu; exact c0
    | 1, hu => cases hu; exact c1
    | 2, hu => cases hu; exact c2
    | 3, hu => cases hu; exact c3)
  subst hlen
  refine ⟨ops, ?_, fun o ho => ?_⟩
  · unfold SlO
    rcases Nat.eq_zero_or_pos ops.length with h0 | h0
    · have : ops = [] := List.eq_nil_of_length_eq_zero h0
      subst this
      exact Sl.empty w 0 4 A cap
    · obtain ⟨⟨b, o, rfl, _⟩, _⟩ := hops 0 _ (List.getElem?_eq_getElem h0)
      refine Sl.of_cells encO_len (by omega) (Nat.zero_le _) hl (fun i x hx j u hu => ?_)
      obtain ⟨⟨b', o', hA, hcell⟩, _⟩ := hops i x hx
      cases hA
      exact hcell j u hu
  · obtain ⟨i, hi, e⟩ := List.mem_iff_getElem.1 ho
    exact (hops i o (by rw [List.getElem?_eq_getElem hi, e])).2
end Go.Proofs.YtecblclpchndiaaGreat
