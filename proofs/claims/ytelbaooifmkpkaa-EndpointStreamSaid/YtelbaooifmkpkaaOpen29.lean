/-
  The pieces and the bytes of a stream opened. Condition: they read as data.
-/
import Derived.Test.YtelbaooifmkpkaaFrame2
import Derived.Test.YtelbaooifmkpkaaEpS
set_option linter.unusedVariables false
set_option linter.unusedSimpArgs false
namespace Go.Proofs.Ytelbaooifmkpkaa
open Go.ChangeShapes Go.WideShapes Go.ChangeAt Go.RowKit Go.Deep

theorem bytes_of {H : Type} {enc : TypeId × Value → H} {w : World} {v : Value} {d : DataW H} {ps : List MemPlace} (hr : Value.okWide Try.prog w .any 0 43 v)
    (h : DataW.Trod enc Try.prog w 0 (fun _ => true) true 43 v d ps) : ∃ A cap l, v = .slice A (List.length l) cap ∧ SlB w 0 (.slice A l.length cap) l ∧ l.length ≤ maxLen ∧ ∀ x ∈ l, 0 ≤ x ∧ x ≤ 255 := by
  obtain ⟨A, cap, l, hv, hs, hm, hw⟩ := open_ints' Try.underlying43 Try.underlying5 (by kernel_rfl) hr h
  subst hv
  exact ⟨A, cap, l, rfl, hs, hm, fun x hx => bounds_u8 (hw x hx)⟩
theorem pieces_of {H : Type} {enc : TypeId × Value → H} {w : World} {v : Value} {d : DataW H} {ps : List MemPlace} (hr : Value.okWide Try.prog w .any 0 44 v)
    (h : DataW.Trod enc Try.prog w 0 (fun _ => true) true 44 v d ps) : ∃ A cap ops, v = .slice A (List.length ops) cap ∧ SlPc w 0 (.slice A ops.length cap) ops ∧ ops.length ≤ maxLen := by
  obtain ⟨A, len, cap, rfl, hl, hm, hc⟩ := open_recs Try.underlying44 Try.underlying49 (by kernel_rfl) (by kernel_rfl) (by decide) hr h
  obtain ⟨ops, hlen, hops⟩ := list_of (p := fun i (x : PC) => ∃ b o, A = some ⟨b, o, none⟩ ∧ ∀ j u, (encPc x)[j]? = some u → w.cell? ⟨b, o + (i * 3 + j), none⟩ = some u) len (fun i hi => by
    obtain ⟨b, o, hA, hf⟩ := hc i hi
    obtain ⟨u0, y0, n0, c0, t0⟩ := hf 0 _ rfl
    obtain ⟨u1, y1, n1, c1, t1⟩ := hf 1 _ rfl
    obtain ⟨u2, y2, n2, c2, t2⟩ := hf 2 _ rfl
    obtain ⟨x0, e0, _, w0⟩ := DataW.trod_int Try.underlying3 t0
    obtain ⟨x1, e1, _, w1⟩ := DataW.trod_int Try.underlying3 t1
    obtain ⟨x2, e2, _⟩ := DataW.trod_bool Try.underlying4 t2
    simp at e0 e1 e2
    subst e0 e1 e2
    refine ⟨⟨x0, x1, x2⟩, b, o, hA, fun j u hu => ?_⟩
    match j, hu with
    | 0, hu => cases hu; exact c0
    | 1, hu => cases hu; exact c1
    | 2, hu => cases hu; exact c2)
  subst hlen
  refine ⟨A, cap, ops, rfl, ?_, hm⟩
  unfold SlPc
  rcases Nat.eq_zero_or_pos ops.length with h0 | h0
  · have : ops = [] := List.eq_nil_of_length_eq_zero h0
    subst this
    exact Sl.empty w 0 3 A cap
  · obtain ⟨b, o, rfl, _⟩ := hops 0 _ (List.getElem?_eq_getElem h0)
    refine Sl.of_cells encPc_len (by omega) (Nat.zero_le _) hl (fun i x hx j u hu => ?_)
    obtain ⟨b', o', hA, hcell⟩ := hops i x hx
    cases hA
    exact hcell j u hu
end Go.Proofs.Ytelbaooifmkpkaa
