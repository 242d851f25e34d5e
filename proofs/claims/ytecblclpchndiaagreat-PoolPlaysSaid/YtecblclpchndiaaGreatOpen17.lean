/-
  A key, and a slice of members, opened as records. Condition: they read as data.
-/
import Derived.Test.YtecblclpchndiaaGreatFrame3
import Derived.Test.YtecblclpchndiaaGreatMagM
set_option linter.unusedVariables false
set_option linter.unusedSimpArgs false
namespace Go.Proofs.YtecblclpchndiaaGreat
open Go.ChangeShapes Go.WideShapes Go.ChangeAt Go.RowKit Go.Deep

set_option maxRecDepth 100000 in
theorem open_key {H : Type} {enc : TypeId × Value → H} {w : World} {v : Value} {d : DataW H} {ps : List MemPlace} (hr : Value.okWide Tryz.prog w .any 0 24 v)
    (h : DataW.Trod enc Tryz.prog w 0 (fun _ => true) true 24 v d ps) : ∃ ka kb : Int, v = .agg #[.int .u64 ka, .int .u64 kb] := by
  obtain ⟨cs, rfl, hlen, hc⟩ := open_struct1 Tryz.underlying24 (by kernel_rfl) (by kernel_rfl) hr h
  match cs, hlen with
  | [u0, u1], _ =>
    obtain ⟨y0, n0, t0⟩ := hc 0 _ rfl
    obtain ⟨y1, n1, t1⟩ := hc 1 _ rfl
    obtain ⟨x0, e0, _⟩ := DataW.trod_int Tryz.underlying22 t0
    obtain ⟨x1, e1, _⟩ := DataW.trod_int Tryz.underlying22 t1
    simp at e0 e1
    subst e0 e1
    exact ⟨x0, x1, rfl⟩
set_option maxRecDepth 100000 in
theorem mbs_of {H : Type} {enc : TypeId × Value → H} {w : World} {v : Value} {d : DataW H} {ps : List MemPlace} (hr : Value.okWide Tryz.prog w .any 0 42 v)
    (h : DataW.Trod enc Tryz.prog w 0 (fun _ => true) true 42 v d ps) : ∃ ops : List Mb, SlM w 0 v ops := by
  obtain ⟨A, len, cap, rfl, hl, hm, hc⟩ := open_recs Tryz.underlying42 Tryz.underlying78 (by kernel_rfl) (by kernel_rfl) (by decide) hr h
  obtain ⟨ops, hlen, hops⟩ := list_of (p := fun i (x : Mb) => (∃ b o, A = some ⟨b, o, none⟩ ∧ ∀ j u, (encM x)[j]? = some u → w.cell? ⟨b, o + (i * 2 + j), none⟩ = some u)) len (fun i hi => by
    obtain ⟨b, o, hA, hf⟩ := hc i hi
    obtain ⟨u0, y0, n0, c0, t0⟩ := hf 0 _ rfl
    obtain ⟨u1, y1, n1, c1, t1⟩ := hf 1 _ rfl
    obtain ⟨x0, e0, _, w0⟩ := DataW.trod_int Tryz.underlying3 t0
    obtain ⟨x1, e1, _, w1⟩ := DataW.trod_int Tryz.underlying3 t1
    simp at e0 e1
    subst e0 e1
    refine ⟨⟨x0, x1⟩, ⟨b, o, hA, fun j u hu => ?_⟩⟩
    match j, hu with
    | 0, hu => cases hu; exact c0
    | 1, hu => cases hu; exact c1)
  subst hlen
  refine ⟨ops, ?_⟩
  unfold SlM
  rcases Nat.eq_zero_or_pos ops.length with h0 | h0
  · have : ops = [] := List.eq_nil_of_length_eq_zero h0
    subst this
    exact Sl.empty w 0 2 A cap
  · obtain ⟨b, o, rfl, _⟩ := hops 0 _ (List.getElem?_eq_getElem h0)
    refine Sl.of_cells encM_len (by omega) (Nat.zero_le _) hl (fun i x hx j u hu => ?_)
    obtain ⟨b', o', hA, hcell⟩ := hops i x hx
    cases hA
    exact hcell j u hu
end Go.Proofs.YtecblclpchndiaaGreat
