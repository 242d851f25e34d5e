/-
  PROVED: SlotsPlays returns true for every input, and its arguments read as before. No condition.
-/
import Derived.Test.YtelbaooifmkpkaaFrame
import Derived.Test.YtelbaooifmkpkaaPlays21
set_option linter.unusedVariables false
set_option linter.unusedSimpArgs false
namespace Go.Proofs.Ytelbaooifmkpkaa.slotsPlays
open Go.ChangeShapes Go.WideShapes Go.ChangeAt Go.RowKit Go.Deep

theorem ops_of {H : Type} {enc : TypeId × Value → H} {w : World} {v : Value} {d : DataW H} {ps : List MemPlace} (hr : Value.okWide Try.prog w .any 0 22 v)
    (h : DataW.Trod enc Try.prog w 0 (fun _ => true) true 22 v d ps) : ∃ A cap ops, v = .slice A (List.length ops) cap ∧ SlO w 0 v ops ∧ ops.length ≤ maxLen := by
  obtain ⟨A, len, cap, rfl, hl, hm, hc⟩ := open_recs Try.underlying22 Try.underlying29 (by kernel_rfl) (by kernel_rfl) (by decide) hr h
  obtain ⟨ops, hlen, hops⟩ := list_of (p := fun i (x : OpR) => ∃ b o, A = some ⟨b, o, none⟩ ∧ ∀ j u, (encO x)[j]? = some u → w.cell? ⟨b, o + (i * 3 + j), none⟩ = some u) len (fun i hi => by
    obtain ⟨b, o, hA, hf⟩ := hc i hi
    obtain ⟨u0, y0, n0, c0, t0⟩ := hf 0 _ rfl
    obtain ⟨u1, y1, n1, c1, t1⟩ := hf 1 _ rfl
    obtain ⟨u2, y2, n2, c2, t2⟩ := hf 2 _ rfl
    obtain ⟨x0, e0, _, w0⟩ := DataW.trod_int Try.underlying3 t0
    obtain ⟨x1, e1, _, w1⟩ := DataW.trod_int Try.underlying3 t1
    obtain ⟨x2, e2, _, w2⟩ := DataW.trod_int Try.underlying3 t2
    simp at e0 e1 e2
    subst e0 e1 e2
    refine ⟨⟨x0, x1, x2⟩, b, o, hA, fun j u hu => ?_⟩
    match j, hu with
    | 0, hu => cases hu; exact c0
    | 1, hu => cases hu; exact c1
    | 2, hu => cases hu; exact c2)
  subst hlen
  refine ⟨A, cap, ops, rfl, ?_, hm⟩
  unfold SlO
  rcases Nat.eq_zero_or_pos ops.length with h0 | h0
  · have : ops = [] := List.eq_nil_of_length_eq_zero h0
    subst this
    exact Sl.empty w 0 3 A cap
  · obtain ⟨b, o, rfl, _⟩ := hops 0 _ (List.getElem?_eq_getElem h0)
    refine Sl.of_cells encO_len (by omega) (Nat.zero_le _) hl (fun i x hx j u hu => ?_)
    obtain ⟨b', o', hA, hcell⟩ := hops i x hx
    cases hA
    exact hcell j u hu

set_option maxRecDepth 100000 in
theorem lifted (os : Os) (started : os.Started) (H : Type) (enc : TypeId × Value → H) :
    ReturnsInHanded {} Try.checked os 3 .any (Rows.slotsPlaysSpec.pre6 enc Try.prog Try.f3 Rows.slotsPlaysRow.domain false) (Rows.slotsPlaysSpec.post enc Try.prog Try.f3 false true false false) := by
  refine returnsInHanded_of_change (C := Try.checked) own started (by kernel_rfl) Try.func3
    (ChangeSpec.witness6 (enc := enc) (C := Try.checked) false ⟨#[], #[.int .i64 0, .slice none 0 0], []⟩ 8 (by kernel_rfl) (by kernel_rfl) (by kernel_rfl) (by kernel_rfl)) ?_
  intro W base args ds gs before hval0 hW hcnd _
  have hval : ∀ (j : Nat) t v, Try.f3.params[j]? = some t → args[j]? = some v → Value.okWide Try.prog W .any base t v := hval0
  have hW' := hW
  obtain ⟨p, q, hA0, hV, rfl, hfz, hnd⟩ := hW
  have hA : DataW.TrodAll enc Try.prog W 0 (fun _ => true) true Try.f3.params.toList args.toList ds p := hA0
  rw [Try.params3] at hA hval
  obtain ⟨v0, vs0, d0, ds0, p0, q0, hargs, rfl, rfl, h0, r0⟩ := trodAll_cons hA
  obtain ⟨v1, vs1, d1, ds1, p1, q1, rfl, rfl, rfl, h1, r1⟩ := trodAll_cons r0
  obtain ⟨rfl, rfl, rfl⟩ := trodAll_nil r1
  obtain rfl : args = #[v0, v1] := by cases args; simp_all
  obtain ⟨rfl, rfl⟩ := trodVars_none hV
  obtain ⟨a0, rfl, rfl, rfl, w0⟩ := open_int Try.underlying3 (hval 0 3 v0 rfl rfl) h0
  obtain ⟨A1, cap1, ops, rfl, hs1, hm1⟩ := ops_of (hval 1 22 v1 rfl rfl) h1
  unfold maxLen at hm1
  refine (plays21 a0 A1 cap1 ops W hs1 hm1).mono fun e W' ⟨he, hg⟩ => ?_
  subst he
  exact ⟨_, rfl, law_post laidOut rfl Try.underlying4 (by kernel_rfl) rfl hW' rfl hg⟩

theorem over : Rows.slotsPlaysRow.holds Try.pinned (OpenSpec.ofChange Rows.slotsPlaysSpec) :=
  OpenClaim.holds_of_wide 3 Try.f3 rfl rfl rfl rfl rfl rfl rfl ⟨rfl, rfl, rfl, rfl, rfl⟩ rfl rfl rfl rfl rfl (by kernel_rfl) Try.func3 (by kernel_rfl)
    (of_decide_eq_true (by kernel_rfl)) (by unfold Func.isWrapper; first | (rw [if_pos (by decide +kernel)]; kernel_rfl) | (rw [if_neg (by decide +kernel)]; exact ⟨rfl, rfl⟩))
    (fun os started H enc _ => lifted os started H enc)

/-- The statement. -/
theorem proved : Rows.SlotsPlaysSaid :=
  over
#print axioms proved
end Go.Proofs.Ytelbaooifmkpkaa.slotsPlays
