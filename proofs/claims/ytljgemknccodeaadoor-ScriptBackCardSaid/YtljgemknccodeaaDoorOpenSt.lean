/-
  A slice of steps, opened. Condition: it reads as data.
-/
import Derived.Test.YtljgemknccodeaaDoorFrame3
import Derived.Test.YtljgemknccodeaaDoorScTexts
set_option linter.unusedVariables false
set_option linter.unusedSimpArgs false
namespace Go.Proofs.YtljgemknccodeaaDoor
open Go.ChangeShapes Go.WideShapes Go.ChangeAt Go.RowKit Go.Deep

theorem i64s_of {x : Int} (h : (Lit.int .i64 x).wf = true) : I64s x := by
  simp [Lit.wf, IntKind.min, IntKind.max, IntKind.signed, IntKind.bits] at h
  exact ⟨by omega, by omega⟩
theorem u8_of {x : Int} (h : (Lit.int .u8 x).wf = true) : 0 ≤ x ∧ x ≤ 255 := by
  simp [Lit.wf, IntKind.min, IntKind.max, IntKind.signed, IntKind.bits] at h
  exact ⟨by omega, by omega⟩
theorem bytes_back {l : List Int} (h : ∀ x ∈ l, (Lit.int .u8 x).wf = true) : ∃ b : Bs, b.length = l.length ∧ l.map (Value.int .u8) = b.map yv := by
  refine ⟨l.map fun x => UInt8.ofNat x.toNat, by simp, ?_⟩
  rw [List.map_map]
  apply List.map_congr_left
  intro x hx
  obtain ⟨h0, h1⟩ := u8_of (h x hx)
  show Value.int .u8 x = Value.int .u8 ((UInt8.ofNat x.toNat).toNat : Int)
  have : ((UInt8.ofNat x.toNat).toNat : Int) = x := by simp [UInt8.toNat_ofNat']; omega
  rw [this]
set_option maxRecDepth 100000 in
theorem steps_of {H : Type} {enc : TypeId × Value → H} {w : World} {v : Value} {d : DataW H} {ps : List MemPlace} (hr : Value.okWide Tryd.prog w .any 0 23 v)
    (h : DataW.Trod enc Tryd.prog w 0 (fun _ => true) true 23 v d ps) : ∃ es : List SV, SlT w 0 v es ∧ StsR w [] es ∧ (∀ x ∈ es, I64St x.1) ∧ es.length ≤ 9223372036854775807 := by
  obtain ⟨A, len, cap, rfl, hl, hm, hc⟩ := open_recs Tryd.underlying23 Tryd.underlying32 (by kernel_rfl) (by kernel_rfl) (by decide) hr h
  obtain ⟨es, hlen, hes⟩ := list_of (p := fun i (x : SV) => (∃ b o, A = some ⟨b, o, none⟩ ∧ ∀ j u, (encT x)[j]? = some u → w.cell? ⟨b, o + (i * 5 + j), none⟩ = some u) ∧ I64St x.1 ∧ SlY w 0 x.2 x.1.b) len (fun i hi => by
    obtain ⟨b, o, hA, hf⟩ := hc i hi
    obtain ⟨u0, y0, n0, c0, t0⟩ := hf 0 _ rfl
    obtain ⟨u1, y1, n1, c1, t1⟩ := hf 1 _ rfl
    obtain ⟨u2, y2, n2, c2, t2⟩ := hf 2 _ rfl
    obtain ⟨u3, y3, n3, c3, t3⟩ := hf 3 _ rfl
    obtain ⟨u4, y4, n4, c4, t4⟩ := hf 4 _ rfl
    obtain ⟨x0, e0, _, w0⟩ := DataW.trod_int Tryd.underlying3 t0
    obtain ⟨x1, e1, _, w1⟩ := DataW.trod_int Tryd.underlying3 t1
    obtain ⟨x2, e2, _, w2⟩ := DataW.trod_int Tryd.underlying3 t2
    obtain ⟨x3, e3, _, w3⟩ := DataW.trod_int Tryd.underlying3 t3
    obtain ⟨A4, k4, l4, e4, s4, _, w4⟩ := open_ints_cell Tryd.underlying30 Tryd.underlying5 (by kernel_rfl) t4
    obtain ⟨bs, hbl, hbs⟩ := bytes_back w4
    simp at e0 e1 e2 e3
    subst e0 e1 e2 e3
    refine ⟨(⟨x0, x1, x2, x3, bs⟩, u4), ⟨b, o, hA, fun j u hu => ?_⟩, ⟨i64s_of w0, i64s_of w1, i64s_of w2, i64s_of w3⟩, ?_⟩
    · match j, hu with
      | 0, hu => cases hu; exact c0
      | 1, hu => cases hu; exact c1
      | 2, hu => cases hu; exact c2
      | 3, hu => cases hu; exact c3
      | 4, hu => cases hu; exact c4
    · show Sl w 0 1 u4 bs.length (bs.map yv)
      rw [hbl, ← hbs]
      exact s4)
  subst hlen
  have hsl : ∀ x ∈ es, SlY w 0 x.2 x.1.b := fun x hx => by
    obtain ⟨i, hi, e⟩ := List.mem_iff_getElem.1 hx
    exact (hes i x (by rw [List.getElem?_eq_getElem hi, e])).2.2
  refine ⟨es, ?_, fun x hx => ⟨hsl x hx, fun hn y hy => ⟨by simp, (SlY.fresh (hsl x hx) hn y hy).2⟩⟩, fun x hx => ?_, by unfold maxLen at hm; omega⟩
  · unfold SlT
    rcases Nat.eq_zero_or_pos es.length with h0 | h0
    · have : es = [] := List.eq_nil_of_length_eq_zero h0
      subst this
      exact Sl.empty w 0 5 A cap
    · obtain ⟨⟨b, o, rfl, _⟩, _⟩ := hes 0 _ (List.getElem?_eq_getElem h0)
      refine Sl.of_cells encT_len (by omega) (Nat.zero_le _) hl (fun i x hx j u hu => ?_)
      obtain ⟨⟨b', o', hA, hcell⟩, _⟩ := hes i x hx
      cases hA
      exact hcell j u hu
  · obtain ⟨i, hi, e⟩ := List.mem_iff_getElem.1 hx
    exact (hes i x (by rw [List.getElem?_eq_getElem hi, e])).2.1
end Go.Proofs.YtljgemknccodeaaDoor
