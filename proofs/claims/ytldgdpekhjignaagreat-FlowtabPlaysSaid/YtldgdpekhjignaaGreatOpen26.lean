/-
  A key, a call of chapter 26, and a slice of calls, opened. Condition: it reads as data.
-/
import Derived.Test.YtldgdpekhjignaaGreatOpenFl
set_option linter.unusedVariables false
set_option linter.unusedSimpArgs false
namespace Go.Proofs.YtldgdpekhjignaaGreat
open Go.ChangeShapes Go.WideShapes Go.ChangeAt Go.RowKit Go.Deep

set_option maxRecDepth 100000 in
theorem open_key {H : Type} {enc : TypeId × Value → H} {w : World} {v : Value} {d : DataW H} {ps : List MemPlace} (hr : Value.okWide Tryz.prog w .any 0 24 v)
    (h : DataW.Trod enc Tryz.prog w 0 (fun _ => true) true 24 v d ps) : ∃ ka kb : Int, v = .agg #[.int .u64 ka, .int .u64 kb] := by
  obtain ⟨cs, rfl, hlen, hc⟩ := open_struct1 Tryz.underlying24 (by kernel_rfl) (by kernel_rfl) hr h
  match cs, hlen with
  | [u0, u1], _ =>
    obtain ⟨y0, n0, t0⟩ := hc 0 _ rfl
    obtain ⟨y1, n1, t1⟩ := hc 1 _ rfl
    obtain ⟨x0, e0, _⟩ := DataW.trod_int Tryz.underlying22 t0
    obtain ⟨x1, e1, _⟩ := DataW.trod_int Tryz.underlying22 t1
    simp at e0 e1
    subst e0 e1
    exact ⟨x0, x1, rfl⟩
section
variable {H : Type} {enc : TypeId × Value → H} {w : World}
/-- A call of chapter 26's statements. -/
structure Op6 where
  kind : Int
  f : Fl
  n : Int
deriving Inhabited
def encO6 (o : Op6) : List Value := .int .i64 o.kind :: (encF o.f ++ [.int .i64 o.n])
theorem encO6_len (o : Op6) : (encO6 o).length = 36 := rfl
def okO6 (o : Op6) : Prop := (Lit.int .i64 o.kind).wf = true ∧ okF o.f ∧ (Lit.int .i64 o.n).wf = true
def SlO6 (w : World) (B : Nat) (v : Value) (l : List Op6) : Prop := Sl w B 36 v l.length (l.flatMap encO6)
set_option maxRecDepth 100000 in
theorem trod_o6 {n : Nat} {cs : List Value} {y : DataW H × List MemPlace} (h : DataW.trod enc Tryz.prog w 0 (fun _ => true) true n 40 cs = some y) : ∃ o : Op6, cs = encO6 o ∧ okO6 o := by
  obtain ⟨ys, n', _, _, hcl0, hyl, hfl⟩ := DataW.trod_struct Tryz.underlying40 h
  have hcI : Tryz.prog.cellsOf 3 = 1 := by kernel_rfl
  have hcN : Tryz.prog.cellsOf 38 = 34 := by kernel_rfl
  have hcE : Tryz.prog.cellsOf 40 = 36 := by kernel_rfl
  have hcl : cs.length = 36 := by rw [hcl0, hcE]
  have hys : ys.length = 3 := hyl
  have f0 : DataW.trod enc Tryz.prog w 0 (fun _ => true) true n' 3 ((cs.drop 0).take (Tryz.prog.cellsOf 3)) = ys[0]? := hfl 0 _ rfl
  have f1 : DataW.trod enc Tryz.prog w 0 (fun _ => true) true n' 38 ((cs.drop 1).take (Tryz.prog.cellsOf 38)) = ys[1]? := hfl 1 _ rfl
  have f2 : DataW.trod enc Tryz.prog w 0 (fun _ => true) true n' 3 ((cs.drop 35).take (Tryz.prog.cellsOf 3)) = ys[2]? := hfl 2 _ rfl
  rw [List.getElem?_eq_getElem (by omega)] at f0 f1 f2
  rw [hcN] at f1
  obtain ⟨x0, e0, w0⟩ := trod_int1 Tryz.underlying3 hcI (by omega) f0
  obtain ⟨x2, e2, w2⟩ := trod_int1 Tryz.underlying3 hcI (by omega) f2
  obtain ⟨e, he, hok⟩ := trod_fl f1
  refine ⟨⟨x0, e, x2⟩, ?_, w0, hok, w2⟩
  have h1 : cs = (cs.drop 0).take 1 ++ ((cs.drop 1).take 34 ++ (cs.drop 35).take 1) := by
    rw [List.take_of_length_le (l := cs.drop 35) (by simp [hcl]), cut_at cs 1 34, cut_at cs 0 1, List.drop_zero]
  rw [h1, e0, he, e2]
  rfl
set_option maxRecDepth 100000 in
theorem ops6_of {v : Value} {d : DataW H} {ps : List MemPlace} (hr : Value.okWide Tryz.prog w .any 0 25 v)
    (h : DataW.Trod enc Tryz.prog w 0 (fun _ => true) true 25 v d ps) : ∃ A cap l, v = .slice A (List.length l) cap ∧ SlO6 w 0 v l ∧ l.length ≤ maxLen ∧ ∀ x ∈ l, okO6 x := by
  obtain ⟨A, len, cap, rfl, hl, hm, hc⟩ := open_els Tryz.underlying25 (C := 36) (by kernel_rfl) (by omega) hr h
  obtain ⟨ops, hlen, hops⟩ := list_of (p := fun i (x : Op6) => (∃ b o, A = some ⟨b, o, none⟩ ∧ ∀ j u, (encO6 x)[j]? = some u → w.cell? ⟨b, o + (i * 36 + j), none⟩ = some u) ∧ okO6 x) len (fun i hi => by
    obtain ⟨b, o, cs, n, y, hA, hcl, hcell, ht⟩ := hc i hi
    obtain ⟨e, rfl, hok⟩ := trod_o6 ht
    exact ⟨e, ⟨b, o, hA, fun j u hu => by
      have hj : j < 36 := (List.getElem?_eq_some_iff.1 hu).1
      rw [hcell j hj, hu]⟩, hok⟩)
  subst hlen
  refine ⟨A, cap, ops, rfl, ?_, hm, fun x hx => by
    obtain ⟨i, hi, rfl⟩ := List.mem_iff_getElem.1 hx
    exact (hops i _ (List.getElem?_eq_getElem hi)).2⟩
  unfold SlO6
  rcases Nat.eq_zero_or_pos ops.length with h0 | h0
  · have : ops = [] := List.eq_nil_of_length_eq_zero h0
    subst this
    exact Sl.empty w 0 36 A cap
  · obtain ⟨⟨b, o, rfl, _⟩, _⟩ := hops 0 _ (List.getElem?_eq_getElem h0)
    refine Sl.of_cells encO6_len (by omega) (Nat.zero_le _) hl (fun i x hx j u hu => ?_)
    obtain ⟨⟨b', o', hA, hcell⟩, _⟩ := hops i x hx
    cases hA
    exact hcell j u hu
end
end Go.Proofs.YtldgdpekhjignaaGreat
