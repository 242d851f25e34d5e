/-
  An event, and a slice of events, opened. Condition: it reads as data.
-/
import Derived.Test.YtgbdbeaflilmlaaOpenFl
import Derived.Test.YtgbdbeaflilmlaaModelS
set_option linter.unusedVariables false
set_option linter.unusedSimpArgs false
namespace Go.Proofs.Ytgbdbeaflilmlaa
open Go.ChangeShapes Go.WideShapes Go.ChangeAt Go.RowKit Go.Deep

section
variable {H : Type} {enc : TypeId × Value → H} {w : World}
set_option maxRecDepth 100000 in
theorem trod_ev {n : Nat} {cs : List Value} {y : DataW H × List MemPlace} (h : DataW.trod enc Try.prog w 0 (fun _ => true) true n 75 cs = some y) : ∃ e : Ev, cs = encE e ∧ okE e := by
  obtain ⟨ys, n', _, _, hcl0, hyl, hfl⟩ := DataW.trod_struct Try.underlying75 h
  have hcF : Try.prog.cellsOf 73 = 34 := by kernel_rfl
  have hcI : Try.prog.cellsOf 3 = 1 := by kernel_rfl
  have hcE : Try.prog.cellsOf 75 = 39 := by kernel_rfl
  have hcl : cs.length = 39 := by rw [hcl0, hcE]
  have hys : ys.length = 6 := hyl
  have f0 : DataW.trod enc Try.prog w 0 (fun _ => true) true n' 3 ((cs.drop 0).take (Try.prog.cellsOf 3)) = ys[0]? := hfl 0 _ rfl
  have f1 : DataW.trod enc Try.prog w 0 (fun _ => true) true n' 3 ((cs.drop 1).take (Try.prog.cellsOf 3)) = ys[1]? := hfl 1 _ rfl
  have f2 : DataW.trod enc Try.prog w 0 (fun _ => true) true n' 73 ((cs.drop 2).take (Try.prog.cellsOf 73)) = ys[2]? := hfl 2 _ rfl
  have f3 : DataW.trod enc Try.prog w 0 (fun _ => true) true n' 3 ((cs.drop 36).take (Try.prog.cellsOf 3)) = ys[3]? := hfl 3 _ rfl
  have f4 : DataW.trod enc Try.prog w 0 (fun _ => true) true n' 3 ((cs.drop 37).take (Try.prog.cellsOf 3)) = ys[4]? := hfl 4 _ rfl
  have f5 : DataW.trod enc Try.prog w 0 (fun _ => true) true n' 3 ((cs.drop 38).take (Try.prog.cellsOf 3)) = ys[5]? := hfl 5 _ rfl
  rw [List.getElem?_eq_getElem (by omega)] at f0 f1 f2 f3 f4 f5
  rw [hcF] at f2
  obtain ⟨x0, e0, w0⟩ := trod_int1 Try.underlying3 hcI (by omega) f0
  obtain ⟨x1, e1, w1⟩ := trod_int1 Try.underlying3 hcI (by omega) f1
  obtain ⟨x3, e3, w3⟩ := trod_int1 Try.underlying3 hcI (by omega) f3
  obtain ⟨x4, e4, w4⟩ := trod_int1 Try.underlying3 hcI (by omega) f4
  obtain ⟨x5, e5, w5⟩ := trod_int1 Try.underlying3 hcI (by omega) f5
  obtain ⟨f, hf, hok⟩ := trod_fl f2
  refine ⟨⟨x0, x1, f, x3, x4, x5⟩, ?_, hok⟩
  have h1 : cs = (cs.drop 0).take 1 ++ ((cs.drop 1).take 1 ++ ((cs.drop 2).take 34 ++ ((cs.drop 36).take 1 ++ ((cs.drop 37).take 1 ++ (cs.drop 38).take 1)))) := by
    rw [List.take_of_length_le (l := cs.drop 38) (by simp [hcl]), cut_at cs 37 1, cut_at cs 36 1, cut_at cs 2 34, cut_at cs 1 1, cut_at cs 0 1, List.drop_zero]
  rw [h1, e0, e1, hf, e3, e4, e5]
  rfl
set_option maxRecDepth 100000 in
theorem open_ev {v : Value} {d : DataW H} {ps : List MemPlace} (hr : Value.okWide Try.prog w .any 0 75 v) (h : DataW.Trod enc Try.prog w 0 (fun _ => true) true 75 v d ps) : ∃ e : Ev, v = .agg (arrE e) ∧ okE e := by
  obtain ⟨cs, rfl, hsz⟩ := okWide_struct Try.underlying75 hr
  obtain ⟨fuel, hf⟩ := h
  have hcs : (Value.agg cs).cells.toList = cs.toList := by rfl
  rw [hcs] at hf
  obtain ⟨e, he, hok⟩ := trod_ev hf
  exact ⟨e, by unfold arrE; rw [← he], hok⟩
/-- The slice v reads as the events l. -/
def SlEv (w : World) (B : Nat) (v : Value) (l : List Ev) : Prop := Sl w B 39 v l.length (l.flatMap encE)
set_option maxRecDepth 100000 in
theorem evs_of {v : Value} {d : DataW H} {ps : List MemPlace} (hr : Value.okWide Try.prog w .any 0 64 v)
    (h : DataW.Trod enc Try.prog w 0 (fun _ => true) true 64 v d ps) : ∃ A cap l, v = .slice A (List.length l) cap ∧ SlEv w 0 v l ∧ l.length ≤ maxLen ∧ ∀ x ∈ l, okE x := by
  obtain ⟨A, len, cap, rfl, hl, hm, hc⟩ := open_els Try.underlying64 (C := 39) (by kernel_rfl) (by omega) hr h
  obtain ⟨ops, hlen, hops⟩ := list_of (p := fun i (x : Ev) => (∃ b o, A = some ⟨b, o, none⟩ ∧ ∀ j u, (encE x)[j]? = some u → w.cell? ⟨b, o + (i * 39 + j), none⟩ = some u) ∧ okE x) len (fun i hi => by
    obtain ⟨b, o, cs, n, y, hA, hcl, hcell, ht⟩ := hc i hi
    obtain ⟨e, rfl, hok⟩ := trod_ev ht
    exact ⟨e, ⟨b, o, hA, fun j u hu => by
      have hj : j < 39 := (List.getElem?_eq_some_iff.1 hu).1
      rw [hcell j hj, hu]⟩, hok⟩)
  subst hlen
  refine ⟨A, cap, ops, rfl, ?_, hm, fun x hx => by
    obtain ⟨i, hi, rfl⟩ := List.mem_iff_getElem.1 hx
    exact (hops i _ (List.getElem?_eq_getElem hi)).2⟩
  unfold SlEv
  rcases Nat.eq_zero_or_pos ops.length with h0 | h0
  · have : ops = [] := List.eq_nil_of_length_eq_zero h0
    subst this
    exact Sl.empty w 0 39 A cap
  · obtain ⟨⟨b, o, rfl, _⟩, _⟩ := hops 0 _ (List.getElem?_eq_getElem h0)
    refine Sl.of_cells encE_len (by omega) (Nat.zero_le _) hl (fun i x hx j u hu => ?_)
    obtain ⟨⟨b', o', hA, hcell⟩, _⟩ := hops i x hx
    cases hA
    exact hcell j u hu
end
end Go.Proofs.Ytgbdbeaflilmlaa
