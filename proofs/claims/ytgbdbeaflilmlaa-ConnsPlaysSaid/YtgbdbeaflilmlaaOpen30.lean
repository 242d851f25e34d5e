/-
  An entry, an operation of chapter 30, and a slice of operations, opened. Condition: it reads as data.
-/
import Derived.Test.YtgbdbeaflilmlaaOpenFl
import Derived.Test.YtgbdbeaflilmlaaConnP
set_option linter.unusedVariables false
set_option linter.unusedSimpArgs false
namespace Go.Proofs.Ytgbdbeaflilmlaa
open Go.ChangeShapes Go.WideShapes Go.ChangeAt Go.RowKit Go.Deep

/-- Each number of an entry is one of its kind. -/
structure okN (e : En) : Prop where
  fl : okF e.fl
  kind : (Lit.int .i64 e.kind).wf = true
  first : (Lit.int .u32 e.first).wf = true
  floor : (Lit.int .i64 e.floor).wf = true
  passed : (Lit.int .i64 e.passed).wf = true
  til : (Lit.int .i64 e.til).wf = true
  st : (Lit.int .i64 e.st).wf = true
  cf : (Lit.int .u32 e.cf).wf = true
  co : (Lit.int .u32 e.co).wf = true
  cn : (Lit.int .u32 e.cn).wf = true
  cs : (Lit.int .u32 e.cs).wf = true
  cg : (Lit.int .i64 e.cg).wf = true
  cm : (Lit.int .u32 e.cm).wf = true
section
variable {H : Type} {enc : TypeId × Value → H} {w : World}
set_option maxRecDepth 100000 in
theorem trod_cn {n : Nat} {cs : List Value} {y : DataW H × List MemPlace} (h : DataW.trod enc Try.prog w 0 (fun _ => true) true n 94 cs = some y) :
    ∃ a b c d e f g, cs = [.int .i64 a, .int .u32 b, .int .u32 c, .int .u32 d, .int .u32 e, .int .i64 f, .int .u32 g] ∧ (Lit.int .i64 a).wf = true ∧ (Lit.int .u32 b).wf = true ∧ (Lit.int .u32 c).wf = true ∧ (Lit.int .u32 d).wf = true ∧ (Lit.int .u32 e).wf = true ∧ (Lit.int .i64 f).wf = true ∧ (Lit.int .u32 g).wf = true := by
  obtain ⟨ys, n', _, _, hcl0, hyl, hfl⟩ := DataW.trod_struct Try.underlying94 h
  have hcI : Try.prog.cellsOf 3 = 1 := by kernel_rfl
  have hcU : Try.prog.cellsOf 92 = 1 := by kernel_rfl
  have hcE : Try.prog.cellsOf 94 = 7 := by kernel_rfl
  have hcl : cs.length = 7 := by rw [hcl0, hcE]
  have hys : ys.length = 7 := hyl
  have f0 : DataW.trod enc Try.prog w 0 (fun _ => true) true n' 3 ((cs.drop 0).take (Try.prog.cellsOf 3)) = ys[0]? := hfl 0 _ rfl
  have f1 : DataW.trod enc Try.prog w 0 (fun _ => true) true n' 92 ((cs.drop 1).take (Try.prog.cellsOf 92)) = ys[1]? := hfl 1 _ rfl
  have f2 : DataW.trod enc Try.prog w 0 (fun _ => true) true n' 92 ((cs.drop 2).take (Try.prog.cellsOf 92)) = ys[2]? := hfl 2 _ rfl
  have f3 : DataW.trod enc Try.prog w 0 (fun _ => true) true n' 92 ((cs.drop 3).take (Try.prog.cellsOf 92)) = ys[3]? := hfl 3 _ rfl
  have f4 : DataW.trod enc Try.prog w 0 (fun _ => true) true n' 92 ((cs.drop 4).take (Try.prog.cellsOf 92)) = ys[4]? := hfl 4 _ rfl
  have f5 : DataW.trod enc Try.prog w 0 (fun _ => true) true n' 3 ((cs.drop 5).take (Try.prog.cellsOf 3)) = ys[5]? := hfl 5 _ rfl
  have f6 : DataW.trod enc Try.prog w 0 (fun _ => true) true n' 92 ((cs.drop 6).take (Try.prog.cellsOf 92)) = ys[6]? := hfl 6 _ rfl
  rw [List.getElem?_eq_getElem (by omega)] at f0 f1 f2 f3 f4 f5 f6
  obtain ⟨x0, e0, w0⟩ := trod_int1 Try.underlying3 hcI (by omega) f0
  obtain ⟨x1, e1, w1⟩ := trod_int1 Try.underlying92 hcU (by omega) f1
  obtain ⟨x2, e2, w2⟩ := trod_int1 Try.underlying92 hcU (by omega) f2
  obtain ⟨x3, e3, w3⟩ := trod_int1 Try.underlying92 hcU (by omega) f3
  obtain ⟨x4, e4, w4⟩ := trod_int1 Try.underlying92 hcU (by omega) f4
  obtain ⟨x5, e5, w5⟩ := trod_int1 Try.underlying3 hcI (by omega) f5
  obtain ⟨x6, e6, w6⟩ := trod_int1 Try.underlying92 hcU (by omega) f6
  refine ⟨x0, x1, x2, x3, x4, x5, x6, ?_, w0, w1, w2, w3, w4, w5, w6⟩
  have h1 : cs = (cs.drop 0).take 1 ++ ((cs.drop 1).take 1 ++ ((cs.drop 2).take 1 ++ ((cs.drop 3).take 1 ++ ((cs.drop 4).take 1 ++ ((cs.drop 5).take 1 ++ (cs.drop 6).take 1))))) := by
    rw [List.take_of_length_le (l := cs.drop 6) (by simp [hcl]), cut_at cs 5 1, cut_at cs 4 1, cut_at cs 3 1, cut_at cs 2 1, cut_at cs 1 1, cut_at cs 0 1, List.drop_zero]
  rw [h1, e0, e1, e2, e3, e4, e5, e6]
  rfl
set_option maxRecDepth 100000 in
theorem trod_en {n : Nat} {cs : List Value} {y : DataW H × List MemPlace} (h : DataW.trod enc Try.prog w 0 (fun _ => true) true n 96 cs = some y) : ∃ e : En, cs = encN e ∧ okN e := by
  obtain ⟨ys, n', _, _, hcl0, hyl, hfl⟩ := DataW.trod_struct Try.underlying96 h
  have hcF : Try.prog.cellsOf 73 = 34 := by kernel_rfl
  have hcI : Try.prog.cellsOf 3 = 1 := by kernel_rfl
  have hcU : Try.prog.cellsOf 92 = 1 := by kernel_rfl
  have hcC : Try.prog.cellsOf 94 = 7 := by kernel_rfl
  have hcE : Try.prog.cellsOf 96 = 46 := by kernel_rfl
  have hcl : cs.length = 46 := by rw [hcl0, hcE]
  have hys : ys.length = 7 := hyl
  have f0 : DataW.trod enc Try.prog w 0 (fun _ => true) true n' 73 ((cs.drop 0).take (Try.prog.cellsOf 73)) = ys[0]? := hfl 0 _ rfl
  have f1 : DataW.trod enc Try.prog w 0 (fun _ => true) true n' 3 ((cs.drop 34).take (Try.prog.cellsOf 3)) = ys[1]? := hfl 1 _ rfl
  have f2 : DataW.trod enc Try.prog w 0 (fun _ => true) true n' 92 ((cs.drop 35).take (Try.prog.cellsOf 92)) = ys[2]? := hfl 2 _ rfl
  have f3 : DataW.trod enc Try.prog w 0 (fun _ => true) true n' 3 ((cs.drop 36).take (Try.prog.cellsOf 3)) = ys[3]? := hfl 3 _ rfl
  have f4 : DataW.trod enc Try.prog w 0 (fun _ => true) true n' 3 ((cs.drop 37).take (Try.prog.cellsOf 3)) = ys[4]? := hfl 4 _ rfl
  have f5 : DataW.trod enc Try.prog w 0 (fun _ => true) true n' 3 ((cs.drop 38).take (Try.prog.cellsOf 3)) = ys[5]? := hfl 5 _ rfl
  have f6 : DataW.trod enc Try.prog w 0 (fun _ => true) true n' 94 ((cs.drop 39).take (Try.prog.cellsOf 94)) = ys[6]? := hfl 6 _ rfl
  rw [List.getElem?_eq_getElem (by omega)] at f0 f1 f2 f3 f4 f5 f6
  rw [hcF] at f0
  rw [hcC] at f6
  obtain ⟨x1, e1, w1⟩ := trod_int1 Try.underlying3 hcI (by omega) f1
  obtain ⟨x2, e2, w2⟩ := trod_int1 Try.underlying92 hcU (by omega) f2
  obtain ⟨x3, e3, w3⟩ := trod_int1 Try.underlying3 hcI (by omega) f3
  obtain ⟨x4, e4, w4⟩ := trod_int1 Try.underlying3 hcI (by omega) f4
  obtain ⟨x5, e5, w5⟩ := trod_int1 Try.underlying3 hcI (by omega) f5
  obtain ⟨f, hf, hok⟩ := trod_fl f0
  obtain ⟨a, b, c, d, e, f', g, hc, k0, k1, k2, k3, k4, k5, k6⟩ := trod_cn f6
  refine ⟨⟨f, x1, x2, x3, x4, x5, a, b, c, d, e, f', g⟩, ?_, hok, w1, w2, w3, w4, w5, k0, k1, k2, k3, k4, k5, k6⟩
  have h1 : cs = (cs.drop 0).take 34 ++ ((cs.drop 34).take 1 ++ ((cs.drop 35).take 1 ++ ((cs.drop 36).take 1 ++ ((cs.drop 37).take 1 ++ ((cs.drop 38).take 1 ++ (cs.drop 39).take 7))))) := by
    rw [List.take_of_length_le (l := cs.drop 39) (by simp [hcl]), cut_at cs 38 1, cut_at cs 37 1, cut_at cs 36 1, cut_at cs 35 1, cut_at cs 34 1, cut_at cs 0 34, List.drop_zero]
  rw [h1, hf, e1, e2, e3, e4, e5, hc]
  rfl
set_option maxRecDepth 100000 in
theorem open_en {v : Value} {d : DataW H} {ps : List MemPlace} (hr : Value.okWide Try.prog w .any 0 96 v) (h : DataW.Trod enc Try.prog w 0 (fun _ => true) true 96 v d ps) : ∃ e : En, v = .agg (arrN e) ∧ okN e := by
  obtain ⟨cs, rfl, hsz⟩ := okWide_struct Try.underlying96 hr
  obtain ⟨fuel, hf⟩ := h
  have hcs : (Value.agg cs).cells.toList = cs.toList := by rfl
  rw [hcs] at hf
  obtain ⟨e, he, hok⟩ := trod_en hf
  refine ⟨e, ?_, hok⟩
  congr 1
  apply Array.ext'
  rw [he, arrN_list]
/-- A call of chapter 30's statements. -/
structure Op3 where
  kind : Int
  e : En
deriving Inhabited
def encO3 (o : Op3) : List Value := .int .i64 o.kind :: encN o.e
theorem encO3_len (o : Op3) : (encO3 o).length = 47 := rfl
def okO3 (o : Op3) : Prop := (Lit.int .i64 o.kind).wf = true ∧ okN o.e
def SlO3 (w : World) (B : Nat) (v : Value) (l : List Op3) : Prop := Sl w B 47 v l.length (l.flatMap encO3)
set_option maxRecDepth 100000 in
theorem trod_o3 {n : Nat} {cs : List Value} {y : DataW H × List MemPlace} (h : DataW.trod enc Try.prog w 0 (fun _ => true) true n 102 cs = some y) : ∃ o : Op3, cs = encO3 o ∧ okO3 o := by
  obtain ⟨ys, n', _, _, hcl0, hyl, hfl⟩ := DataW.trod_struct Try.underlying102 h
  have hcI : Try.prog.cellsOf 3 = 1 := by kernel_rfl
  have hcN : Try.prog.cellsOf 96 = 46 := by kernel_rfl
  have hcE : Try.prog.cellsOf 102 = 47 := by kernel_rfl
  have hcl : cs.length = 47 := by rw [hcl0, hcE]
  have hys : ys.length = 2 := hyl
  have f0 : DataW.trod enc Try.prog w 0 (fun _ => true) true n' 3 ((cs.drop 0).take (Try.prog.cellsOf 3)) = ys[0]? := hfl 0 _ rfl
  have f1 : DataW.trod enc Try.prog w 0 (fun _ => true) true n' 96 ((cs.drop 1).take (Try.prog.cellsOf 96)) = ys[1]? := hfl 1 _ rfl
  rw [List.getElem?_eq_getElem (by omega)] at f0 f1
  rw [hcN] at f1
  obtain ⟨x0, e0, w0⟩ := trod_int1 Try.underlying3 hcI (by omega) f0
  obtain ⟨e, he, hok⟩ := trod_en f1
  refine ⟨⟨x0, e⟩, ?_, w0, hok⟩
  have h1 : cs = (cs.drop 0).take 1 ++ (cs.drop 1).take 46 := by
    rw [List.take_of_length_le (l := cs.drop 1) (by simp [hcl]), cut_at cs 0 1, List.drop_zero]
  rw [h1, e0, he]
  rfl
set_option maxRecDepth 100000 in
theorem ops3_of {v : Value} {d : DataW H} {ps : List MemPlace} (hr : Value.okWide Try.prog w .any 0 97 v)
    (h : DataW.Trod enc Try.prog w 0 (fun _ => true) true 97 v d ps) : ∃ A cap l, v = .slice A (List.length l) cap ∧ SlO3 w 0 v l ∧ l.length ≤ maxLen ∧ ∀ x ∈ l, okO3 x := by
  obtain ⟨A, len, cap, rfl, hl, hm, hc⟩ := open_els Try.underlying97 (C := 47) (by kernel_rfl) (by omega) hr h
  obtain ⟨ops, hlen, hops⟩ := list_of (p := fun i (x : Op3) => (∃ b o, A = some ⟨b, o, none⟩ ∧ ∀ j u, (encO3 x)[j]? = some u → w.cell? ⟨b, o + (i * 47 + j), none⟩ = some u) ∧ okO3 x) len (fun i hi => by
    obtain ⟨b, o, cs, n, y, hA, hcl, hcell, ht⟩ := hc i hi
    obtain ⟨e, rfl, hok⟩ := trod_o3 ht
    exact ⟨e, ⟨b, o, hA, fun j u hu => by
      have hj : j < 47 := (List.getElem?_eq_some_iff.1 hu).1
      rw [hcell j hj, hu]⟩, hok⟩)
  subst hlen
  refine ⟨A, cap, ops, rfl, ?_, hm, fun x hx => by
    obtain ⟨i, hi, rfl⟩ := List.mem_iff_getElem.1 hx
    exact (hops i _ (List.getElem?_eq_getElem hi)).2⟩
  unfold SlO3
  rcases Nat.eq_zero_or_pos ops.length with h0 | h0
  · have : ops = [] := List.eq_nil_of_length_eq_zero h0
    subst this
    exact Sl.empty w 0 47 A cap
  · obtain ⟨⟨b, o, rfl, _⟩, _⟩ := hops 0 _ (List.getElem?_eq_getElem h0)
    refine Sl.of_cells encO3_len (by omega) (Nat.zero_le _) hl (fun i x hx j u hu => ?_)
    obtain ⟨⟨b', o', hA, hcell⟩, _⟩ := hops i x hx
    cases hA
    exact hcell j u hu
end
end Go.Proofs.Ytgbdbeaflilmlaa
