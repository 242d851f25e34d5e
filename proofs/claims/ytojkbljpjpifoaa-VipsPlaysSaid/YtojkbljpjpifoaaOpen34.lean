/-
  A slice of calls opened; an address. Condition: it reads as data.
-/
import Derived.Test.YtojkbljpjpifoaaFrameG
import Derived.Test.YtojkbljpjpifoaaFrame3
import Derived.Test.YtojkbljpjpifoaaVAddr
set_option linter.unusedVariables false
set_option linter.unusedSimpArgs false
namespace Go.Proofs.Ytojkbljpjpifoaa
open Go.ChangeShapes Go.WideShapes Go.ChangeAt Go.RowKit Go.Deep

structure OpV where
  kind : Int
  sv : Sv
def encOp (x : OpV) : List Value := .int .i64 x.kind :: encS x.sv
theorem encOp_len (x : OpV) : (encOp x).length = 18 := rfl
/-- The slice v reads as the calls ops. -/
def SlOp (w : World) (B : Nat) (v : Value) (ops : List OpV) : Prop := Sl w B 18 v ops.length (ops.flatMap encOp)

theorem ad_of {cs : List Value} (hl : cs.length = 16) (key : ∀ i, i < 16 → ∃ x, cs[i]? = some (.int .u8 x) ∧ (Lit.int .u8 x).wf = true) : ∃ A : Ad, cs = encA A ∧ okA A := by
  match cs, hl, key with
  | [c0, c1, c2, c3, c4, c5, c6, c7, c8, c9, c10, c11, c12, c13, c14, c15], _, key =>
    obtain ⟨x0, e0, w0⟩ := key 0 (by omega)
    obtain ⟨x1, e1, w1⟩ := key 1 (by omega)
    obtain ⟨x2, e2, w2⟩ := key 2 (by omega)
    obtain ⟨x3, e3, w3⟩ := key 3 (by omega)
    obtain ⟨x4, e4, w4⟩ := key 4 (by omega)
    obtain ⟨x5, e5, w5⟩ := key 5 (by omega)
    obtain ⟨x6, e6, w6⟩ := key 6 (by omega)
    obtain ⟨x7, e7, w7⟩ := key 7 (by omega)
    obtain ⟨x8, e8, w8⟩ := key 8 (by omega)
    obtain ⟨x9, e9, w9⟩ := key 9 (by omega)
    obtain ⟨x10, e10, w10⟩ := key 10 (by omega)
    obtain ⟨x11, e11, w11⟩ := key 11 (by omega)
    obtain ⟨x12, e12, w12⟩ := key 12 (by omega)
    obtain ⟨x13, e13, w13⟩ := key 13 (by omega)
    obtain ⟨x14, e14, w14⟩ := key 14 (by omega)
    obtain ⟨x15, e15, w15⟩ := key 15 (by omega)
    obtain rfl : c0 = .int .u8 x0 := Option.some.inj e0
    obtain rfl : c1 = .int .u8 x1 := Option.some.inj e1
    obtain rfl : c2 = .int .u8 x2 := Option.some.inj e2
    obtain rfl : c3 = .int .u8 x3 := Option.some.inj e3
    obtain rfl : c4 = .int .u8 x4 := Option.some.inj e4
    obtain rfl : c5 = .int .u8 x5 := Option.some.inj e5
    obtain rfl : c6 = .int .u8 x6 := Option.some.inj e6
    obtain rfl : c7 = .int .u8 x7 := Option.some.inj e7
    obtain rfl : c8 = .int .u8 x8 := Option.some.inj e8
    obtain rfl : c9 = .int .u8 x9 := Option.some.inj e9
    obtain rfl : c10 = .int .u8 x10 := Option.some.inj e10
    obtain rfl : c11 = .int .u8 x11 := Option.some.inj e11
    obtain rfl : c12 = .int .u8 x12 := Option.some.inj e12
    obtain rfl : c13 = .int .u8 x13 := Option.some.inj e13
    obtain rfl : c14 = .int .u8 x14 := Option.some.inj e14
    obtain rfl : c15 = .int .u8 x15 := Option.some.inj e15
    refine ⟨⟨x0, x1, x2, x3, x4, x5, x6, x7, x8, x9, x10, x11, x12, x13, x14, x15⟩, rfl, fun x hx => ?_⟩
    simp [Ad.l] at hx
    rcases hx with rfl | rfl | rfl | rfl | rfl | rfl | rfl | rfl | rfl | rfl | rfl | rfl | rfl | rfl | rfl | rfl <;> assumption
set_option maxRecDepth 100000 in
theorem open_ad {H : Type} {enc : TypeId × Value → H} {w : World} {v : Value} {d : DataW H} {ps : List MemPlace} (hr : Value.okWide Try.prog w .any 0 55 v)
    (h : DataW.Trod enc Try.prog w 0 (fun _ => true) true 55 v d ps) : ∃ A : Ad, v = A.v ∧ okA A := by
  obtain ⟨cs, rfl, hl, hk⟩ := open_array1 Try.underlying55 Try.underlying5 (by kernel_rfl) (by kernel_rfl) hr h
  obtain ⟨A, rfl, hA⟩ := ad_of hl (fun i hi => by
    obtain ⟨x, hx, hw⟩ := hk i hi
    refine ⟨x, ?_, hw⟩
    rw [← hx, List.getD_eq_getElem?_getD, List.getElem?_eq_getElem (by omega)]
    rfl)
  exact ⟨A, rfl, hA⟩

set_option maxRecDepth 100000 in
theorem ops_of {H : Type} {enc : TypeId × Value → H} {w : World} {v : Value} {d : DataW H} {ps : List MemPlace} (hr : Value.okWide Try.prog w .any 0 50 v)
    (h : DataW.Trod enc Try.prog w 0 (fun _ => true) true 50 v d ps) : ∃ A cap ops, v = .slice A (List.length ops) cap ∧ SlOp w 0 v ops ∧ ops.length ≤ maxLen ∧ ∀ x ∈ ops, (Lit.int .i64 x.kind).wf = true ∧ okS x.sv := by
  obtain ⟨A, len, cap, rfl, hl, hm, hc⟩ := open_els Try.underlying50 (C := 18) (by kernel_rfl) (by omega) hr h
  obtain ⟨ops, hlen, hops⟩ := list_of (p := fun i (x : OpV) => (∃ b o, A = some ⟨b, o, none⟩ ∧ ∀ j u, (encOp x)[j]? = some u → w.cell? ⟨b, o + (i * 18 + j), none⟩ = some u) ∧ (Lit.int .i64 x.kind).wf = true ∧ okS x.sv) len (fun i hi => by
    obtain ⟨b, o, cs, n, y, hA, hcl, hcell, ht⟩ := hc i hi
    obtain ⟨ys, n', _, _, _, hyl, hfl⟩ := DataW.trod_struct Try.underlying57 ht
    have hcA : Try.prog.cellsOf 55 = 16 := by kernel_rfl
    have hcI : Try.prog.cellsOf 3 = 1 := by kernel_rfl
    have hys : ys.length = 3 := hyl
    have f0 : DataW.trod enc Try.prog w 0 (fun _ => true) true n' 3 ((cs.drop 0).take (Try.prog.cellsOf 3)) = ys[0]? := hfl 0 _ rfl
    have f1 : DataW.trod enc Try.prog w 0 (fun _ => true) true n' 55 ((cs.drop 1).take (Try.prog.cellsOf 55)) = ys[1]? := hfl 1 _ rfl
    have f2 : DataW.trod enc Try.prog w 0 (fun _ => true) true n' 3 ((cs.drop 17).take (Try.prog.cellsOf 3)) = ys[2]? := hfl 2 _ rfl
    rw [hcI] at f0 f2
    rw [hcA] at f1
    rw [List.getElem?_eq_getElem (by omega)] at f0 f1 f2
    have g0 : (cs.drop 0).take 1 = [cs[0]'(by omega)] := by rw [List.drop_eq_getElem_cons (by omega)]; rfl
    have g2 : (cs.drop 17).take 1 = [cs[17]'(by omega)] := by rw [List.drop_eq_getElem_cons (by omega)]; rfl
    rw [g0] at f0
    rw [g2] at f2
    obtain ⟨x0, e0, _, w0⟩ := DataW.trod_int Try.underlying3 f0
    obtain ⟨x2, e2, _, w2⟩ := DataW.trod_int Try.underlying3 f2
    obtain ⟨_, hk⟩ := trod_ints Try.underlying55 Try.underlying5 (by kernel_rfl) hcA f1
    obtain ⟨B, hB, okB⟩ := ad_of (cs := (cs.drop 1).take 16) (by simp [hcl]) hk
    simp only [List.cons.injEq, and_true] at e0 e2
    have hcs : cs = encOp ⟨x0, ⟨B, x2⟩⟩ := by
      have h1 : cs = (cs.drop 0).take 1 ++ ((cs.drop 1).take 16 ++ (cs.drop 17).take 1) := by
        match cs, hcl with
        | [_, _, _, _, _, _, _, _, _, _, _, _, _, _, _, _, _, _], _ => rfl
      rw [h1, g0, g2, e0, e2, hB]
      rfl
    subst hcs
    exact ⟨⟨x0, ⟨B, x2⟩⟩, ⟨b, o, hA, fun j u hu => by
      have hj : j < 18 := (List.getElem?_eq_some_iff.1 hu).1
      rw [hcell j hj, hu]⟩, w0, okB, w2⟩)
  subst hlen
  refine ⟨A, cap, ops, rfl, ?_, hm, fun x hx => by
    obtain ⟨i, hi, rfl⟩ := List.mem_iff_getElem.1 hx
    exact (hops i _ (List.getElem?_eq_getElem hi)).2⟩
  unfold SlOp
  rcases Nat.eq_zero_or_pos ops.length with h0 | h0
  · have : ops = [] := List.eq_nil_of_length_eq_zero h0
    subst this
    exact Sl.empty w 0 18 A cap
  · obtain ⟨⟨b, o, rfl, _⟩, _⟩ := hops 0 _ (List.getElem?_eq_getElem h0)
    refine Sl.of_cells encOp_len (by omega) (Nat.zero_le _) hl (fun i x hx j u hu => ?_)
    obtain ⟨⟨b', o', hA, hcell⟩, _⟩ := hops i x hx
    cases hA
    exact hcell j u hu
end Go.Proofs.Ytojkbljpjpifoaa
