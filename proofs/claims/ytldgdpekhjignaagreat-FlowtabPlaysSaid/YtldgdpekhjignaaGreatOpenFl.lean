/-
  Cells that read as a flow are a flow's. No condition.
-/
import Derived.Test.YtldgdpekhjignaaGreatFrameG
import Derived.Test.YtldgdpekhjignaaGreatFrame3
import Derived.Test.YtldgdpekhjignaaGreatFlowLess
set_option linter.unusedVariables false
set_option linter.unusedSimpArgs false
namespace Go.Proofs.YtldgdpekhjignaaGreat
open Go.ChangeShapes Go.WideShapes Go.ChangeAt Go.RowKit Go.Deep

theorem ad_of {cs : List Value} (hl : cs.length = 16) (key : ∀ i, i < 16 → ∃ x, cs[i]? = some (.int .u8 x) ∧ (Lit.int .u8 x).wf = true) : ∃ A : Ad, cs = encA A ∧ okA A := by
  match cs, hl, key with
  | [c0, c1, c2, c3, c4, c5, c6, c7, c8, c9, c10, c11, c12, c13, c14, c15], _, key =>
    obtain ⟨x0, e0, w0⟩ := key 0 (by omega)
    obtain ⟨x1, e1, w1⟩ := key 1 (by omega)
    obtain ⟨x2, e2, w2⟩ := key 2 (by omega)
    obtain ⟨x3, e3, w3⟩ := key 3 (by omega)
    obtain ⟨x4, e4, w4⟩ := key 4 (by omega)
    obtain ⟨x5, e5, w5⟩ := key 5 (by omega)
    obtain ⟨x6, e6, w6⟩ := key 6 (by omega)
    obtain ⟨x7, e7, w7⟩ := key 7 (by omega)
    obtain ⟨x8, e8, w8⟩ := key 8 (by omega)
    obtain ⟨x9, e9, w9⟩ := key 9 (by omega)
    obtain ⟨x10, e10, w10⟩ := key 10 (by omega)
    obtain ⟨x11, e11, w11⟩ := key 11 (by omega)
    obtain ⟨x12, e12, w12⟩ := key 12 (by omega)
    obtain ⟨x13, e13, w13⟩ := key 13 (by omega)
    obtain ⟨x14, e14, w14⟩ := key 14 (by omega)
    obtain ⟨x15, e15, w15⟩ := key 15 (by omega)
    obtain rfl : c0 = .int .u8 x0 := Option.some.inj e0
    obtain rfl : c1 = .int .u8 x1 := Option.some.inj e1
    obtain rfl : c2 = .int .u8 x2 := Option.some.inj e2
    obtain rfl : c3 = .int .u8 x3 := Option.some.inj e3
    obtain rfl : c4 = .int .u8 x4 := Option.some.inj e4
    obtain rfl : c5 = .int .u8 x5 := Option.some.inj e5
    obtain rfl : c6 = .int .u8 x6 := Option.some.inj e6
    obtain rfl : c7 = .int .u8 x7 := Option.some.inj e7
    obtain rfl : c8 = .int .u8 x8 := Option.some.inj e8
    obtain rfl : c9 = .int .u8 x9 := Option.some.inj e9
    obtain rfl : c10 = .int .u8 x10 := Option.some.inj e10
    obtain rfl : c11 = .int .u8 x11 := Option.some.inj e11
    obtain rfl : c12 = .int .u8 x12 := Option.some.inj e12
    obtain rfl : c13 = .int .u8 x13 := Option.some.inj e13
    obtain rfl : c14 = .int .u8 x14 := Option.some.inj e14
    obtain rfl : c15 = .int .u8 x15 := Option.some.inj e15
    refine ⟨⟨x0, x1, x2, x3, x4, x5, x6, x7, x8, x9, x10, x11, x12, x13, x14, x15⟩, rfl, fun x hx => ?_⟩
    simp [Ad.l] at hx
    rcases hx with rfl | rfl | rfl | rfl | rfl | rfl | rfl | rfl | rfl | rfl | rfl | rfl | rfl | rfl | rfl | rfl <;> assumption
section
variable {H : Type} {enc : TypeId × Value → H} {w : World}
/-- Cells cut in parts. -/
theorem cut_at {α : Type} (cs : List α) (o n : Nat) : (cs.drop o).take n ++ cs.drop (o + n) = cs.drop o := by
  have := List.take_append_drop n (cs.drop o)
  rwa [List.drop_drop] at this
theorem trod_int1 {n : Nat} {t : TypeId} {k : IntKind} {cs : List Value} {o : Nat} {y : DataW H × List MemPlace} (ht : Tryz.prog.underlying t = some (.int k)) (hC : Tryz.prog.cellsOf t = 1) (ho : o < cs.length)
    (h : DataW.trod enc Tryz.prog w 0 (fun _ => true) true n t ((cs.drop o).take (Tryz.prog.cellsOf t)) = some y) : ∃ x, (cs.drop o).take 1 = [.int k x] ∧ (Lit.int k x).wf = true := by
  rw [hC] at h
  have g : (cs.drop o).take 1 = [cs[o]'ho] := by rw [List.drop_eq_getElem_cons ho]; rfl
  rw [g] at h ⊢
  obtain ⟨x, e, _, wf⟩ := DataW.trod_int ht h
  simp only [List.cons.injEq, and_true] at e
  exact ⟨x, by rw [e], wf⟩
set_option maxRecDepth 100000 in
theorem trod_fl {n : Nat} {cs : List Value} {y : DataW H × List MemPlace} (h : DataW.trod enc Tryz.prog w 0 (fun _ => true) true n 38 cs = some y) : ∃ f : Fl, cs = encF f ∧ okF f := by
  obtain ⟨ys, n', _, _, hcl0, hyl, hfl⟩ := DataW.trod_struct Tryz.underlying38 h
  have hcA : Tryz.prog.cellsOf 36 = 16 := by kernel_rfl
  have hcI : Tryz.prog.cellsOf 3 = 1 := by kernel_rfl
  have hcF : Tryz.prog.cellsOf 38 = 34 := by kernel_rfl
  have hcl : cs.length = 34 := by rw [hcl0, hcF]
  have hys : ys.length = 4 := hyl
  have f0 : DataW.trod enc Tryz.prog w 0 (fun _ => true) true n' 36 ((cs.drop 0).take (Tryz.prog.cellsOf 36)) = ys[0]? := hfl 0 _ rfl
  have f1 : DataW.trod enc Tryz.prog w 0 (fun _ => true) true n' 3 ((cs.drop 16).take (Tryz.prog.cellsOf 3)) = ys[1]? := hfl 1 _ rfl
  have f2 : DataW.trod enc Tryz.prog w 0 (fun _ => true) true n' 36 ((cs.drop 17).take (Tryz.prog.cellsOf 36)) = ys[2]? := hfl 2 _ rfl
  have f3 : DataW.trod enc Tryz.prog w 0 (fun _ => true) true n' 3 ((cs.drop 33).take (Tryz.prog.cellsOf 3)) = ys[3]? := hfl 3 _ rfl
  rw [List.getElem?_eq_getElem (by omega)] at f0 f1 f2 f3
  rw [hcA] at f0 f2
  obtain ⟨x1, e1, w1⟩ := trod_int1 Tryz.underlying3 hcI (by omega) f1
  obtain ⟨x3, e3, w3⟩ := trod_int1 Tryz.underlying3 hcI (by omega) f3
  obtain ⟨_, hk0⟩ := trod_ints Tryz.underlying36 Tryz.underlying5 (by kernel_rfl) hcA f0
  obtain ⟨_, hk2⟩ := trod_ints Tryz.underlying36 Tryz.underlying5 (by kernel_rfl) hcA f2
  obtain ⟨A, hA, okA'⟩ := ad_of (cs := (cs.drop 0).take 16) (by simp [hcl]) hk0
  obtain ⟨B, hB, okB'⟩ := ad_of (cs := (cs.drop 17).take 16) (by simp [hcl]) hk2
  refine ⟨⟨A, x1, B, x3⟩, ?_, okA', w1, okB', w3⟩
  have h1 : cs = (cs.drop 0).take 16 ++ ((cs.drop 16).take 1 ++ ((cs.drop 17).take 16 ++ (cs.drop 33).take 1)) := by
    rw [List.take_of_length_le (l := cs.drop 33) (by simp [hcl]), cut_at cs 17 16, cut_at cs 16 1, cut_at cs 0 16, List.drop_zero]
  rw [h1, hA, e1, hB, e3]
  rfl
set_option maxRecDepth 100000 in
theorem open_fl {v : Value} {d : DataW H} {ps : List MemPlace} (hr : Value.okWide Tryz.prog w .any 0 38 v) (h : DataW.Trod enc Tryz.prog w 0 (fun _ => true) true 38 v d ps) : ∃ f : Fl, v = f.v ∧ okF f := by
  obtain ⟨cs, rfl, hsz⟩ := okWide_struct Tryz.underlying38 hr
  obtain ⟨fuel, hf⟩ := h
  have hcs : (Value.agg cs).cells.toList = cs.toList := by rfl
  rw [hcs] at hf
  obtain ⟨f, e, hok⟩ := trod_fl hf
  refine ⟨f, ?_, hok⟩
  rw [Fl.v_eq, ← e]
end
end Go.Proofs.YtldgdpekhjignaaGreat
