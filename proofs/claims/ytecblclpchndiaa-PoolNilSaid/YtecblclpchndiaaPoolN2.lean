/-
  WALK: PoolNil. No condition.
-/
import Derived.Test.YtecblclpchndiaaFrame3
import Derived.Test.YtecblclpchndiaaPoolN1
set_option linter.unusedVariables false
set_option linter.unusedSimpArgs false
namespace Go.Proofs.Ytecblclpchndiaa
open Go.RowKit Go.Maps

theorem infO35 {o : PO} : (Try.prog.info? 42).map (·.size) = some (arrO o).size := by
  show _ = some 4
  kernel_rfl
@[reducible] def arrP0 : Array Value := #[.int .u64 0, .int .u64 0, .slice none 0 0, .pointer none]
set_option maxRecDepth 100000 in
set_option maxHeartbeats 4000000 in
theorem nil35 (o : PO) (u : Int) (w : World) : Calls Try.prog 7 #[.agg (arrO o), .int .u64 u] w fun r w' => r = .returned (.bool true) ∧ Chg [] w w' := by
  have hcA := ((Chg.refl [] w).alloc (.cells (arrO o) 42)).alloc (.cells arrP0 47)
  have hBe : Blk ((w.alloc (.cells (arrO o) 42)).alloc (.cells arrP0 47)) w.heap.size 42 (arrO o) := (Blk.new _ _ _).alloc _
  have hBd : Blk ((w.alloc (.cells (arrO o) 42)).alloc (.cells arrP0 47)) (w.heap.size + 1) 47 arrP0 := Blk.new' (by simp)
  have HI := Lib.hid (And.intro hcA (And.intro hBe (isno35_blk hBd)))
  clear hcA hBe hBd
  go_enter Try.func7, Try.ntmps7
  go_upto_region 3 with fail
  generalize (w.alloc (.cells (arrO o) 42)).alloc (.cells arrP0 47) = w1 at *
  generalize hge : w.heap.size = ge at *
  have RE := Lib.hid (fun W (hc : Chg [] w1 W) => (HI.out.2.1.chg hc (by simp)).rangeQ)
  have RC := Lib.hid (fun W (hc : Chg [] w1 W) => (HI.out.2.1.chg hc (by simp)).cell 2)
  have HNO := Lib.hid (fun W (hc : Chg [] w1 W) => HI.out.2.2.chg0 hc)
  have D1 := Lib.hid (fun w' (hc : Chg [] w1 w') => (ndo35 (w := w') (isno35_nil w') 0 o).mono fun (r : Ending) w'' ⟨h1, h2⟩ => (⟨h1, hc.trans h2⟩ : r = Ending.returned (.int .i64 1) ∧ Chg [] w1 w''))
  have D2 := Lib.hid (fun w' (hc : Chg [] w1 w') => (ndo35 (w := w') (HNO.out w' hc) 0 o).mono fun (r : Ending) w'' ⟨h1, h2⟩ => (⟨h1, hc.trans h2⟩ : r = Ending.returned (.int .i64 1) ∧ Chg [] w1 w''))
  have H1 := Lib.hid (fun w' (hc : Chg [] w1 w') => (nhas35 (w := w') (isno35_nil w') o.node).mono fun (r : Ending) w'' ⟨h1, h2⟩ => (⟨h1, hc.trans h2⟩ : r = Ending.returned (.bool false) ∧ Chg [] w1 w''))
  have H2 := Lib.hid (fun w' (hc : Chg [] w1 w') => (nhas35 (w := w') (HNO.out w' hc) o.node).mono fun (r : Ending) w'' ⟨h1, h2⟩ => (⟨h1, hc.trans h2⟩ : r = Ending.returned (.bool false) ∧ Chg [] w1 w''))
  have A1 := Lib.hid (fun w' (hc : Chg [] w1 w') => (nall35 (w := w') (isno35_nil w')).mono fun (r : Ending) w'' ⟨h1, h2⟩ => (⟨h1, hc.trans h2⟩ : r = Ending.returned (.slice none 0 0) ∧ Chg [] w1 w''))
  have A2 := Lib.hid (fun w' (hc : Chg [] w1 w') => (nall35 (w := w') (HNO.out w' hc)).mono fun (r : Ending) w'' ⟨h1, h2⟩ => (⟨h1, hc.trans h2⟩ : r = Ending.returned (.slice none 0 0) ∧ Chg [] w1 w''))
  have M1 := Lib.hid (fun w' (hc : Chg [] w1 w') => (nmem35 (w := w') (isno35_nil w')).mono fun (r : Ending) w'' ⟨h1, h2⟩ => (⟨h1, hc.trans h2⟩ : r = Ending.returned (.slice none 0 0) ∧ Chg [] w1 w''))
  have M2 := Lib.hid (fun w' (hc : Chg [] w1 w') => (nmem35 (w := w') (HNO.out w' hc)).mono fun (r : Ending) w'' ⟨h1, h2⟩ => (⟨h1, hc.trans h2⟩ : r = Ending.returned (.slice none 0 0) ∧ Chg [] w1 w''))
  have V1 := Lib.hid (fun w' (hc : Chg [] w1 w') => (nver35 (w := w') (isno35_nil w')).mono fun (r : Ending) w'' ⟨h1, h2⟩ => (⟨h1, hc.trans h2⟩ : r = Ending.returned (.slice none 0 0) ∧ Chg [] w1 w''))
  have V2 := Lib.hid (fun w' (hc : Chg [] w1 w') => (nver35 (w := w') (HNO.out w' hc)).mono fun (r : Ending) w'' ⟨h1, h2⟩ => (⟨h1, hc.trans h2⟩ : r = Ending.returned (.slice none 0 0) ∧ Chg [] w1 w''))
  have P1 := Lib.hid (fun w' (hc : Chg [] w1 w') => (nprs35 (w := w') (isno35_nil w') u).mono fun (r : Ending) w'' ⟨h1, h2⟩ => (⟨h1, hc.trans h2⟩ : r = Ending.returned (.slice none 0 0) ∧ Chg [] w1 w''))
  have P2 := Lib.hid (fun w' (hc : Chg [] w1 w') => (nprs35 (w := w') (HNO.out w' hc) u).mono fun (r : Ending) w'' ⟨h1, h2⟩ => (⟨h1, hc.trans h2⟩ : r = Ending.returned (.slice none 0 0) ∧ Chg [] w1 w''))
  have LV := Lib.hid (fun w' (hc : Chg [] w1 w') => (lives35_any w').mono fun (r : Ending) w'' ⟨h1, h2⟩ => (⟨h1, hc.trans h2⟩ : r = Ending.returned (.bool true) ∧ Chg [] w1 w''))
  have HC0 := Lib.hid HI.out.1
  clear hge HI HNO
  have HCn : Hid (Chg [] w1 w1) := Lib.hid (Chg.refl _ _)
  go_wp2_with (first | (refine wpList_row 42 (.tmp 2) rfl rfl ge 0 rfl (arrO o) _ (RE.out _ HCn.out) Try.underlying42 rfl infO35 ?_) | fail)
  refine (D1.out _ HCn.out).mono ?_
  rintro r w10 ⟨rfl, hcn⟩
  replace HCn := Lib.hid hcn
  clear hcn D1
  go_wp2_with (first | (refine wpList_row 42 (.tmp 2) rfl rfl ge 0 rfl (arrO o) _ (RE.out _ HCn.out) Try.underlying42 rfl infO35 ?_) | fail)
  refine (D2.out _ HCn.out).mono ?_
  rintro r w11 ⟨rfl, hcn⟩
  replace HCn := Lib.hid hcn
  clear hcn D2
  have c2 := RC.out _ HCn.out
  simp only [List.getElem?_toArray, List.getElem?_cons_succ, List.getElem?_cons_zero] at c2
  go_wp2_with fail
  refine (H1.out _ HCn.out).mono ?_
  rintro r w12 ⟨rfl, hcn⟩
  replace HCn := Lib.hid hcn
  clear hcn H1 c2
  have c2 := RC.out _ HCn.out
  simp only [List.getElem?_toArray, List.getElem?_cons_succ, List.getElem?_cons_zero] at c2
  go_wp2_with fail
  refine (H2.out _ HCn.out).mono ?_
  rintro r w13 ⟨rfl, hcn⟩
  replace HCn := Lib.hid hcn
  clear hcn H2 c2
  go_wp2_with fail
  refine (A1.out _ HCn.out).mono ?_
  rintro r w14 ⟨rfl, hcn⟩
  replace HCn := Lib.hid hcn
  clear hcn A1
  go_wp2_with fail
  refine (A2.out _ HCn.out).mono ?_
  rintro r w15 ⟨rfl, hcn⟩
  replace HCn := Lib.hid hcn
  clear hcn A2
  go_wp2_with fail
  refine (M1.out _ HCn.out).mono ?_
  rintro r w16 ⟨rfl, hcn⟩
  replace HCn := Lib.hid hcn
  clear hcn M1
  go_wp2_with fail
  refine (M2.out _ HCn.out).mono ?_
  rintro r w17 ⟨rfl, hcn⟩
  replace HCn := Lib.hid hcn
  clear hcn M2
  go_wp2_with fail
  refine (V1.out _ HCn.out).mono ?_
  rintro r w18 ⟨rfl, hcn⟩
  replace HCn := Lib.hid hcn
  clear hcn V1
  go_wp2_with fail
  refine (V2.out _ HCn.out).mono ?_
  rintro r w19 ⟨rfl, hcn⟩
  replace HCn := Lib.hid hcn
  clear hcn V2
  go_wp2_with fail
  refine (P1.out _ HCn.out).mono ?_
  rintro r w20 ⟨rfl, hcn⟩
  replace HCn := Lib.hid hcn
  clear hcn P1
  go_wp2_with fail
  refine (P2.out _ HCn.out).mono ?_
  rintro r w21 ⟨rfl, hcn⟩
  replace HCn := Lib.hid hcn
  clear hcn P2
  go_wp2_with fail
  refine (LV.out _ HCn.out).mono ?_
  rintro r w22 ⟨rfl, hcn⟩
  replace HCn := Lib.hid hcn
  clear hcn LV
  have HC8 := Lib.hid (HC0.out.trans HCn.out)
  clear HCn HC0 RE RC
  go_wp2_with fail
  go_ret
  exact ⟨rfl, HC8.out⟩
open Go.ChangeShapes Go.WideShapes Go.ChangeAt Go.Deep
set_option maxRecDepth 100000 in
theorem op35_of {H : Type} {enc : TypeId × Value → H} {w : World} {v : Value} {d : DataW H} {ps : List MemPlace} (hr : Value.okWide Try.prog w .any 0 42 v)
    (h : DataW.Trod enc Try.prog w 0 (fun _ => true) true 42 v d ps) : ∃ o : PO, v = .agg (arrO o) := by
  obtain ⟨cs, rfl, hlen, hc⟩ := open_struct1 Try.underlying42 (by kernel_rfl) (by kernel_rfl) hr h
  match cs, hlen with
  | [u0, u1, u2, u3], _ =>
    obtain ⟨y0, n0, t0⟩ := hc 0 _ rfl
    obtain ⟨y1, n1, t1⟩ := hc 1 _ rfl
    obtain ⟨y2, n2, t2⟩ := hc 2 _ rfl
    obtain ⟨y3, n3, t3⟩ := hc 3 _ rfl
    obtain ⟨x0, e0, _⟩ := DataW.trod_int Try.underlying3 t0
    obtain ⟨x1, e1, _⟩ := DataW.trod_int Try.underlying3 t1
    obtain ⟨x2, e2, _⟩ := DataW.trod_int Try.underlying3 t2
    obtain ⟨x3, e3, _⟩ := DataW.trod_int Try.underlying3 t3
    simp at e0 e1 e2 e3
    subst e0 e1 e2 e3
    exact ⟨⟨x0, x1, x2, x3⟩, rfl⟩
end Go.Proofs.Ytecblclpchndiaa
