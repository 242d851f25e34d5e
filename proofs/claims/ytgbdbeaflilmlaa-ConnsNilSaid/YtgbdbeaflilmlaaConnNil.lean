/-
  WALK: ConnsNil. No condition.
-/
import Derived.Test.YtgbdbeaflilmlaaConnL
set_option linter.unusedVariables false
set_option linter.unusedSimpArgs false
namespace Go.Proofs.Ytgbdbeaflilmlaa
open Go.RowKit Go.Maps

@[reducible] def arrTab0 : Array Value := #[.int .i64 0, .int .i64 0, .int .i64 0, .map none, .map none, .map none, .pointer none]
set_option maxRecDepth 100000 in
set_option maxHeartbeats 4000000 in
theorem nil30 (e : En) (w : World) : Calls Try.prog 10 #[.agg (arrN e)] w fun r w' => r = .returned (.bool true) ∧ Chg [] w w' := by
  have hc1 := (Chg.refl [] w).alloc (.cells (arrN e) 96)
  have hc2 := hc1.alloc (.cells arrTab0 129)
  have hBe : Blk ((w.alloc (.cells (arrN e) 96)).alloc (.cells arrTab0 129)) w.heap.size 96 (arrN e) := (Blk.new _ _ _).alloc _
  have hBd : Blk ((w.alloc (.cells (arrN e) 96)).alloc (.cells arrTab0 129)) (w.heap.size + 1) 129 arrTab0 := Blk.new' (by simp)
  have HI := Lib.hid (And.intro hc2 (And.intro hBe (isno_blk hBd)))
  clear hc1 hc2 hBe hBd
  go_enter Try.func10, Try.ntmps10
  go_upto_region 3 with fail
  generalize (w.alloc (.cells (arrN e) 96)).alloc (.cells arrTab0 129) = w1 at *
  generalize hge : w.heap.size = ge at *
  have RN := Lib.hid (fun W (hc : Chg [] w1 W) => (HI.out.2.1.chg hc (by simp)).rangeQ)
  have HNO := Lib.hid (fun W (hc : Chg [] w1 W) => HI.out.2.2.chg0 hc)
  have rf := rgN_fl (RN.out w1 (Chg.refl _ _))
  go_wp2_with (first
    | (refine wpList_row 73 (.tmp 13) rfl rfl ge 0 rfl (arrF e.fl) _ rf Try.underlying73 rfl infF ?_)
    | fail)
  refine (nfind (isno_nil w1) e.fl).mono ?_
  rintro r w2 ⟨rfl, hc2⟩
  have hBl : Blk (w2.alloc (.cells arrN0 96)) w2.heap.size 96 arrN0 := Blk.new _ _ _
  have hca := hc2.alloc (.cells arrN0 96)
  have hz := hc2.size
  clear rf
  go_upto_region 4 with (first
    | (refine wpList_store_blk rfl 96 _ _ rfl rfl hBl rfl rfl rfl (infN (e := eN0)) rfl ?_; intro v2 hB2 hcs)
    | fail)
  have hcv : Chg [] w1 v2 := hca.trans' hcs (by intro y hy; simp at hy; subst hy; exact .inr hz)
  have HCV := Lib.hid hcv
  have rf := rgN_fl (RN.out v2 hcv)
  clear hBl hca hB2 hcs hcv hc2
  go_wp2_with (first
    | (refine wpList_row 73 (.tmp 20) rfl rfl ge 0 rfl (arrF e.fl) _ rf Try.underlying73 rfl infF ?_)
    | fail)
  refine (nfind (HNO.out v2 HCV.out) e.fl).mono ?_
  rintro r w4 ⟨rfl, hc4⟩
  have hBl : Blk (w4.alloc (.cells arrN0 96)) w4.heap.size 96 arrN0 := Blk.new _ _ _
  have hca := (HCV.out.trans hc4).alloc (.cells arrN0 96)
  have hz4 := (HCV.out.trans hc4).size
  clear rf
  go_upto_region 5 with (first
    | (refine wpList_store_blk rfl 96 _ _ rfl rfl hBl rfl rfl rfl (infN (e := eN0)) rfl ?_; intro w3 hB3 hcs)
    | fail)
  have HC3 : Hid (Chg [] w1 w3) := Lib.hid (hca.trans' hcs (by intro y hy; simp at hy; subst hy; exact .inr hz4))
  have RE3 := Lib.hid (fun w' (hc : Chg [] w3 w') => RN.out w' (HC3.out.trans hc))
  have RF3 := Lib.hid (fun w' (hc : Chg [] w3 w') => rgN_fl (RN.out w' (HC3.out.trans hc)))
  clear hBl hca hB3 hcs hc4 RN
  have P1 := Lib.hid (fun w' (hc : Chg [] w3 w') => (nput (w := w') (isno_nil w') e).mono fun (r : Ending) w'' ⟨h1, h2⟩ => (⟨h1, hc.trans h2⟩ : r = Ending.returned (.bool false) ∧ Chg [] w3 w''))
  have P2 := Lib.hid (fun w' (hc : Chg [] w3 w') => (nput (w := w') (HNO.out w' (HC3.out.trans hc)) e).mono fun (r : Ending) w'' ⟨h1, h2⟩ => (⟨h1, hc.trans h2⟩ : r = Ending.returned (.bool false) ∧ Chg [] w3 w''))
  have D1 := Lib.hid (fun w' (hc : Chg [] w3 w') => (ndrop (w := w') (isno_nil w') e.fl).mono fun (r : Ending) w'' ⟨h1, h2⟩ => (⟨h1, hc.trans h2⟩ : r = Ending.returned (.bool false) ∧ Chg [] w3 w''))
  have D2 := Lib.hid (fun w' (hc : Chg [] w3 w') => (ndrop (w := w') (HNO.out w' (HC3.out.trans hc)) e.fl).mono fun (r : Ending) w'' ⟨h1, h2⟩ => (⟨h1, hc.trans h2⟩ : r = Ending.returned (.bool false) ∧ Chg [] w3 w''))
  have T1 := Lib.hid (fun w' (hc : Chg [] w3 w') => (ntick (w := w') (isno_nil w')).mono fun (r : Ending) w'' ⟨h1, h2⟩ => (⟨h1, hc.trans h2⟩ : r = Ending.returned (.slice none 0 0) ∧ Chg [] w3 w''))
  have T2 := Lib.hid (fun w' (hc : Chg [] w3 w') => (ntick (w := w') (HNO.out w' (HC3.out.trans hc))).mono fun (r : Ending) w'' ⟨h1, h2⟩ => (⟨h1, hc.trans h2⟩ : r = Ending.returned (.slice none 0 0) ∧ Chg [] w3 w''))
  have A1 := Lib.hid (fun w' (hc : Chg [] w3 w') => (nall (w := w') (isno_nil w')).mono fun (r : Ending) w'' ⟨h1, h2⟩ => (⟨h1, hc.trans h2⟩ : r = Ending.returned (.slice none 0 0) ∧ Chg [] w3 w''))
  have A2 := Lib.hid (fun w' (hc : Chg [] w3 w') => (nall (w := w') (HNO.out w' (HC3.out.trans hc))).mono fun (r : Ending) w'' ⟨h1, h2⟩ => (⟨h1, hc.trans h2⟩ : r = Ending.returned (.slice none 0 0) ∧ Chg [] w3 w''))
  have L1 := Lib.hid (fun w' (hc : Chg [] w3 w') => (nlen (w := w') (isno_nil w')).mono fun (r : Ending) w'' ⟨h1, h2⟩ => (⟨h1, hc.trans h2⟩ : r = Ending.returned (.int .i64 0) ∧ Chg [] w3 w''))
  have L2 := Lib.hid (fun w' (hc : Chg [] w3 w') => (nlen (w := w') (HNO.out w' (HC3.out.trans hc))).mono fun (r : Ending) w'' ⟨h1, h2⟩ => (⟨h1, hc.trans h2⟩ : r = Ending.returned (.int .i64 0) ∧ Chg [] w3 w''))
  have C1 := Lib.hid (fun w' (hc : Chg [] w3 w') => (ncap (w := w') (isno_nil w')).mono fun (r : Ending) w'' ⟨h1, h2⟩ => (⟨h1, hc.trans h2⟩ : r = Ending.returned (.int .i64 0) ∧ Chg [] w3 w''))
  have C2 := Lib.hid (fun w' (hc : Chg [] w3 w') => (ncap (w := w') (HNO.out w' (HC3.out.trans hc))).mono fun (r : Ending) w'' ⟨h1, h2⟩ => (⟨h1, hc.trans h2⟩ : r = Ending.returned (.int .i64 0) ∧ Chg [] w3 w''))
  have N1 := Lib.hid (fun w' (hc : Chg [] w3 w') => (nnow (w := w') (isno_nil w')).mono fun (r : Ending) w'' ⟨h1, h2⟩ => (⟨h1, hc.trans h2⟩ : r = Ending.returned (.int .i64 0) ∧ Chg [] w3 w''))
  have N2 := Lib.hid (fun w' (hc : Chg [] w3 w') => (nnow (w := w') (HNO.out w' (HC3.out.trans hc))).mono fun (r : Ending) w'' ⟨h1, h2⟩ => (⟨h1, hc.trans h2⟩ : r = Ending.returned (.int .i64 0) ∧ Chg [] w3 w''))
  have B1 := Lib.hid (fun w' (hc : Chg [] w3 w') => (nbusy (w := w') (isno_nil w')).mono fun (r : Ending) w'' ⟨h1, h2⟩ => (⟨h1, hc.trans h2⟩ : r = Ending.returned (.int .i64 0) ∧ Chg [] w3 w''))
  have B2 := Lib.hid (fun w' (hc : Chg [] w3 w') => (nbusy (w := w') (HNO.out w' (HC3.out.trans hc))).mono fun (r : Ending) w'' ⟨h1, h2⟩ => (⟨h1, hc.trans h2⟩ : r = Ending.returned (.int .i64 0) ∧ Chg [] w3 w''))
  have LV := Lib.hid (fun w' (hc : Chg [] w3 w') => (lives30 w').mono fun (r : Ending) w'' ⟨h1, h2⟩ => (⟨h1, hc.trans h2⟩ : r = Ending.returned (.bool true) ∧ Chg [] w3 w''))
  simp only [List.append_eq, List.cons_append, List.nil_append]
  have HCn : Hid (Chg [] w3 w3) := Lib.hid (Chg.refl _ _)
  go_wp2_with (first
    | (refine wpList_row 73 (.tmp 45) rfl rfl ge 0 rfl (arrF e.fl) _ (RF3.out _ HCn.out) Try.underlying73 rfl infF ?_)
    | (refine wpList_row 73 (.tmp 52) rfl rfl ge 0 rfl (arrF e.fl) _ (RF3.out _ HCn.out) Try.underlying73 rfl infF ?_)
    | (refine wpList_row 96 (.tmp 1) rfl rfl ge 0 rfl (arrN e) _ (RE3.out _ HCn.out) Try.underlying96 rfl infN ?_)
    | fail)
  refine (P1.out _ HCn.out).mono ?_
  rintro r w10 ⟨rfl, hcn⟩
  replace HCn := Lib.hid hcn
  clear hcn P1
  go_wp2_with (first
    | (refine wpList_row 73 (.tmp 45) rfl rfl ge 0 rfl (arrF e.fl) _ (RF3.out _ HCn.out) Try.underlying73 rfl infF ?_)
    | (refine wpList_row 73 (.tmp 52) rfl rfl ge 0 rfl (arrF e.fl) _ (RF3.out _ HCn.out) Try.underlying73 rfl infF ?_)
    | (refine wpList_row 96 (.tmp 1) rfl rfl ge 0 rfl (arrN e) _ (RE3.out _ HCn.out) Try.underlying96 rfl infN ?_)
    | fail)
  refine (P2.out _ HCn.out).mono ?_
  rintro r w11 ⟨rfl, hcn⟩
  replace HCn := Lib.hid hcn
  clear hcn P2
  go_wp2_with (first
    | (refine wpList_row 73 (.tmp 45) rfl rfl ge 0 rfl (arrF e.fl) _ (RF3.out _ HCn.out) Try.underlying73 rfl infF ?_)
    | (refine wpList_row 73 (.tmp 52) rfl rfl ge 0 rfl (arrF e.fl) _ (RF3.out _ HCn.out) Try.underlying73 rfl infF ?_)
    | (refine wpList_row 96 (.tmp 1) rfl rfl ge 0 rfl (arrN e) _ (RE3.out _ HCn.out) Try.underlying96 rfl infN ?_)
    | fail)
  refine (D1.out _ HCn.out).mono ?_
  rintro r w12 ⟨rfl, hcn⟩
  replace HCn := Lib.hid hcn
  clear hcn D1
  go_wp2_with (first
    | (refine wpList_row 73 (.tmp 45) rfl rfl ge 0 rfl (arrF e.fl) _ (RF3.out _ HCn.out) Try.underlying73 rfl infF ?_)
    | (refine wpList_row 73 (.tmp 52) rfl rfl ge 0 rfl (arrF e.fl) _ (RF3.out _ HCn.out) Try.underlying73 rfl infF ?_)
    | (refine wpList_row 96 (.tmp 1) rfl rfl ge 0 rfl (arrN e) _ (RE3.out _ HCn.out) Try.underlying96 rfl infN ?_)
    | fail)
  refine (D2.out _ HCn.out).mono ?_
  rintro r w13 ⟨rfl, hcn⟩
  replace HCn := Lib.hid hcn
  clear hcn D2
  go_wp2_with (first
    | (refine wpList_row 73 (.tmp 45) rfl rfl ge 0 rfl (arrF e.fl) _ (RF3.out _ HCn.out) Try.underlying73 rfl infF ?_)
    | (refine wpList_row 73 (.tmp 52) rfl rfl ge 0 rfl (arrF e.fl) _ (RF3.out _ HCn.out) Try.underlying73 rfl infF ?_)
    | (refine wpList_row 96 (.tmp 1) rfl rfl ge 0 rfl (arrN e) _ (RE3.out _ HCn.out) Try.underlying96 rfl infN ?_)
    | fail)
  refine (T1.out _ HCn.out).mono ?_
  rintro r w14 ⟨rfl, hcn⟩
  replace HCn := Lib.hid hcn
  clear hcn T1
  go_wp2_with (first
    | (refine wpList_row 73 (.tmp 45) rfl rfl ge 0 rfl (arrF e.fl) _ (RF3.out _ HCn.out) Try.underlying73 rfl infF ?_)
    | (refine wpList_row 73 (.tmp 52) rfl rfl ge 0 rfl (arrF e.fl) _ (RF3.out _ HCn.out) Try.underlying73 rfl infF ?_)
    | (refine wpList_row 96 (.tmp 1) rfl rfl ge 0 rfl (arrN e) _ (RE3.out _ HCn.out) Try.underlying96 rfl infN ?_)
    | fail)
  refine (T2.out _ HCn.out).mono ?_
  rintro r w15 ⟨rfl, hcn⟩
  replace HCn := Lib.hid hcn
  clear hcn T2
  go_wp2_with (first
    | (refine wpList_row 73 (.tmp 45) rfl rfl ge 0 rfl (arrF e.fl) _ (RF3.out _ HCn.out) Try.underlying73 rfl infF ?_)
    | (refine wpList_row 73 (.tmp 52) rfl rfl ge 0 rfl (arrF e.fl) _ (RF3.out _ HCn.out) Try.underlying73 rfl infF ?_)
    | (refine wpList_row 96 (.tmp 1) rfl rfl ge 0 rfl (arrN e) _ (RE3.out _ HCn.out) Try.underlying96 rfl infN ?_)
    | fail)
  refine (A1.out _ HCn.out).mono ?_
  rintro r w16 ⟨rfl, hcn⟩
  replace HCn := Lib.hid hcn
  clear hcn A1
  go_wp2_with (first
    | (refine wpList_row 73 (.tmp 45) rfl rfl ge 0 rfl (arrF e.fl) _ (RF3.out _ HCn.out) Try.underlying73 rfl infF ?_)
    | (refine wpList_row 73 (.tmp 52) rfl rfl ge 0 rfl (arrF e.fl) _ (RF3.out _ HCn.out) Try.underlying73 rfl infF ?_)
    | (refine wpList_row 96 (.tmp 1) rfl rfl ge 0 rfl (arrN e) _ (RE3.out _ HCn.out) Try.underlying96 rfl infN ?_)
    | fail)
  refine (A2.out _ HCn.out).mono ?_
  rintro r w17 ⟨rfl, hcn⟩
  replace HCn := Lib.hid hcn
  clear hcn A2
  go_wp2_with (first
    | (refine wpList_row 73 (.tmp 45) rfl rfl ge 0 rfl (arrF e.fl) _ (RF3.out _ HCn.out) Try.underlying73 rfl infF ?_)
    | (refine wpList_row 73 (.tmp 52) rfl rfl ge 0 rfl (arrF e.fl) _ (RF3.out _ HCn.out) Try.underlying73 rfl infF ?_)
    | (refine wpList_row 96 (.tmp 1) rfl rfl ge 0 rfl (arrN e) _ (RE3.out _ HCn.out) Try.underlying96 rfl infN ?_)
    | fail)
  refine (L1.out _ HCn.out).mono ?_
  rintro r w18 ⟨rfl, hcn⟩
  replace HCn := Lib.hid hcn
  clear hcn L1
  go_wp2_with (first
    | (refine wpList_row 73 (.tmp 45) rfl rfl ge 0 rfl (arrF e.fl) _ (RF3.out _ HCn.out) Try.underlying73 rfl infF ?_)
    | (refine wpList_row 73 (.tmp 52) rfl rfl ge 0 rfl (arrF e.fl) _ (RF3.out _ HCn.out) Try.underlying73 rfl infF ?_)
    | (refine wpList_row 96 (.tmp 1) rfl rfl ge 0 rfl (arrN e) _ (RE3.out _ HCn.out) Try.underlying96 rfl infN ?_)
    | fail)
  refine (L2.out _ HCn.out).mono ?_
  rintro r w19 ⟨rfl, hcn⟩
  replace HCn := Lib.hid hcn
  clear hcn L2
  go_wp2_with (first
    | (refine wpList_row 73 (.tmp 45) rfl rfl ge 0 rfl (arrF e.fl) _ (RF3.out _ HCn.out) Try.underlying73 rfl infF ?_)
    | (refine wpList_row 73 (.tmp 52) rfl rfl ge 0 rfl (arrF e.fl) _ (RF3.out _ HCn.out) Try.underlying73 rfl infF ?_)
    | (refine wpList_row 96 (.tmp 1) rfl rfl ge 0 rfl (arrN e) _ (RE3.out _ HCn.out) Try.underlying96 rfl infN ?_)
    | fail)
  refine (C1.out _ HCn.out).mono ?_
  rintro r w20 ⟨rfl, hcn⟩
  replace HCn := Lib.hid hcn
  clear hcn C1
  go_wp2_with (first
    | (refine wpList_row 73 (.tmp 45) rfl rfl ge 0 rfl (arrF e.fl) _ (RF3.out _ HCn.out) Try.underlying73 rfl infF ?_)
    | (refine wpList_row 73 (.tmp 52) rfl rfl ge 0 rfl (arrF e.fl) _ (RF3.out _ HCn.out) Try.underlying73 rfl infF ?_)
    | (refine wpList_row 96 (.tmp 1) rfl rfl ge 0 rfl (arrN e) _ (RE3.out _ HCn.out) Try.underlying96 rfl infN ?_)
    | fail)
  refine (C2.out _ HCn.out).mono ?_
  rintro r w21 ⟨rfl, hcn⟩
  replace HCn := Lib.hid hcn
  clear hcn C2
  go_wp2_with (first
    | (refine wpList_row 73 (.tmp 45) rfl rfl ge 0 rfl (arrF e.fl) _ (RF3.out _ HCn.out) Try.underlying73 rfl infF ?_)
    | (refine wpList_row 73 (.tmp 52) rfl rfl ge 0 rfl (arrF e.fl) _ (RF3.out _ HCn.out) Try.underlying73 rfl infF ?_)
    | (refine wpList_row 96 (.tmp 1) rfl rfl ge 0 rfl (arrN e) _ (RE3.out _ HCn.out) Try.underlying96 rfl infN ?_)
    | fail)
  refine (N1.out _ HCn.out).mono ?_
  rintro r w22 ⟨rfl, hcn⟩
  replace HCn := Lib.hid hcn
  clear hcn N1
  go_wp2_with (first
    | (refine wpList_row 73 (.tmp 45) rfl rfl ge 0 rfl (arrF e.fl) _ (RF3.out _ HCn.out) Try.underlying73 rfl infF ?_)
    | (refine wpList_row 73 (.tmp 52) rfl rfl ge 0 rfl (arrF e.fl) _ (RF3.out _ HCn.out) Try.underlying73 rfl infF ?_)
    | (refine wpList_row 96 (.tmp 1) rfl rfl ge 0 rfl (arrN e) _ (RE3.out _ HCn.out) Try.underlying96 rfl infN ?_)
    | fail)
  refine (N2.out _ HCn.out).mono ?_
  rintro r w23 ⟨rfl, hcn⟩
  replace HCn := Lib.hid hcn
  clear hcn N2
  go_wp2_with (first
    | (refine wpList_row 73 (.tmp 45) rfl rfl ge 0 rfl (arrF e.fl) _ (RF3.out _ HCn.out) Try.underlying73 rfl infF ?_)
    | (refine wpList_row 73 (.tmp 52) rfl rfl ge 0 rfl (arrF e.fl) _ (RF3.out _ HCn.out) Try.underlying73 rfl infF ?_)
    | (refine wpList_row 96 (.tmp 1) rfl rfl ge 0 rfl (arrN e) _ (RE3.out _ HCn.out) Try.underlying96 rfl infN ?_)
    | fail)
  refine (B1.out _ HCn.out).mono ?_
  rintro r w24 ⟨rfl, hcn⟩
  replace HCn := Lib.hid hcn
  clear hcn B1
  go_wp2_with (first
    | (refine wpList_row 73 (.tmp 45) rfl rfl ge 0 rfl (arrF e.fl) _ (RF3.out _ HCn.out) Try.underlying73 rfl infF ?_)
    | (refine wpList_row 73 (.tmp 52) rfl rfl ge 0 rfl (arrF e.fl) _ (RF3.out _ HCn.out) Try.underlying73 rfl infF ?_)
    | (refine wpList_row 96 (.tmp 1) rfl rfl ge 0 rfl (arrN e) _ (RE3.out _ HCn.out) Try.underlying96 rfl infN ?_)
    | fail)
  refine (B2.out _ HCn.out).mono ?_
  rintro r w25 ⟨rfl, hcn⟩
  replace HCn := Lib.hid hcn
  clear hcn B2
  go_wp2_with (first
    | (refine wpList_row 73 (.tmp 45) rfl rfl ge 0 rfl (arrF e.fl) _ (RF3.out _ HCn.out) Try.underlying73 rfl infF ?_)
    | (refine wpList_row 73 (.tmp 52) rfl rfl ge 0 rfl (arrF e.fl) _ (RF3.out _ HCn.out) Try.underlying73 rfl infF ?_)
    | (refine wpList_row 96 (.tmp 1) rfl rfl ge 0 rfl (arrN e) _ (RE3.out _ HCn.out) Try.underlying96 rfl infN ?_)
    | fail)
  refine (LV.out _ HCn.out).mono ?_
  rintro r w26 ⟨rfl, hcn⟩
  replace HCn := Lib.hid hcn
  clear hcn LV
  have hc8 := HCn.out
  have HC8 := Lib.hid (HI.out.1.trans (HC3.out.trans hc8))
  clear hc8 RE3 RF3
  go_wp2_with fail
  go_ret
  exact ⟨rfl, HC8.out⟩
end Go.Proofs.Ytgbdbeaflilmlaa
