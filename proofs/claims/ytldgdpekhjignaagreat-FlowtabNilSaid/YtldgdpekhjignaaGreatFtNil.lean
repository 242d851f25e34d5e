/-
  WALK: FlowtabNil. No condition.
-/
import Derived.Test.YtldgdpekhjignaaGreatFtm3
set_option linter.unusedVariables false
set_option linter.unusedSimpArgs false
namespace Go.Proofs.YtldgdpekhjignaaGreat.Ft
open Go.RowKit Go.Maps

theorem wfC0 : wfC ⟨0, 0, 0, 0, 0, 0⟩ := ⟨by unfold wfI; decide, by unfold wfI; decide, by unfold wfI; decide, by unfold wfI; decide, by unfold wfI; decide, by unfold wfI; decide⟩
set_option maxRecDepth 100000 in
set_option maxHeartbeats 4000000 in
theorem nil26 {f : Fl} (n : Int) (w : World) : Calls Tryz.prog 6 #[f.v, .int .i64 n] w fun r w' => r = .returned (.bool true) ∧ Chg [] w w' := by
  have hc1 := (Chg.refl [] w).alloc (.cells (arrF f) 38)
  have hc2 := hc1.alloc (.cells arrTab0 63)
  have hBf : Blk ((w.alloc (.cells (arrF f) 38)).alloc (.cells arrTab0 63)) w.heap.size 38 (arrF f) := (Blk.new _ _ _).alloc _
  have hBd : Blk ((w.alloc (.cells (arrF f) 38)).alloc (.cells arrTab0 63)) (w.heap.size + 1) 63 arrTab0 := Blk.new' (by simp)
  have HI := Lib.hid (And.intro hc2 (And.intro hBf (isno_blk hBd)))
  have hz1 : ((w.alloc (.cells (arrF f) 38)).alloc (.cells arrTab0 63)).heap.size = w.heap.size + 2 := by simp
  clear hc1 hc2 hBf hBd
  have hEQ := fun W => eq_cn W wfC0 wfC0
  simp only [decide_true] at hEQ
  go_enter Tryz.func6, Tryz.ntmps6
  go_upto_region 3 with fail
  generalize (w.alloc (.cells (arrF f) 38)).alloc (.cells arrTab0 63) = w1 at *
  generalize hge : w.heap.size = ge at *
  have RN := Lib.hid (fun W (hc : Chg [] w1 W) => (HI.out.2.1.chg hc (by simp)).rangeQ)
  have HNO := Lib.hid (fun W (hc : Chg [] w1 W) => HI.out.2.2.chg0 hc)
  have HCn : Hid (Chg [] w1 w1) := Lib.hid (Chg.refl _ _)
  go_wp2_with (first
    | (refine wpList_row 38 (.tmp 2) rfl rfl ge 0 rfl (arrF f) _ (RN.out _ HCn.out) Tryz.underlying38 rfl infF ?_)
    | fail)
  refine (nfind (isno_nil _) f).mono ?_
  rintro r v1 ⟨rfl, hcn⟩
  replace HCn := Lib.hid (HCn.out.trans hcn)
  have hBl : Blk (v1.alloc (.cells arrE0 44)) v1.heap.size 44 arrE0 := Blk.new _ _ _
  have hca := HCn.out.alloc (.cells arrE0 44)
  have hz := HCn.out.size
  clear hcn
  go_upto_region 4 with (first
    | (refine wpList_store_blk (vs := arrE0) rfl 44 _ _ rfl rfl hBl rfl rfl rfl infE37 rfl ?_; intro u1 hB2 hcs)
    | fail)
  replace HCn := Lib.hid (hca.trans' hcs (by intro y hy; simp at hy; subst hy; exact .inr hz))
  clear hBl hca hB2 hcs hz
  go_wp2_with (first
    | (refine wpList_row 38 (.tmp 2) rfl rfl ge 0 rfl (arrF f) _ (RN.out _ HCn.out) Tryz.underlying38 rfl infF ?_)
    | fail)
  refine (nfind (HNO.out _ HCn.out) f).mono ?_
  rintro r v2 ⟨rfl, hcn⟩
  replace HCn := Lib.hid (HCn.out.trans hcn)
  have hBl : Blk (v2.alloc (.cells arrE0 44)) v2.heap.size 44 arrE0 := Blk.new _ _ _
  have hca := HCn.out.alloc (.cells arrE0 44)
  have hz := HCn.out.size
  clear hcn
  go_upto_region 5 with (first
    | (refine wpList_store_blk (vs := arrE0) rfl 44 _ _ rfl rfl hBl rfl rfl rfl infE37 rfl ?_; intro u2 hB2 hcs)
    | fail)
  replace HCn := Lib.hid (hca.trans' hcs (by intro y hy; simp at hy; subst hy; exact .inr hz))
  clear hBl hca hB2 hcs hz
  go_wp2_with (first
    | (refine wpList_row 38 (.tmp 2) rfl rfl ge 0 rfl (arrF f) _ (RN.out _ HCn.out) Tryz.underlying38 rfl infF ?_)
    | fail)
  refine (nlook (isno_nil _) f n).mono ?_
  rintro r v3 ⟨rfl, hcn⟩
  replace HCn := Lib.hid (HCn.out.trans hcn)
  clear hcn
  go_wp2_with (first
    | (refine wpList_row 38 (.tmp 2) rfl rfl ge 0 rfl (arrF f) _ (RN.out _ HCn.out) Tryz.underlying38 rfl infF ?_)
    | fail)
  refine (nlook (HNO.out _ HCn.out) f n).mono ?_
  rintro r v4 ⟨rfl, hcn⟩
  replace HCn := Lib.hid (HCn.out.trans hcn)
  clear hcn
  go_wp2_with (first
    | (refine wpList_row 38 (.tmp 2) rfl rfl ge 0 rfl (arrF f) _ (RN.out _ HCn.out) Tryz.underlying38 rfl infF ?_)
    | fail)
  refine (npend (isno_nil _) f).mono ?_
  rintro r v5 ⟨rfl, hcn⟩
  replace HCn := Lib.hid (HCn.out.trans hcn)
  clear hcn
  go_wp2_with (first
    | (refine wpList_row 38 (.tmp 2) rfl rfl ge 0 rfl (arrF f) _ (RN.out _ HCn.out) Tryz.underlying38 rfl infF ?_)
    | fail)
  refine (npend (HNO.out _ HCn.out) f).mono ?_
  rintro r v6 ⟨rfl, hcn⟩
  replace HCn := Lib.hid (HCn.out.trans hcn)
  clear hcn
  go_wp2_with (first
    | (refine wpList_row 38 (.tmp 2) rfl rfl ge 0 rfl (arrF f) _ (RN.out _ HCn.out) Tryz.underlying38 rfl infF ?_)
    | fail)
  refine (nforget (isno_nil _) f).mono ?_
  rintro r v7 ⟨rfl, hcn⟩
  replace HCn := Lib.hid (HCn.out.trans hcn)
  clear hcn
  go_wp2_with (first
    | (refine wpList_row 38 (.tmp 2) rfl rfl ge 0 rfl (arrF f) _ (RN.out _ HCn.out) Tryz.underlying38 rfl infF ?_)
    | fail)
  refine (nforget (HNO.out _ HCn.out) f).mono ?_
  rintro r v8 ⟨rfl, hcn⟩
  replace HCn := Lib.hid (HCn.out.trans hcn)
  clear hcn
  go_wp2_with (first
    | (refine wpList_row 38 (.tmp 2) rfl rfl ge 0 rfl (arrF f) _ (RN.out _ HCn.out) Tryz.underlying38 rfl infF ?_)
    | fail)
  refine (nlearn (isno_nil _) f n).mono ?_
  rintro r v9 ⟨rfl, hcn⟩
  replace HCn := Lib.hid (HCn.out.trans hcn)
  clear hcn
  go_wp2_with (first
    | (refine wpList_row 38 (.tmp 2) rfl rfl ge 0 rfl (arrF f) _ (RN.out _ HCn.out) Tryz.underlying38 rfl infF ?_)
    | fail)
  refine (nlearn (HNO.out _ HCn.out) f n).mono ?_
  rintro r v10 ⟨rfl, hcn⟩
  replace HCn := Lib.hid (HCn.out.trans hcn)
  clear hcn
  go_wp2_with (first
    | (refine wpList_row 38 (.tmp 2) rfl rfl ge 0 rfl (arrF f) _ (RN.out _ HCn.out) Tryz.underlying38 rfl infF ?_)
    | fail)
  refine (ntick (isno_nil _)).mono ?_
  rintro r v11 ⟨rfl, hcn⟩
  replace HCn := Lib.hid (HCn.out.trans hcn)
  clear hcn
  go_wp2_with (first
    | (refine wpList_row 38 (.tmp 2) rfl rfl ge 0 rfl (arrF f) _ (RN.out _ HCn.out) Tryz.underlying38 rfl infF ?_)
    | fail)
  refine (ntick (HNO.out _ HCn.out)).mono ?_
  rintro r v12 ⟨rfl, hcn⟩
  replace HCn := Lib.hid (HCn.out.trans hcn)
  clear hcn
  go_wp2_with (first
    | (refine wpList_row 38 (.tmp 2) rfl rfl ge 0 rfl (arrF f) _ (RN.out _ HCn.out) Tryz.underlying38 rfl infF ?_)
    | fail)
  refine (nall (isno_nil _)).mono ?_
  rintro r v13 ⟨rfl, hcn⟩
  replace HCn := Lib.hid (HCn.out.trans hcn)
  clear hcn
  go_wp2_with (first
    | (refine wpList_row 38 (.tmp 2) rfl rfl ge 0 rfl (arrF f) _ (RN.out _ HCn.out) Tryz.underlying38 rfl infF ?_)
    | fail)
  refine (nall (HNO.out _ HCn.out)).mono ?_
  rintro r v14 ⟨rfl, hcn⟩
  replace HCn := Lib.hid (HCn.out.trans hcn)
  clear hcn
  go_wp2_with (first
    | (refine wpList_row 38 (.tmp 2) rfl rfl ge 0 rfl (arrF f) _ (RN.out _ HCn.out) Tryz.underlying38 rfl infF ?_)
    | fail)
  refine (nlen (isno_nil _)).mono ?_
  rintro r v15 ⟨rfl, hcn⟩
  replace HCn := Lib.hid (HCn.out.trans hcn)
  clear hcn
  go_wp2_with (first
    | (refine wpList_row 38 (.tmp 2) rfl rfl ge 0 rfl (arrF f) _ (RN.out _ HCn.out) Tryz.underlying38 rfl infF ?_)
    | fail)
  refine (nlen (HNO.out _ HCn.out)).mono ?_
  rintro r v16 ⟨rfl, hcn⟩
  replace HCn := Lib.hid (HCn.out.trans hcn)
  clear hcn
  go_wp2_with (first
    | (refine wpList_row 38 (.tmp 2) rfl rfl ge 0 rfl (arrF f) _ (RN.out _ HCn.out) Tryz.underlying38 rfl infF ?_)
    | fail)
  refine (ncap (isno_nil _)).mono ?_
  rintro r v17 ⟨rfl, hcn⟩
  replace HCn := Lib.hid (HCn.out.trans hcn)
  clear hcn
  go_wp2_with (first
    | (refine wpList_row 38 (.tmp 2) rfl rfl ge 0 rfl (arrF f) _ (RN.out _ HCn.out) Tryz.underlying38 rfl infF ?_)
    | fail)
  refine (ncap (HNO.out _ HCn.out)).mono ?_
  rintro r v18 ⟨rfl, hcn⟩
  replace HCn := Lib.hid (HCn.out.trans hcn)
  clear hcn
  go_wp2_with (first
    | (refine wpList_row 38 (.tmp 2) rfl rfl ge 0 rfl (arrF f) _ (RN.out _ HCn.out) Tryz.underlying38 rfl infF ?_)
    | fail)
  refine (ncounts (isno_nil _)).mono ?_
  rintro r v19 ⟨rfl, hcn⟩
  replace HCn := Lib.hid (HCn.out.trans hcn)
  clear hcn
  go_wp2_with (first
    | (refine wpList_row 38 (.tmp 2) rfl rfl ge 0 rfl (arrF f) _ (RN.out _ HCn.out) Tryz.underlying38 rfl infF ?_)
    | fail)
  refine (ncounts (HNO.out _ HCn.out)).mono ?_
  rintro r v20 ⟨rfl, hcn⟩
  replace HCn := Lib.hid (HCn.out.trans hcn)
  clear hcn
  go_wp2_with (first
    | (refine wpList_row 38 (.tmp 2) rfl rfl ge 0 rfl (arrF f) _ (RN.out _ HCn.out) Tryz.underlying38 rfl infF ?_)
    | fail)
  refine (lives26 _).mono ?_
  rintro r v21 ⟨rfl, hcn⟩
  replace HCn := Lib.hid (HCn.out.trans hcn)
  clear hcn
  have HFIN := Lib.hid (HI.out.1.trans HCn.out)
  clear RN HNO
  go_wp2_with fail
  go_ret
  exact ⟨rfl, HFIN.out⟩
end Go.Proofs.YtldgdpekhjignaaGreat.Ft
