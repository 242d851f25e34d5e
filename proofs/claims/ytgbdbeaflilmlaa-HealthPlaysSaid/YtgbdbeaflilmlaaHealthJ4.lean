/-
  WALK: HealthPlays, the answer to the last probe. Condition: as in the text before. (Printed by wip/tools/gen_j36.py.)
-/
import Derived.Test.YtgbdbeaflilmlaaHealthJ3
set_option linter.unusedVariables false
set_option linter.unusedSimpArgs false
namespace Go.Proofs.Ytgbdbeaflilmlaa
open Go.RowKit Go.Maps
set_option maxRecDepth 1000000 in
set_option maxHeartbeats 4000000 in
theorem op_ans3 {w wc : World} {cb b bo i : Nat} {c : CK} {Si : List Nat} {v : Value} {kd nd sd sq k7 : Int} (hJ : JP w wc cb i b c Si v) (hBo : Blk wc bo 43 #[.int .i64 kd, .int .i64 nd, .int .i64 sd]) (hi : i ≤ 150) (HW2 : Hid ((Lit.int .i64 nd).wf = true))
    (hbo : bo ∉ Si) (hbob : bo ≠ b) (hk : k7 = 3) {KX : Act → World → Prop} {QX : Exit → Act → World → Prop} {f0 f1 f2 f5 f8 f9 f10 f11 f12 f13 f14 f15 f16 f17 f18 f19 f20 f21 f22 f23 f24 f25 f26 f27 f28 f29 f30 f31 f32 f33 f34 f35 f36 f37 f38 f39 f40 f41 f42 f43 f44 f45 f46 f47 f48 f49 f50 f51 f52 f53 f54 f55 f56 f57 f58 f59 f60 f61 f62 f63 f64 f65 f66 f67 f69 f70 f71 f72 f73 f74 f75 f76 f77 f78 f79 f80 f81 f82 f83 f84 f85 f86 f87 f88 f89 f90 f91 f92 f93 f94 f95 f96 f97 f98 f99 f100 f101 f102 f103 f104 f105 f106 f107 f108 f109 f110 f111 f112 f113 f114 f115 f116 f117 f118 f119 f120 f121 f122 f123 f124 f125 f126 f127 f128 f129 f130 f131 f132 f133 f134 f135 f136 f137 f138 f139 f140 f141 f142 f143 f144 f145 f146 f147 f148 f149 f150 f151 f152 f153 f154 f155 f156 f157 f158 f159 f160 f161 f162 f163 f164 f165 f166 f167 f168 f169 f170 f171 f172 f173 f174 f175 f176 f177 f178 f179 f180 f181 f182 f183 f184 f185 f186 f187 f188 f189 f190 f191 f192 f193 f194 f195 f196 f197 f198 f199 f200 f201 f202 f203 f204 f205 f206 f207 f208 f209 f210 f211 f212 f213 f214 f215 f216 f217 f218 f219 f220 f221 f222 f223 f224 f225 f226 f227 f228 f229 f230 f231 f232 f233 f234 : Value}
    (hKX : ∀ (g9 g14 g15 g16 g17 g18 g129 g130 g145 g146 g161 g162 g163 g164 g165 g166 g167 g168 g169 g170 g171 g172 g173 g174 g175 g176 g177 g178 g179 g180 g181 g182 g183 g184 g185 g186 g187 g188 g189 : Value) (w' : World), (g9 = .bool true ∧ Hid (∃ c' S' v', JP w w' cb (i + 1) b c' S' v')) → KX ⟨#[f0, f1, f2, .pointer (some ⟨cb, 0, none⟩), .pointer (some ⟨b, 0, none⟩), f5, .pointer (some ⟨bo, 0, none⟩), .int .i64 sq, f8, g9, f10, f11, f12, f13, g14, g15, g16, g17, g18, f19, f20, f21, f22, f23, f24, f25, f26, f27, f28, f29, f30, f31, f32, f33, f34, f35, f36, f37, f38, f39, f40, f41, f42, f43, f44, f45, f46, f47, f48, f49, f50, f51, f52, f53, f54, f55, f56, f57, f58, f59, f60, f61, f62, f63, f64, f65, f66, f67, .int .i64 k7, f69, f70, f71, f72, f73, f74, f75, f76, f77, f78, f79, f80, f81, f82, f83, f84, f85, f86, f87, f88, f89, f90, f91, f92, f93, f94, f95, f96, f97, f98, f99, f100, f101, f102, f103, f104, f105, f106, f107, f108, f109, f110, f111, f112, f113, f114, f115, f116, f117, f118, f119, f120, f121, f122, f123, f124, f125, f126, f127, f128, g129, g130, f131, f132, f133, f134, f135, f136, f137, f138, f139, f140, f141, f142, f143, f144, g145, g146, f147, f148, f149, f150, f151, f152, f153, f154, f155, f156, f157, f158, f159, f160, g161, g162, g163, g164, g165, g166, g167, g168, g169, g170, g171, g172, g173, g174, g175, g176, g177, g178, g179, g180, g181, g182, g183, g184, g185, g186, g187, g188, g189, f190, f191, f192, f193, f194, f195, f196, f197, f198, f199, f200, f201, f202, f203, f204, f205, f206, f207, f208, f209, f210, f211, f212, f213, f214, f215, f216, f217, f218, f219, f220, f221, f222, f223, f224, f225, f226, f227, f228, f229, f230, f231, f232, f233, f234], []⟩ w') :
    Code.wp Try.prog ((Try.f4.body.bind (blkOf 2)).getD .skip) (Exit.then KX QX) ⟨#[f0, f1, f2, .pointer (some ⟨cb, 0, none⟩), .pointer (some ⟨b, 0, none⟩), f5, .pointer (some ⟨bo, 0, none⟩), .int .i64 sq, f8, f9, f10, f11, f12, f13, f14, f15, f16, f17, f18, f19, f20, f21, f22, f23, f24, f25, f26, f27, f28, f29, f30, f31, f32, f33, f34, f35, f36, f37, f38, f39, f40, f41, f42, f43, f44, f45, f46, f47, f48, f49, f50, f51, f52, f53, f54, f55, f56, f57, f58, f59, f60, f61, f62, f63, f64, f65, f66, f67, .int .i64 k7, f69, f70, f71, f72, f73, f74, f75, f76, f77, f78, f79, f80, f81, f82, f83, f84, f85, f86, f87, f88, f89, f90, f91, f92, f93, f94, f95, f96, f97, f98, f99, f100, f101, f102, f103, f104, f105, f106, f107, f108, f109, f110, f111, f112, f113, f114, f115, f116, f117, f118, f119, f120, f121, f122, f123, f124, f125, f126, f127, f128, f129, f130, f131, f132, f133, f134, f135, f136, f137, f138, f139, f140, f141, f142, f143, f144, f145, f146, f147, f148, f149, f150, f151, f152, f153, f154, f155, f156, f157, f158, f159, f160, f161, f162, f163, f164, f165, f166, f167, f168, f169, f170, f171, f172, f173, f174, f175, f176, f177, f178, f179, f180, f181, f182, f183, f184, f185, f186, f187, f188, f189, f190, f191, f192, f193, f194, f195, f196, f197, f198, f199, f200, f201, f202, f203, f204, f205, f206, f207, f208, f209, f210, f211, f212, f213, f214, f215, f216, f217, f218, f219, f220, f221, f222, f223, f224, f225, f226, f227, f228, f229, f230, f231, f232, f233, f234], []⟩ wc := by
  conv => arg 2; whnf
  subst hk
  have F1 := Lib.hid (rans_any hJ.row hJ.ck.ci (by omega) nd sq)
  have HA := Lib.hid (fun W (hc : Chg [] wc W) => hans_any (hJ.ck.chg0 hc) (by omega) HW2.out sq)
  have hRB := Lib.hid hJ.blk.rangeQ
  have HBO := Lib.hid (fun W (hc : Chg [] wc W) => (show W.cell? ⟨bo, 1, none⟩ = some (.int .i64 nd) from (hBo.chg hc (by simp)).cell 1))
  have o1 : wc.cell? ⟨bo, 1, none⟩ = some (.int .i64 nd) := hBo.cell 1
  have HJ := Lib.hid hJ
  have hbl := hJ.blk.lt
  have HSL := Lib.hid hJ.ck.lt
  have hnow : (ansC c nd sq).1.now = c.now := by unfold ansC; split <;> (try split) <;> rfl
  clear hJ hBo
  unfold ansV ARPost at *
  generalize hac : ansC c nd sq = ac at *
  generalize hcn : (if ac.2.1 = true then nd else 0) = cn at *
  have HNW := Lib.hid hnow
  clear hnow
  go_upto_region 34 with (first
    | (refine wpList_row 41 (.tmp 4) rfl rfl b 0 rfl _ _ hRB.out Try.underlying41 rfl infRC ?_)
    | (go_at_call 21; refine F1.out.mono ?_; rintro e w10 ⟨v', rfl, hR⟩; obtain ⟨A', cp', hv'⟩ := Sl.form hR.row.sl; subst hv'; have hBx := (Blk.new w10 41 #[.int .i64 0, .slice none 0 0]).alloc (.cells #[.int .i64 0, .bool false] 49); have hBy : Blk ((w10.alloc (.cells #[.int .i64 0, .slice none 0 0] 41)).alloc (.cells #[.int .i64 0, .bool false] 49)) (w10.heap.size + 1) 49 #[.int .i64 0, .bool false] := Blk.new' (by simp))
    | (refine wpList_store_blk rfl 41 _ _ rfl rfl hBx rfl rfl rfl (by kernel_rfl) rfl ?_; intro w11 hB11 hc11; have hBy2 := hBy.chg hc11 (by simp))
    | (refine wpList_store_blk rfl 49 _ _ rfl rfl hBy2 rfl rfl rfl (by kernel_rfl) rfl ?_; intro w12 hB12 hc12)
    | fail)
  have hA10 := ((((Chg.refl [] w10).alloc (.cells #[.int .i64 0, .slice none 0 0] 41)).alloc (.cells #[.int .i64 0, .bool false] 49)).trans' hc11 (by intro y hy; simp at hy; subst hy; exact .inr (Nat.le_refl _))).trans' hc12 (by intro y hy; simp at hy; subst hy; exact .inr (by omega))
  have hB11' := hB11.chg hc12 (by simp)
  have hz10 := hR.chg.size
  have hcw := hR.chg.trans hA10
  generalize hbx : w10.heap.size = bx at *
  generalize hby : bx + 1 = by_ at *
  have hbxS : bx ∉ Si := fun hm => by have := HSL.out _ hm; omega
  have hbyS : by_ ∉ Si := fun hm => by have := HSL.out _ hm; omega
  generalize hln : ac.1.l.length = ln at *
  have o2 := HBO.out w12 hcw
  have FA := Lib.hid (HA.out w12 hcw)
  have HBB := Lib.hid (HJ.out.blk.chg hcw (by simp))
  have HH := Lib.hid (And.intro hR hA10)
  have HXY := Lib.hid (And.intro hB11' hB12)
  clear hBx hBy hBy2 hc11 hc12 hB11 hB11' hB12 hR hA10 HA o1 hRB F1 hcw HBO
  go_upto_region 35 with (first
    | (go_at_call 15; refine FA.out.mono ?_; rintro e w13 ⟨rfl, hT⟩; have hBz : Blk (w13.alloc (.cells #[.int .i64 0, .bool false] 34)) w13.heap.size 34 #[.int .i64 0, .bool false] := Blk.new _ _ _)
    | (refine wpList_store_blk rfl 34 _ _ rfl rfl hBz rfl rfl rfl (by kernel_rfl) rfl ?_; intro w14 hB14 hc14)
    | fail)
  have hT0 := hT
  obtain ⟨S2, _, hcT, _⟩ := hT0
  have hz12 := HXY.out.2.lt
  have hzT := hcT.size
  have hA13 := ((Chg.refl [] w13).alloc (.cells #[.int .i64 0, .bool false] 34)).trans' hc14 (by intro y hy; simp at hy; subst hy; exact .inr (Nat.le_refl _))
  generalize hbz : w13.heap.size = bz at *
  have hS0 : (fun W : World => Blk W bx 41 #[.int .i64 c.now, .slice A' ln cp'] ∧ Blk W by_ 49 #[.int .i64 cn, .bool ac.2.1] ∧ Blk W bz 34 #[.int .i64 cn, .bool ac.2.1]) w14.drew := ⟨((HXY.out.1.chg hcT hbxS).chg hA13 (by simp)).drew, ((HXY.out.2.chg hcT hbyS).chg hA13 (by simp)).drew, hB14.drew⟩
  have HS1 : ∀ W : World, (Blk W bx 41 #[.int .i64 c.now, .slice A' ln cp'] ∧ Blk W by_ 49 #[.int .i64 cn, .bool ac.2.1] ∧ Blk W bz 34 #[.int .i64 cn, .bool ac.2.1]) → W.rangeAt bx 0 (#[.int .i64 c.now, .slice A' ln cp'] : Array Value).toList := fun W h => h.1.rangeQ
  have HS2 : ∀ W : World, (Blk W bx 41 #[.int .i64 c.now, .slice A' ln cp'] ∧ Blk W by_ 49 #[.int .i64 cn, .bool ac.2.1] ∧ Blk W bz 34 #[.int .i64 cn, .bool ac.2.1]) → W.rangeAt by_ 0 (#[.int .i64 cn, .bool ac.2.1] : Array Value).toList := fun W h => h.2.1.rangeQ
  have HS3 : ∀ W : World, (Blk W bx 41 #[.int .i64 c.now, .slice A' ln cp'] ∧ Blk W by_ 49 #[.int .i64 cn, .bool ac.2.1] ∧ Blk W bz 34 #[.int .i64 cn, .bool ac.2.1]) → W.rangeAt bz 0 (#[.int .i64 cn, .bool ac.2.1] : Array Value).toList := fun W h => h.2.2.rangeQ
  have hBb := ((HBB.out.chg hcT HJ.out.bS).chg hA13 (by simp)).drew
  have HT := Lib.hid hT
  have HA13 := Lib.hid hA13.drew
  have hb1 : bx ≠ b := by omega
  have hb2 : by_ ≠ b := by omega
  have hb3 : bz ≠ b := by omega
  clear hT hcT hBz hc14 hB14 hA13 o2 FA HXY
  refine wp_region_noPanic ?_
  refine wp_region_held_drew (S := fun W : World => Blk W bx 41 #[.int .i64 c.now, .slice A' ln cp'] ∧ Blk W by_ 49 #[.int .i64 cn, .bool ac.2.1] ∧ Blk W bz 34 #[.int .i64 cn, .bool ac.2.1]) (by kernel_rfl) hS0 (fun _ => ?_)
  refine wpAnyH_take (i := 0) rfl (by kernel_rfl) (by kernel_rfl) (by kernel_rfl) (fun _ _ _ h => h) (yields_row (by rfl) 41 (.tmp 14) rfl bx 0 rfl (#[.int .i64 c.now, .slice A' ln cp']) _ HS1 Try.underlying41 rfl infRC) (by with_reducible assumption) ?_
  try simp only [List.getElem_toArray, List.getElem_cons_succ, List.getElem_cons_zero, Act.put, List.setIfInBounds_toArray, List.set_cons_zero, List.set_cons_succ]
  refine wpAnyH_take (i := 1) (v := ?_) rfl (by kernel_rfl) (by kernel_rfl) (by kernel_rfl) (fun _ _ _ h => h) (yields_pure (by rfl) (fun w => ?_)) (by with_reducible assumption) ?_
  rotate_left
  · (go_simp <;> with_reducible rfl)
  try simp only [List.getElem_toArray, List.getElem_cons_succ, List.getElem_cons_zero, Act.put, List.setIfInBounds_toArray, List.set_cons_zero, List.set_cons_succ]
  refine wpAnyH_take (i := 2) (v := ?_) rfl (by kernel_rfl) (by kernel_rfl) (by kernel_rfl) (fun _ _ _ h => h) (yields_pure (by rfl) (fun w => ?_)) (by with_reducible assumption) ?_
  rotate_left
  · (go_simp <;> with_reducible rfl)
  try simp only [List.getElem_toArray, List.getElem_cons_succ, List.getElem_cons_zero, Act.put, List.setIfInBounds_toArray, List.set_cons_zero, List.set_cons_succ]
  refine wpAnyH_take (i := 3) (v := ?_) rfl (by kernel_rfl) (by kernel_rfl) (by kernel_rfl) (fun _ _ _ h => h) (yields_pure (by rfl) (fun w => ?_)) (by with_reducible assumption) ?_
  rotate_left
  · (go_simp <;> with_reducible rfl)
  try simp only [List.getElem_toArray, List.getElem_cons_succ, List.getElem_cons_zero, Act.put, List.setIfInBounds_toArray, List.set_cons_zero, List.set_cons_succ]
  refine wpAnyH_take (i := 4) (v := ?_) rfl (by kernel_rfl) (by kernel_rfl) (by kernel_rfl) (fun _ _ _ h => h) (yields_pure (by rfl) (fun w => ?_)) (by with_reducible assumption) ?_
  rotate_left
  · (go_simp <;> with_reducible rfl)
  try simp only [List.getElem_toArray, List.getElem_cons_succ, List.getElem_cons_zero, Act.put, List.setIfInBounds_toArray, List.set_cons_zero, List.set_cons_succ]
  refine wpAnyH_take (i := 5) rfl (by kernel_rfl) (by kernel_rfl) (by kernel_rfl) (fun _ _ _ h => h) (yields_row (by rfl) 34 (.tmp 17) rfl bz 0 rfl (#[.int .i64 cn, .bool ac.2.1]) _ HS3 Try.underlying34 rfl infCh) (by with_reducible assumption) ?_
  try simp only [List.getElem_toArray, List.getElem_cons_succ, List.getElem_cons_zero, Act.put, List.setIfInBounds_toArray, List.set_cons_zero, List.set_cons_succ]
  refine wpAnyH_take (i := 6) rfl (by kernel_rfl) (by kernel_rfl) (by kernel_rfl) (fun _ _ _ h => h) (yields_row (by rfl) 49 (.tmp 15) rfl by_ 0 rfl (#[.int .i64 cn, .bool ac.2.1]) _ HS2 Try.underlying49 rfl infRCh) (by with_reducible assumption) ?_
  try simp only [List.getElem_toArray, List.getElem_cons_succ, List.getElem_cons_zero, Act.put, List.setIfInBounds_toArray, List.set_cons_zero, List.set_cons_succ]
  refine wpAnyH_take (i := 7) (v := ?_) rfl (by kernel_rfl) (by kernel_rfl) (by kernel_rfl) (fun _ _ _ h => h) (yields_pure (by rfl) (fun w => ?_)) (by with_reducible assumption) ?_
  rotate_left
  · (go_simp <;> with_reducible rfl)
  try simp only [List.getElem_toArray, List.getElem_cons_succ, List.getElem_cons_zero, Act.put, List.setIfInBounds_toArray, List.set_cons_zero, List.set_cons_succ]
  refine wpAnyH_take (i := 8) (v := ?_) rfl (by kernel_rfl) (by kernel_rfl) (by kernel_rfl) (fun _ _ _ h => h) (yields_pure (by rfl) (fun w => ?_)) (by with_reducible assumption) ?_
  rotate_left
  · (go_simp <;> with_reducible rfl)
  try simp only [List.getElem_toArray, List.getElem_cons_succ, List.getElem_cons_zero, Act.put, List.setIfInBounds_toArray, List.set_cons_zero, List.set_cons_succ]
  refine wpAnyH_ready (rs := [9]) (by kernel_rfl) (by simp) (AllReadyH.cons rfl (fun K hK => ?_) AllReadyH.nil)
  refine step_store_blk rfl 41 (.tmp 4) (.tmp 181) rfl hBb rfl rfl rfl (by kernel_rfl) rfl ?_
  intro w15 hB15 hc15
  have hS3 : (fun W : World => Blk W bx 41 #[.int .i64 c.now, .slice A' ln cp'] ∧ Blk W by_ 49 #[.int .i64 cn, .bool ac.2.1] ∧ Blk W bz 34 #[.int .i64 cn, .bool ac.2.1]) w15 := ⟨hS0.1.chg hc15 (by simpa using hb1), hS0.2.1.chg hc15 (by simpa using hb2), hS0.2.2.chg hc15 (by simpa using hb3)⟩
  refine hK.out _ _ (by with_reducible assumption) (fun _ => ?_)
  clear hK K
  try simp only [List.getElem_toArray, List.getElem_cons_succ, List.getElem_cons_zero, Act.put, List.setIfInBounds_toArray, List.set_cons_zero, List.set_cons_succ]
  refine wpAnyH_take (i := 10) (v := ?_) rfl (by kernel_rfl) (by kernel_rfl) (by kernel_rfl) (fun _ _ _ h => h) (yields_pure (by rfl) (fun w => ?_)) (by with_reducible assumption) ?_
  rotate_left
  · (go_simp <;> with_reducible rfl)
  try simp only [List.getElem_toArray, List.getElem_cons_succ, List.getElem_cons_zero, Act.put, List.setIfInBounds_toArray, List.set_cons_zero, List.set_cons_succ]
  refine wpAnyH_done (by kernel_rfl) ?_ _
  refine NoPanic.normal ?_
  go_wp2_with fail
  first | (refine And.intro (by first | rfl | simp) (Lib.hid ?_)) | (refine Lib.hid ?_)
  have hT := HT.out
  subst hln
  rw [← HNW.out] at hB15
  obtain ⟨S', hS'⟩ := HJ.out.step HH.out.1 HH.out.2 hT ((HA13.out.more (by simp)).trans hc15) hB15
  exact ⟨_, S', _, hS'⟩
end Go.Proofs.Ytgbdbeaflilmlaa
