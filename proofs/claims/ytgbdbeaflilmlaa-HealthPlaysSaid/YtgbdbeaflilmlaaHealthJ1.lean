/-
  WALK: HealthPlays, a backend more. Condition: as in the text before. (Printed by wip/tools/gen_j36.py.)
-/
import Derived.Test.YtgbdbeaflilmlaaHealthI
set_option linter.unusedVariables false
set_option linter.unusedSimpArgs false
namespace Go.Proofs.Ytgbdbeaflilmlaa
open Go.RowKit Go.Maps
/-- A block of a function's code. -/
def blkOf (n : Nat) : Code → Option Code
  | .block m c => if m = n then some (.block m c) else blkOf n c
  | .loop c => blkOf n c
  | .seq a b => match blkOf n a with
    | some c => some c
    | none => blkOf n b
  | .scope c => blkOf n c
  | .cond _ a b => match blkOf n a with
    | some c => some c
    | none => blkOf n b
  | _ => none
set_option maxRecDepth 1000000 in
set_option maxHeartbeats 4000000 in
theorem op_add {w wc : World} {cb b bo i : Nat} {c : CK} {Si : List Nat} {v : Value} {kd nd sd sq k7 : Int} (hJ : JP w wc cb i b c Si v) (hBo : Blk wc bo 43 #[.int .i64 kd, .int .i64 nd, .int .i64 sd]) (hi : i ≤ 150) (HW2 : Hid ((Lit.int .i64 nd).wf = true))
    (hbo : bo ∉ Si) (hbob : bo ≠ b) (hk : k7 = 0) {KX : Act → World → Prop} {QX : Exit → Act → World → Prop} {f0 f1 f2 f5 f8 f9 f10 f11 f12 f13 f14 f15 f16 f17 f18 f19 f20 f21 f22 f23 f24 f25 f26 f27 f28 f29 f30 f31 f32 f33 f34 f35 f36 f37 f38 f39 f40 f41 f42 f43 f44 f45 f46 f47 f48 f49 f50 f51 f52 f53 f54 f55 f56 f57 f58 f59 f60 f61 f62 f63 f64 f65 f66 f67 f69 f70 f71 f72 f73 f74 f75 f76 f77 f78 f79 f80 f81 f82 f83 f84 f85 f86 f87 f88 f89 f90 f91 f92 f93 f94 f95 f96 f97 f98 f99 f100 f101 f102 f103 f104 f105 f106 f107 f108 f109 f110 f111 f112 f113 f114 f115 f116 f117 f118 f119 f120 f121 f122 f123 f124 f125 f126 f127 f128 f129 f130 f131 f132 f133 f134 f135 f136 f137 f138 f139 f140 f141 f142 f143 f144 f145 f146 f147 f148 f149 f150 f151 f152 f153 f154 f155 f156 f157 f158 f159 f160 f161 f162 f163 f164 f165 f166 f167 f168 f169 f170 f171 f172 f173 f174 f175 f176 f177 f178 f179 f180 f181 f182 f183 f184 f185 f186 f187 f188 f189 f190 f191 f192 f193 f194 f195 f196 f197 f198 f199 f200 f201 f202 f203 f204 f205 f206 f207 f208 f209 f210 f211 f212 f213 f214 f215 f216 f217 f218 f219 f220 f221 f222 f223 f224 f225 f226 f227 f228 f229 f230 f231 f232 f233 f234 : Value}
    (hKX : ∀ (g9 g10 g11 g129 g130 g131 g132 g133 g134 g135 g136 g137 g138 g139 g140 g141 g142 g143 g144 : Value) (w' : World), (g9 = .bool true ∧ Hid (∃ c' S' v', JP w w' cb (i + 1) b c' S' v')) → KX ⟨#[f0, f1, f2, .pointer (some ⟨cb, 0, none⟩), .pointer (some ⟨b, 0, none⟩), f5, .pointer (some ⟨bo, 0, none⟩), .int .i64 sq, f8, g9, g10, g11, f12, f13, f14, f15, f16, f17, f18, f19, f20, f21, f22, f23, f24, f25, f26, f27, f28, f29, f30, f31, f32, f33, f34, f35, f36, f37, f38, f39, f40, f41, f42, f43, f44, f45, f46, f47, f48, f49, f50, f51, f52, f53, f54, f55, f56, f57, f58, f59, f60, f61, f62, f63, f64, f65, f66, f67, .int .i64 k7, f69, f70, f71, f72, f73, f74, f75, f76, f77, f78, f79, f80, f81, f82, f83, f84, f85, f86, f87, f88, f89, f90, f91, f92, f93, f94, f95, f96, f97, f98, f99, f100, f101, f102, f103, f104, f105, f106, f107, f108, f109, f110, f111, f112, f113, f114, f115, f116, f117, f118, f119, f120, f121, f122, f123, f124, f125, f126, f127, f128, g129, g130, g131, g132, g133, g134, g135, g136, g137, g138, g139, g140, g141, g142, g143, g144, f145, f146, f147, f148, f149, f150, f151, f152, f153, f154, f155, f156, f157, f158, f159, f160, f161, f162, f163, f164, f165, f166, f167, f168, f169, f170, f171, f172, f173, f174, f175, f176, f177, f178, f179, f180, f181, f182, f183, f184, f185, f186, f187, f188, f189, f190, f191, f192, f193, f194, f195, f196, f197, f198, f199, f200, f201, f202, f203, f204, f205, f206, f207, f208, f209, f210, f211, f212, f213, f214, f215, f216, f217, f218, f219, f220, f221, f222, f223, f224, f225, f226, f227, f228, f229, f230, f231, f232, f233, f234], []⟩ w') :
    Code.wp Try.prog ((Try.f4.body.bind (blkOf 2)).getD .skip) (Exit.then KX QX) ⟨#[f0, f1, f2, .pointer (some ⟨cb, 0, none⟩), .pointer (some ⟨b, 0, none⟩), f5, .pointer (some ⟨bo, 0, none⟩), .int .i64 sq, f8, f9, f10, f11, f12, f13, f14, f15, f16, f17, f18, f19, f20, f21, f22, f23, f24, f25, f26, f27, f28, f29, f30, f31, f32, f33, f34, f35, f36, f37, f38, f39, f40, f41, f42, f43, f44, f45, f46, f47, f48, f49, f50, f51, f52, f53, f54, f55, f56, f57, f58, f59, f60, f61, f62, f63, f64, f65, f66, f67, .int .i64 k7, f69, f70, f71, f72, f73, f74, f75, f76, f77, f78, f79, f80, f81, f82, f83, f84, f85, f86, f87, f88, f89, f90, f91, f92, f93, f94, f95, f96, f97, f98, f99, f100, f101, f102, f103, f104, f105, f106, f107, f108, f109, f110, f111, f112, f113, f114, f115, f116, f117, f118, f119, f120, f121, f122, f123, f124, f125, f126, f127, f128, f129, f130, f131, f132, f133, f134, f135, f136, f137, f138, f139, f140, f141, f142, f143, f144, f145, f146, f147, f148, f149, f150, f151, f152, f153, f154, f155, f156, f157, f158, f159, f160, f161, f162, f163, f164, f165, f166, f167, f168, f169, f170, f171, f172, f173, f174, f175, f176, f177, f178, f179, f180, f181, f182, f183, f184, f185, f186, f187, f188, f189, f190, f191, f192, f193, f194, f195, f196, f197, f198, f199, f200, f201, f202, f203, f204, f205, f206, f207, f208, f209, f210, f211, f212, f213, f214, f215, f216, f217, f218, f219, f220, f221, f222, f223, f224, f225, f226, f227, f228, f229, f230, f231, f232, f233, f234], []⟩ wc := by
  conv => arg 2; whnf
  subst hk
  have F1 := Lib.hid (radd_any hJ.row hJ.ck.ci (by omega) nd)
  have HA := Lib.hid (fun W (hc : Chg [] wc W) => hadd_any (hJ.ck.chg0 hc) (by omega) HW2.out)
  have hRB := Lib.hid hJ.blk.rangeQ
  have o1 : wc.cell? ⟨bo, 1, none⟩ = some (.int .i64 nd) := hBo.cell 1
  have HBO := Lib.hid (fun W (hc : Chg [] wc W) => (show W.cell? ⟨bo, 1, none⟩ = some (.int .i64 nd) from (hBo.chg hc (by simp)).cell 1))
  have HJ := Lib.hid hJ
  have hbl := hJ.blk.lt
  have hbol := hBo.lt
  have HSL := Lib.hid hJ.ck.lt
  clear hJ hBo
  generalize hac : addC c nd = ac at *
  go_upto_region 27 with (first
    | (refine wpList_row 41 (.tmp 4) rfl rfl b 0 rfl _ _ hRB.out Try.underlying41 rfl infRC ?_)
    | (go_at_call 18; refine F1.out.mono ?_; rintro e w10 ⟨v', rfl, hR⟩; obtain ⟨A', cp', hv'⟩ := Sl.form hR.row.sl; subst hv'; have hBx : Blk (w10.alloc (.cells #[.int .i64 0, .slice none 0 0] 41)) w10.heap.size 41 #[.int .i64 0, .slice none 0 0] := Blk.new _ _ _)
    | (refine wpList_store_blk rfl 41 _ _ rfl rfl hBx rfl rfl rfl (by kernel_rfl) rfl ?_; intro w11 hB11 hc11)
    | fail)
  have hA10 := ((Chg.refl [] w10).alloc (.cells #[.int .i64 0, .slice none 0 0] 41)).trans' hc11 (by intro y hy; simp at hy; subst hy; exact .inr (Nat.le_refl _))
  have hz10 := hR.chg.size
  have hcw := hR.chg.trans hA10
  generalize w10.heap.size = bx at *
  have hbb : b ≠ bx := by omega
  have hbob2 : bo ≠ bx := by omega
  have hbxS : bx ∉ Si := fun hm => by have := HSL.out _ hm; omega
  generalize hln : ac.1.l.length = ln at *
  have hS0 : (fun W : World => Blk W bx 41 #[.int .i64 ac.1.now, .slice A' ln cp'] ∧ W.cell? ⟨bo, 1, none⟩ = some (.int .i64 nd)) w11.drew := ⟨hB11.drew, HBO.out _ (hcw.drew)⟩
  have HS1 : ∀ W : World, (Blk W bx 41 #[.int .i64 ac.1.now, .slice A' ln cp'] ∧ W.cell? ⟨bo, 1, none⟩ = some (.int .i64 nd)) → W.rangeAt bx 0 (#[.int .i64 ac.1.now, .slice A' ln cp'] : Array Value).toList := fun W h => h.1.rangeQ
  have HS2 : ∀ W : World, (Blk W bx 41 #[.int .i64 ac.1.now, .slice A' ln cp'] ∧ W.cell? ⟨bo, 1, none⟩ = some (.int .i64 nd)) → W.cell? ⟨bo, 1, none⟩ = some (.int .i64 nd) := fun W h => h.2
  have FA := Lib.hid (HA.out w11.drew hcw.drew)
  have HBB := Lib.hid (HJ.out.blk.chg hcw (by simp)).drew
  have HH := Lib.hid (And.intro hR (hA10.drew))
  clear hBx hc11 hB11 hR hA10 HA o1 hRB F1 hcw HBO
  refine wp_region_noPanic ?_
  refine wp_region_held_drew (S := fun W : World => Blk W bx 41 #[.int .i64 ac.1.now, .slice A' ln cp'] ∧ W.cell? ⟨bo, 1, none⟩ = some (.int .i64 nd)) (by kernel_rfl) hS0 (fun _ => ?_)
  refine wpAnyH_take (i := 0) rfl (by kernel_rfl) (by kernel_rfl) (by kernel_rfl) (fun _ _ _ h => h) (yields_row (by rfl) 41 (.tmp 10) rfl bx 0 rfl (#[.int .i64 ac.1.now, .slice A' ln cp']) _ HS1 Try.underlying41 rfl infRC) (by with_reducible assumption) ?_
  try simp only [List.getElem_toArray, List.getElem_cons_succ, List.getElem_cons_zero, Act.put, List.setIfInBounds_toArray, List.set_cons_zero, List.set_cons_succ]
  refine wpAnyH_take (i := 1) (v := ?_) rfl (by kernel_rfl) (by kernel_rfl) (by kernel_rfl) (fun _ _ _ h => h) (yields_pure (by rfl) (fun w => ?_)) (by with_reducible assumption) ?_
  rotate_left
  · (go_simp <;> with_reducible rfl)
  try simp only [List.getElem_toArray, List.getElem_cons_succ, List.getElem_cons_zero, Act.put, List.setIfInBounds_toArray, List.set_cons_zero, List.set_cons_succ]
  refine wpAnyH_take (i := 2) (v := ?_) rfl (by kernel_rfl) (by kernel_rfl) (by kernel_rfl) (fun _ _ _ h => h) (yields_pure (by rfl) (fun w => ?_)) (by with_reducible assumption) ?_
  rotate_left
  · (go_simp <;> with_reducible rfl)
  try simp only [List.getElem_toArray, List.getElem_cons_succ, List.getElem_cons_zero, Act.put, List.setIfInBounds_toArray, List.set_cons_zero, List.set_cons_succ]
  refine wpAnyH_take (i := 3) rfl (by kernel_rfl) (by kernel_rfl) (by kernel_rfl) (fun _ _ _ h => h) (yields_cell (by rfl) 3 (.tmp 140) rfl bo 1 rfl (.int .i64 nd) _ HS2 Try.underlying3 rfl) (by with_reducible assumption) ?_
  try simp only [List.getElem_toArray, List.getElem_cons_succ, List.getElem_cons_zero, Act.put, List.setIfInBounds_toArray, List.set_cons_zero, List.set_cons_succ]
  refine wpAnyH_take (i := 5) (v := ?_) rfl (by kernel_rfl) (by kernel_rfl) (by kernel_rfl) (fun _ _ _ h => h) (yields_pure (by rfl) (fun w => ?_)) (by with_reducible assumption) ?_
  rotate_left
  · (go_simp <;> with_reducible rfl)
  try simp only [List.getElem_toArray, List.getElem_cons_succ, List.getElem_cons_zero, Act.put, List.setIfInBounds_toArray, List.set_cons_zero, List.set_cons_succ]
  refine wpAnyH_ready (rs := [4]) (by kernel_rfl) (by simp) (AllReadyH.cons rfl (fun K hK => ?_) AllReadyH.nil)
  go_simp
  refine FA.out.mono ?_
  rintro e w12 ⟨rfl, hT⟩
  have hT0 := hT
  obtain ⟨S2, _, hcT, _⟩ := hT0
  have hS2 : (fun W : World => Blk W bx 41 #[.int .i64 ac.1.now, .slice A' ln cp'] ∧ W.cell? ⟨bo, 1, none⟩ = some (.int .i64 nd)) w12 := ⟨hS0.1.chg hcT hbxS, hcT.cell (w := w11.drew) hS0.2 hbo⟩
  have hBb := HBB.out.chg hcT HJ.out.bS
  have HT := Lib.hid hT
  clear hT hcT
  refine hK.out _ _ (by with_reducible assumption) (fun _ => ?_)
  clear hK K
  try simp only [List.getElem_toArray, List.getElem_cons_succ, List.getElem_cons_zero, Act.put, List.setIfInBounds_toArray, List.set_cons_zero, List.set_cons_succ]
  refine wpAnyH_take (i := 6) (v := ?_) rfl (by kernel_rfl) (by kernel_rfl) (by kernel_rfl) (fun _ _ _ h => h) (yields_pure (by rfl) (fun w => ?_)) (by with_reducible assumption) ?_
  rotate_left
  · (go_simp <;> with_reducible rfl)
  try simp only [List.getElem_toArray, List.getElem_cons_succ, List.getElem_cons_zero, Act.put, List.setIfInBounds_toArray, List.set_cons_zero, List.set_cons_succ]
  refine wpAnyH_ready (rs := [7]) (by kernel_rfl) (by simp) (AllReadyH.cons rfl (fun K hK => ?_) AllReadyH.nil)
  refine step_store_blk rfl 41 (.tmp 4) (.tmp 138) rfl hBb rfl rfl rfl (by kernel_rfl) rfl ?_
  intro w13 hB13 hc13
  have hS3 : (fun W : World => Blk W bx 41 #[.int .i64 ac.1.now, .slice A' ln cp'] ∧ W.cell? ⟨bo, 1, none⟩ = some (.int .i64 nd)) w13 := ⟨hS2.1.chg hc13 (by simpa using hbb.symm), hc13.cell (w := w12) hS2.2 (by simpa using hbob)⟩
  refine hK.out _ _ (by with_reducible assumption) (fun _ => ?_)
  clear hK K
  try simp only [List.getElem_toArray, List.getElem_cons_succ, List.getElem_cons_zero, Act.put, List.setIfInBounds_toArray, List.set_cons_zero, List.set_cons_succ]
  refine wpAnyH_take (i := 8) (v := ?_) rfl (by kernel_rfl) (by kernel_rfl) (by kernel_rfl) (fun _ _ _ h => h) (yields_pure (by rfl) (fun w => ?_)) (by with_reducible assumption) ?_
  rotate_left
  · (go_simp <;> with_reducible rfl)
  try simp only [List.getElem_toArray, List.getElem_cons_succ, List.getElem_cons_zero, Act.put, List.setIfInBounds_toArray, List.set_cons_zero, List.set_cons_succ]
  refine wpAnyH_done (by kernel_rfl) ?_ _
  refine NoPanic.normal ?_
  go_wp2_with fail
  first | (refine And.intro (by first | rfl | simp) (Lib.hid ?_)) | (refine Lib.hid ?_)
  have hT := HT.out
  subst hln
  obtain ⟨S', hS'⟩ := HJ.out.step HH.out.1 HH.out.2 hT hc13 hB13
  exact ⟨_, S', _, hS'⟩
end Go.Proofs.Ytgbdbeaflilmlaa
