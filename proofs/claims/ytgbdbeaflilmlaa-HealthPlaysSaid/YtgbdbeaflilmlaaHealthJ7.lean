/-
  WALK: HealthPlays, a round behind the choice of a number. Condition: as in the text before. (Printed by wip/tools/gen_j36.py.)
-/
import Derived.Test.YtgbdbeaflilmlaaHealthJ6
set_option linter.unusedVariables false
set_option linter.unusedSimpArgs false
namespace Go.Proofs.Ytgbdbeaflilmlaa
open Go.RowKit Go.Maps
/-- Is it an 'if' on that slot? -/
def isIf (n : Nat) : Code → Bool
  | .seq _ (.cond (.tmp m) _ _) => m == n
  | _ => false
/-- What follows an 'if'. -/
def aftIf (n : Nat) : Code → Option Code
  | .block _ c => aftIf n c
  | .loop c => aftIf n c
  | .seq a b => if isIf n a then some b else match aftIf n a with
    | some c => some c
    | none => aftIf n b
  | .scope c => aftIf n c
  | .cond _ a b => match aftIf n a with
    | some c => some c
    | none => aftIf n b
  | _ => none
set_option maxRecDepth 1000000 in
set_option maxHeartbeats 4000000 in
theorem round12 {w wc : World} {cb b bo i : Nat} {c : CK} {Si : List Nat} {v : Value} {kd nd sd sq : Int} (hJ : JP w wc cb i b c Si v) (hBo : Blk wc bo 43 #[.int .i64 kd, .int .i64 nd, .int .i64 sd]) (hi : i ≤ 150) (HW2 : Hid ((Lit.int .i64 nd).wf = true))
    (hbo : bo ∉ Si) (hbob : bo ≠ b) {QX : Exit → Act → World → Prop} {f0 f1 f2 f5 f8 f9 f10 f11 f12 f13 f14 f15 f16 f17 f18 f19 f20 f21 f22 f23 f24 f25 f26 f27 f28 f29 f30 f31 f32 f33 f34 f35 f36 f37 f38 f39 f40 f41 f42 f43 f44 f45 f46 f47 f48 f49 f50 f51 f52 f53 f54 f55 f56 f57 f58 f59 f60 f61 f62 f63 f64 f65 f66 f67 f68 f69 f70 f71 f72 f73 f74 f75 f76 f77 f78 f79 f80 f81 f82 f83 f84 f85 f86 f87 f88 f89 f90 f91 f92 f93 f94 f95 f96 f97 f98 f99 f100 f101 f102 f103 f104 f105 f106 f107 f108 f109 f110 f111 f112 f113 f114 f115 f116 f117 f118 f119 f120 f121 f122 f123 f124 f125 f126 f127 f128 f129 f130 f131 f132 f133 f134 f135 f136 f137 f138 f139 f140 f141 f142 f143 f144 f145 f146 f147 f148 f149 f150 f151 f152 f153 f154 f155 f156 f157 f158 f159 f160 f161 f162 f163 f164 f165 f166 f167 f168 f169 f170 f171 f172 f173 f174 f175 f176 f177 f178 f179 f180 f181 f182 f183 f184 f185 f186 f187 f188 f189 f190 f191 f192 f193 f194 f195 f196 f197 f198 f199 f200 f201 f202 f203 f204 f205 f206 f207 f208 f209 f210 f211 f212 f213 f214 f215 f216 f217 f218 f219 f220 f221 f222 f223 f224 f225 f226 f227 f228 f229 f230 f231 f232 f233 f234 : Value}
    (hKX : ∀ (g2 g9 g10 g11 g12 g13 g14 g15 g16 g17 g18 g19 g20 g21 g22 g23 g24 g25 g26 g27 g66 g67 g68 g69 g70 g71 g72 g73 g74 g75 g76 g77 g78 g79 g80 g81 g82 g83 g84 g85 g86 g87 g88 g89 g90 g91 g92 g93 g94 g95 g96 g97 g98 g99 g100 g101 g102 g103 g104 g105 g106 g107 g108 g109 g110 g111 g112 g113 g114 g115 g116 g117 g118 g119 g120 g121 g122 g123 g124 g125 g126 g127 g128 g129 g130 g131 g132 g133 g134 g135 g136 g137 g138 g139 g140 g141 g142 g143 g144 g145 g146 g147 g148 g149 g150 g151 g152 g153 g154 g155 g156 g157 g158 g159 g160 g161 g162 g163 g164 g165 g166 g167 g168 g169 g170 g171 g172 g173 g174 g175 g176 g177 g178 g179 g180 g181 g182 g183 g184 g185 g186 g187 g188 g189 g190 g191 g192 g193 g194 g195 g196 g197 g198 g199 g200 g201 g202 g203 g204 g205 g206 g207 g208 g209 g210 g211 g212 g213 g214 g215 g216 g217 g218 g219 g220 g221 g222 g223 g224 g225 g226 g227 g228 g229 g230 g231 g232 g233 : Value) (w' : World), Hid (∃ c' S' v', JP w w' cb (i + 1) b c' S' v') → QX .normal ⟨#[f0, f1, g2, .pointer (some ⟨cb, 0, none⟩), .pointer (some ⟨b, 0, none⟩), f5, .pointer (some ⟨bo, 0, none⟩), .int .i64 sq, f8, g9, g10, g11, g12, g13, g14, g15, g16, g17, g18, g19, g20, g21, g22, g23, g24, g25, g26, g27, f28, f29, f30, f31, f32, f33, f34, f35, f36, f37, f38, f39, f40, f41, f42, f43, f44, f45, f46, f47, f48, f49, f50, f51, f52, f53, f54, f55, f56, f57, f58, f59, f60, f61, f62, f63, f64, f65, g66, g67, g68, g69, g70, g71, g72, g73, g74, g75, g76, g77, g78, g79, g80, g81, g82, g83, g84, g85, g86, g87, g88, g89, g90, g91, g92, g93, g94, g95, g96, g97, g98, g99, g100, g101, g102, g103, g104, g105, g106, g107, g108, g109, g110, g111, g112, g113, g114, g115, g116, g117, g118, g119, g120, g121, g122, g123, g124, g125, g126, g127, g128, g129, g130, g131, g132, g133, g134, g135, g136, g137, g138, g139, g140, g141, g142, g143, g144, g145, g146, g147, g148, g149, g150, g151, g152, g153, g154, g155, g156, g157, g158, g159, g160, g161, g162, g163, g164, g165, g166, g167, g168, g169, g170, g171, g172, g173, g174, g175, g176, g177, g178, g179, g180, g181, g182, g183, g184, g185, g186, g187, g188, g189, g190, g191, g192, g193, g194, g195, g196, g197, g198, g199, g200, g201, g202, g203, g204, g205, g206, g207, g208, g209, g210, g211, g212, g213, g214, g215, g216, g217, g218, g219, g220, g221, g222, g223, g224, g225, g226, g227, g228, g229, g230, g231, g232, g233, f234], []⟩ w') :
    Code.wp Try.prog ((Try.f4.body.bind (aftIf 59)).getD .skip) QX ⟨#[f0, f1, f2, .pointer (some ⟨cb, 0, none⟩), .pointer (some ⟨b, 0, none⟩), f5, .pointer (some ⟨bo, 0, none⟩), .int .i64 sq, f8, f9, f10, f11, f12, f13, f14, f15, f16, f17, f18, f19, f20, f21, f22, f23, f24, f25, f26, f27, f28, f29, f30, f31, f32, f33, f34, f35, f36, f37, f38, f39, f40, f41, f42, f43, f44, f45, f46, f47, f48, f49, f50, f51, f52, f53, f54, f55, f56, f57, f58, f59, f60, f61, f62, f63, f64, f65, f66, f67, f68, f69, f70, f71, f72, f73, f74, f75, f76, f77, f78, f79, f80, f81, f82, f83, f84, f85, f86, f87, f88, f89, f90, f91, f92, f93, f94, f95, f96, f97, f98, f99, f100, f101, f102, f103, f104, f105, f106, f107, f108, f109, f110, f111, f112, f113, f114, f115, f116, f117, f118, f119, f120, f121, f122, f123, f124, f125, f126, f127, f128, f129, f130, f131, f132, f133, f134, f135, f136, f137, f138, f139, f140, f141, f142, f143, f144, f145, f146, f147, f148, f149, f150, f151, f152, f153, f154, f155, f156, f157, f158, f159, f160, f161, f162, f163, f164, f165, f166, f167, f168, f169, f170, f171, f172, f173, f174, f175, f176, f177, f178, f179, f180, f181, f182, f183, f184, f185, f186, f187, f188, f189, f190, f191, f192, f193, f194, f195, f196, f197, f198, f199, f200, f201, f202, f203, f204, f205, f206, f207, f208, f209, f210, f211, f212, f213, f214, f215, f216, f217, f218, f219, f220, f221, f222, f223, f224, f225, f226, f227, f228, f229, f230, f231, f232, f233, f234], []⟩ wc := by
  conv => arg 2; whnf
  have j0 : wc.cell? ⟨bo, 0, none⟩ = some (.int .i64 kd) := hBo.cell 0
  go_upto_block 2 with fail
  rename_i K36 hK36
  generalize kd.tmod 7 = k7 at *
  clear j0
  replace hK36 : ∀ a w_1, Code.wp Try.prog ((Try.f4.body.bind (aftOf 2)).getD .skip) QX a w_1 → K36 a w_1 := hK36
  change Code.wp Try.prog ((Try.f4.body.bind (blkOf 2)).getD .skip) _ _ _
  by_cases h0 : k7 = 0
  · refine op_add hJ hBo (by omega) HW2 hbo hbob h0 ?_
    clear h0
    intros
    rename_i w' hh
    obtain ⟨rfl, hj'⟩ := hh
    obtain ⟨c2, S2, v2, hJ2⟩ := hj'.out
    have HJ2 := Lib.hid hJ2
    refine hK36 _ _ ?_
    refine op_tail hJ2 (by omega) ?_
    intros
    rename_i w'' hc'
    apply hKX
    exact Lib.hid ⟨c2, S2, v2, HJ2.out.chg0 hc'.out⟩
  by_cases h1 : k7 = 1
  · refine op_rem hJ hBo (by omega) HW2 hbo hbob h1 ?_
    clear h1
    intros
    rename_i w' hh
    obtain ⟨rfl, hj'⟩ := hh
    obtain ⟨c2, S2, v2, hJ2⟩ := hj'.out
    have HJ2 := Lib.hid hJ2
    refine hK36 _ _ ?_
    refine op_tail hJ2 (by omega) ?_
    intros
    rename_i w'' hc'
    apply hKX
    exact Lib.hid ⟨c2, S2, v2, HJ2.out.chg0 hc'.out⟩
  by_cases h2 : k7 = 2
  · refine op_ans2 hJ hBo (by omega) HW2 hbo hbob h2 ?_
    clear h2
    intros
    rename_i w' hh
    obtain ⟨rfl, hj'⟩ := hh
    obtain ⟨c2, S2, v2, hJ2⟩ := hj'.out
    have HJ2 := Lib.hid hJ2
    refine hK36 _ _ ?_
    refine op_tail hJ2 (by omega) ?_
    intros
    rename_i w'' hc'
    apply hKX
    exact Lib.hid ⟨c2, S2, v2, HJ2.out.chg0 hc'.out⟩
  by_cases h3 : k7 = 3
  · refine op_ans3 hJ hBo (by omega) HW2 hbo hbob h3 ?_
    clear h3
    intros
    rename_i w' hh
    obtain ⟨rfl, hj'⟩ := hh
    obtain ⟨c2, S2, v2, hJ2⟩ := hj'.out
    have HJ2 := Lib.hid hJ2
    refine hK36 _ _ ?_
    refine op_tail hJ2 (by omega) ?_
    intros
    rename_i w'' hc'
    apply hKX
    exact Lib.hid ⟨c2, S2, v2, HJ2.out.chg0 hc'.out⟩
  · refine op_tick hJ hBo (by omega) HW2 hbo hbob (by simpa using h0) (by simpa using h1) (by simpa using h2) (by simpa using h3) ?_
    clear h3
    intros
    rename_i w' hh
    obtain ⟨rfl, hj'⟩ := hh
    obtain ⟨c2, S2, v2, hJ2⟩ := hj'.out
    have HJ2 := Lib.hid hJ2
    refine hK36 _ _ ?_
    refine op_tail hJ2 (by omega) ?_
    intros
    rename_i w'' hc'
    apply hKX
    exact Lib.hid ⟨c2, S2, v2, HJ2.out.chg0 hc'.out⟩
end Go.Proofs.Ytgbdbeaflilmlaa
