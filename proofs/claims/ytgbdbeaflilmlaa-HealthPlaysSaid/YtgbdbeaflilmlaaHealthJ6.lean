/-
  WALK: HealthPlays, all backends asked for. Condition: as in the text before. (Printed by wip/tools/gen_j36.py.)
-/
import Derived.Test.YtgbdbeaflilmlaaHealthJ5
set_option linter.unusedVariables false
set_option linter.unusedSimpArgs false
namespace Go.Proofs.Ytgbdbeaflilmlaa
open Go.RowKit Go.Maps
/-- Does it end in block n? -/
def endsIn (n : Nat) : Code → Bool
  | .seq _ (.block m _) => m == n
  | _ => false
/-- What follows block n. -/
def aftOf (n : Nat) : Code → Option Code
  | .block _ c => aftOf n c
  | .loop c => aftOf n c
  | .seq a b => if endsIn n a then some b else match aftOf n a with
    | some c => some c
    | none => aftOf n b
  | .scope c => aftOf n c
  | .cond _ a b => match aftOf n a with
    | some c => some c
    | none => aftOf n b
  | _ => none
set_option maxRecDepth 1000000 in
set_option maxHeartbeats 4000000 in
theorem op_tail {w wc : World} {cb b i : Nat} {c : CK} {Si : List Nat} {v : Value} (hJ : JP w wc cb i b c Si v) (hi : i ≤ 160) {QX : Exit → Act → World → Prop} {f0 f1 f2 f5 f6 f7 f8 f10 f11 f12 f13 f14 f15 f16 f17 f18 f19 f20 f21 f22 f23 f24 f25 f26 f27 f28 f29 f30 f31 f32 f33 f34 f35 f36 f37 f38 f39 f40 f41 f42 f43 f44 f45 f46 f47 f48 f49 f50 f51 f52 f53 f54 f55 f56 f57 f58 f59 f60 f61 f62 f63 f64 f65 f66 f67 f68 f69 f70 f71 f72 f73 f74 f75 f76 f77 f78 f79 f80 f81 f82 f83 f84 f85 f86 f87 f88 f89 f90 f91 f92 f93 f94 f95 f96 f97 f98 f99 f100 f101 f102 f103 f104 f105 f106 f107 f108 f109 f110 f111 f112 f113 f114 f115 f116 f117 f118 f119 f120 f121 f122 f123 f124 f125 f126 f127 f128 f129 f130 f131 f132 f133 f134 f135 f136 f137 f138 f139 f140 f141 f142 f143 f144 f145 f146 f147 f148 f149 f150 f151 f152 f153 f154 f155 f156 f157 f158 f159 f160 f161 f162 f163 f164 f165 f166 f167 f168 f169 f170 f171 f172 f173 f174 f175 f176 f177 f178 f179 f180 f181 f182 f183 f184 f185 f186 f187 f188 f189 f190 f191 f192 f193 f194 f195 f196 f197 f198 f199 f200 f201 f202 f203 f204 f205 f206 f207 f208 f209 f210 f211 f212 f213 f214 f215 f216 f217 f218 f219 f220 f221 f222 f223 f224 f225 f226 f227 f228 f229 f230 f231 f232 f233 f234 : Value}
    (hKX : ∀ (g2 g26 g27 g190 g191 g192 g193 g194 g195 g196 g197 g198 g199 g200 g201 g202 g203 g204 g205 g206 g207 g208 g209 g210 g211 g212 g213 g214 g215 g216 g217 g218 g219 g220 g221 g222 g223 g224 g225 g226 g227 g228 g229 g230 g231 g232 g233 : Value) (w' : World), Hid (Chg [] wc w') → QX .normal ⟨#[f0, f1, g2, .pointer (some ⟨cb, 0, none⟩), .pointer (some ⟨b, 0, none⟩), f5, f6, f7, f8, .bool true, f10, f11, f12, f13, f14, f15, f16, f17, f18, f19, f20, f21, f22, f23, f24, f25, g26, g27, f28, f29, f30, f31, f32, f33, f34, f35, f36, f37, f38, f39, f40, f41, f42, f43, f44, f45, f46, f47, f48, f49, f50, f51, f52, f53, f54, f55, f56, f57, f58, f59, f60, f61, f62, f63, f64, f65, f66, f67, f68, f69, f70, f71, f72, f73, f74, f75, f76, f77, f78, f79, f80, f81, f82, f83, f84, f85, f86, f87, f88, f89, f90, f91, f92, f93, f94, f95, f96, f97, f98, f99, f100, f101, f102, f103, f104, f105, f106, f107, f108, f109, f110, f111, f112, f113, f114, f115, f116, f117, f118, f119, f120, f121, f122, f123, f124, f125, f126, f127, f128, f129, f130, f131, f132, f133, f134, f135, f136, f137, f138, f139, f140, f141, f142, f143, f144, f145, f146, f147, f148, f149, f150, f151, f152, f153, f154, f155, f156, f157, f158, f159, f160, f161, f162, f163, f164, f165, f166, f167, f168, f169, f170, f171, f172, f173, f174, f175, f176, f177, f178, f179, f180, f181, f182, f183, f184, f185, f186, f187, f188, f189, g190, g191, g192, g193, g194, g195, g196, g197, g198, g199, g200, g201, g202, g203, g204, g205, g206, g207, g208, g209, g210, g211, g212, g213, g214, g215, g216, g217, g218, g219, g220, g221, g222, g223, g224, g225, g226, g227, g228, g229, g230, g231, g232, g233, f234], []⟩ w') :
    Code.wp Try.prog ((Try.f4.body.bind (aftOf 2)).getD .skip) QX ⟨#[f0, f1, f2, .pointer (some ⟨cb, 0, none⟩), .pointer (some ⟨b, 0, none⟩), f5, f6, f7, f8, .bool true, f10, f11, f12, f13, f14, f15, f16, f17, f18, f19, f20, f21, f22, f23, f24, f25, f26, f27, f28, f29, f30, f31, f32, f33, f34, f35, f36, f37, f38, f39, f40, f41, f42, f43, f44, f45, f46, f47, f48, f49, f50, f51, f52, f53, f54, f55, f56, f57, f58, f59, f60, f61, f62, f63, f64, f65, f66, f67, f68, f69, f70, f71, f72, f73, f74, f75, f76, f77, f78, f79, f80, f81, f82, f83, f84, f85, f86, f87, f88, f89, f90, f91, f92, f93, f94, f95, f96, f97, f98, f99, f100, f101, f102, f103, f104, f105, f106, f107, f108, f109, f110, f111, f112, f113, f114, f115, f116, f117, f118, f119, f120, f121, f122, f123, f124, f125, f126, f127, f128, f129, f130, f131, f132, f133, f134, f135, f136, f137, f138, f139, f140, f141, f142, f143, f144, f145, f146, f147, f148, f149, f150, f151, f152, f153, f154, f155, f156, f157, f158, f159, f160, f161, f162, f163, f164, f165, f166, f167, f168, f169, f170, f171, f172, f173, f174, f175, f176, f177, f178, f179, f180, f181, f182, f183, f184, f185, f186, f187, f188, f189, f190, f191, f192, f193, f194, f195, f196, f197, f198, f199, f200, f201, f202, f203, f204, f205, f206, f207, f208, f209, f210, f211, f212, f213, f214, f215, f216, f217, f218, f219, f220, f221, f222, f223, f224, f225, f226, f227, f228, f229, f230, f231, f232, f233, f234], []⟩ wc := by
  conv => arg 2; whnf
  have F1 := Lib.hid (hnodes_any hJ.ck (by omega))
  obtain ⟨A', cp', hv'⟩ := hJ.vf
  subst hv'
  have HB := Lib.hid (fun W (hc : Chg [] wc W) => (show W.cell? ⟨b, 1, none⟩ = some (.slice A' c.l.length cp') from (hJ.blk.chg hc (by simp)).cell 1))
  have HRO := Lib.hid (fun W (hc : Chg [] wc W) j x (hx : c.l[j]? = some x) => SlR.one (hJ.row.sl.chg0 hc) rfl hx)
  have HUP := Lib.hid (fun W (hc : Chg [] wc W) n (hn : (Lit.int .i64 n).wf = true) => hup_any (hJ.ck.chg0 hc) (n := n) hn)
  have HUV : Hid (∀ (j : Nat) (x : BK), c.l[j]? = some x → upC c x.node = x.up ∧ (Lit.int .i64 x.node).wf = true) := Lib.hid fun j x hx => by
    have hm := List.mem_of_getElem? hx
    refine ⟨?_, ?_⟩
    · unfold upC
      rw [getC_of hJ.ck.ci.srt hm rfl]
    · have := hJ.ck.ci.ok x hm
      exact wf_i64 (by omega) (by omega)
  have HEX : Hid (∀ j, j < c.l.length → ∃ x, c.l[j]? = some x) := Lib.hid fun j hj => ⟨_, List.getElem?_eq_getElem hj⟩
  have HNM : Hid (∀ (j : Nat) (x : BK), c.l[j]? = some x → ((nodesC c.l).map (Value.int .i64))[j]? = some (Value.int .i64 x.node)) := Lib.hid fun j x hx => by simp [nodesC, hx]
  have hle := hJ.ck.ci.len
  clear hJ
  generalize hN : c.l.length = N at *
  go_upto_region 37 with (first
    | (go_at_call 23; refine F1.out.mono ?_; rintro e w1 ⟨v26, rfl, h26, hc1⟩; obtain ⟨A6, cp6, hv6⟩ := Sl.form (Sl.of_own h26); subst hv6; have k1 := HB.out w1 hc1)
    | fail)
  have H26 := Lib.hid (fun W (hc : Chg [] w1 W) (j : Nat) (x : BK) (hx : c.l[j]? = some x) (hj : j < N) => (show ∃ bb oo, A6 = some ⟨bb, oo, none⟩ ∧ W.cell? ⟨bb, oo + j, none⟩ = some (.int .i64 x.node) from by
    obtain ⟨bb, oo, cc, hv, _, _, hx'⟩ := Sl.at_ ((Sl.of_own h26).chg0 hc) (k := j) hj (by omega)
    simp only [Value.slice.injEq] at hv
    obtain ⟨rfl, _, _⟩ := hv
    refine ⟨bb, oo, rfl, ?_⟩
    have := hx' 0 (by omega)
    simp only [Nat.mul_one, Nat.add_zero] at this
    rw [this]; exact HNM.out j x hx))
  clear h26 F1
  go_wp2_with fail
  go_loopw [27] (fun iv wr => ∃ k : Nat, k ≤ N ∧ iv = .int .i64 k ∧ Chg [] w1 wr) (fun iv _ => N - (intOf iv).toNat)
  case atStart => exact ⟨0, by omega, rfl, Chg.refl _ _⟩
  case round =>
    obtain ⟨k, hk, rfl, hcw⟩ := hrel
    by_cases hlt : k < N
    · obtain ⟨x, hx⟩ := HEX.out k hlt
      obtain ⟨bb, oo, rfl, _⟩ := H26.out wr hcw k x hx hlt
      obtain ⟨b7, o7, rfl, _⟩ := HRO.out wr (hc1.trans hcw) k x hx
      obtain ⟨hu, hwf⟩ := HUV.out k x hx
      have HL1 : Hid (∀ W, Chg [] wr W → W.cell? ⟨bb, oo + k, none⟩ = some (.int .i64 x.node)) := Lib.hid fun W hc => by
        obtain ⟨g, o, e, h⟩ := H26.out W (hcw.trans hc) k x hx hlt
        simp only [Option.some.injEq, Addr.mk.injEq, and_true] at e
        obtain ⟨rfl, rfl⟩ := e
        exact h
      have HL2 : Hid (∀ W, Chg [] wr W → W.cell? ⟨b, 1, none⟩ = some (.slice (some ⟨b7, o7, none⟩) N cp')) := Lib.hid fun W hc => HB.out W ((hc1.trans hcw).trans hc)
      have HL3 : Hid (∀ W, Chg [] wr W → W.cell? ⟨b7, o7 + k * 7, none⟩ = some (.int .i64 x.node) ∧ W.cell? ⟨b7, o7 + k * 7 + 1, none⟩ = some (.bool x.up)) := Lib.hid fun W hc => by
        obtain ⟨g, o, e, h⟩ := HRO.out W ((hc1.trans hcw).trans hc) k x hx
        simp only [Option.some.injEq, Addr.mk.injEq, and_true] at e
        obtain ⟨rfl, rfl⟩ := e
        exact ⟨h 0 _ rfl, h 1 _ rfl⟩
      have HL4 := Lib.hid (fun W hc => (HL3.out W hc).1)
      have HL5 := Lib.hid (fun W hc => (HL3.out W hc).2)
      have HC := Lib.hid (fun W (hc : Chg [] wr W) => (HUP.out W ((hc1.trans hcw).trans hc) x.node hwf).mono (fun e w' h => And.intro h.1 (h.2 ▸ hc)))
      rw [hu] at HC
      have hkI : (k : Int) < (N : Int) := by omega
      clear H26 HRO HUV HEX HNM HB HUP HL3 hx hu hwf
      go_upto_region 42 with fail
      refine wp_region_chg (by kernel_rfl) (by kernel_rfl) ?_
      repeat (first
        | ((with_reducible refine wpQuiet_cellC 3 (.tmp 210) ?_ ?_ bb _ ?_ (.int .i64 x.node) _ HL1.out Try.underlying3 ?_ ?_); (focus rfl); (focus rfl); (focus rfl); (focus rfl); (try simp only [List.getElem_toArray, List.getElem_cons_succ, List.getElem_cons_zero, Act.put, List.setIfInBounds_toArray, List.set_cons_zero, List.set_cons_succ]))
        | ((with_reducible refine wpQuiet_cellC 39 (.tmp 212) ?_ ?_ b 1 ?_ (.slice (some ⟨b7, o7, none⟩) N cp') _ HL2.out Try.underlying39 ?_ ?_); (focus rfl); (focus rfl); (focus rfl); (focus rfl); (try simp only [List.getElem_toArray, List.getElem_cons_succ, List.getElem_cons_zero, Act.put, List.setIfInBounds_toArray, List.set_cons_zero, List.set_cons_succ]))
        | ((with_reducible refine wpQuiet_cellC 3 (.tmp 216) ?_ ?_ b7 _ ?_ (.int .i64 x.node) _ HL4.out Try.underlying3 ?_ ?_); (focus rfl); (focus rfl); (focus rfl); (focus rfl); (try simp only [List.getElem_toArray, List.getElem_cons_succ, List.getElem_cons_zero, Act.put, List.setIfInBounds_toArray, List.set_cons_zero, List.set_cons_succ]))
        | ((with_reducible refine wpQuiet_cellC 3 (.tmp 223) ?_ ?_ bb _ ?_ (.int .i64 x.node) _ HL1.out Try.underlying3 ?_ ?_); (focus rfl); (focus rfl); (focus rfl); (focus rfl); (try simp only [List.getElem_toArray, List.getElem_cons_succ, List.getElem_cons_zero, Act.put, List.setIfInBounds_toArray, List.set_cons_zero, List.set_cons_succ]))
        | ((with_reducible refine wpQuiet_cellC 39 (.tmp 226) ?_ ?_ b 1 ?_ (.slice (some ⟨b7, o7, none⟩) N cp') _ HL2.out Try.underlying39 ?_ ?_); (focus rfl); (focus rfl); (focus rfl); (focus rfl); (try simp only [List.getElem_toArray, List.getElem_cons_succ, List.getElem_cons_zero, Act.put, List.setIfInBounds_toArray, List.set_cons_zero, List.set_cons_succ]))
        | ((with_reducible refine wpQuiet_cellC 4 (.tmp 230) ?_ ?_ b7 _ ?_ (.bool x.up) _ HL5.out Try.underlying4 ?_ ?_); (focus rfl); (focus rfl); (focus rfl); (focus rfl); (try simp only [List.getElem_toArray, List.getElem_cons_succ, List.getElem_cons_zero, Act.put, List.setIfInBounds_toArray, List.set_cons_zero, List.set_cons_succ]))
        | ((with_reducible refine wpQuiet_pure (v := ?_) ?_ (fun w => ?_) ?_); rotate_left; (focus rfl); (focus (go_simp <;> with_reducible rfl)); (try simp only [List.getElem_toArray, List.getElem_cons_succ, List.getElem_cons_zero, Act.put, List.setIfInBounds_toArray, List.set_cons_zero, List.set_cons_succ]))
        | ((with_reducible refine wpQuiet_do ?_ (fun K hK => ?_)); (focus rfl); go_simp; (apply Exists.intro); (refine ⟨fun W hW => ?_, hK _ ?_⟩); (first | exact HC.out W hW); (clear hK K); (try simp only [List.getElem_toArray, List.getElem_cons_succ, List.getElem_cons_zero, Act.put, List.setIfInBounds_toArray, List.set_cons_zero, List.set_cons_succ])))
      refine wpQuiet_nil ?_
      intro w7 hc7
      have hfin := hcw.trans hc7
      clear HL1 HL2 HL4 HL5 HC hcw hc7
      go_wp2_with fail
      go_roundw
      case rel => exact ⟨k + 1, by omega, by go_num, hfin⟩
      case measure => simp [intOf]; omega
    · obtain rfl : k = N := by omega
      have HZ := Lib.hid (hc1.trans hcw)
      clear H26 HRO HUV HEX HNM HB HUP hcw
      go_wp2_with fail
      all_goals first | exact HZ | (apply hKX; exact HZ)
end Go.Proofs.Ytgbdbeaflilmlaa
