/-
  WALK: HealthPlays, a tick. Condition: as in the text before. (Printed by wip/tools/gen_j36.py.)
-/
import Derived.Test.YtgbdbeaflilmlaaHealthJ4
set_option linter.unusedVariables false
set_option linter.unusedSimpArgs false
namespace Go.Proofs.Ytgbdbeaflilmlaa
open Go.RowKit Go.Maps
theorem infPr36 {a s : Int} : (Try.prog.info? 56).map (·.size) = some (#[Value.int .i64 a, .int .i64 s] : Array Value).size := by
  show _ = some 2
  kernel_rfl
set_option maxRecDepth 1000000 in
set_option maxHeartbeats 4000000 in
theorem op_tick {w wc : World} {cb b bo i : Nat} {c : CK} {Si : List Nat} {v : Value} {kd nd sd sq k7 : Int} (hJ : JP w wc cb i b c Si v) (hBo : Blk wc bo 43 #[.int .i64 kd, .int .i64 nd, .int .i64 sd]) (hi : i ≤ 150) (HW2 : Hid ((Lit.int .i64 nd).wf = true))
    (hbo : bo ∉ Si) (hbob : bo ≠ b) (h0 : (k7 == 0) = false) (h1 : (k7 == 1) = false) (h2 : (k7 == 2) = false) (h3 : (k7 == 3) = false) {KX : Act → World → Prop} {QX : Exit → Act → World → Prop} {f0 f1 f2 f5 f8 f9 f10 f11 f12 f13 f14 f15 f16 f17 f18 f19 f20 f21 f22 f23 f24 f25 f26 f27 f28 f29 f30 f31 f32 f33 f34 f35 f36 f37 f38 f39 f40 f41 f42 f43 f44 f45 f46 f47 f48 f49 f50 f51 f52 f53 f54 f55 f56 f57 f58 f59 f60 f61 f62 f63 f64 f65 f66 f67 f69 f70 f71 f72 f73 f74 f75 f76 f77 f78 f79 f80 f81 f82 f83 f84 f85 f86 f87 f88 f89 f90 f91 f92 f93 f94 f95 f96 f97 f98 f99 f100 f101 f102 f103 f104 f105 f106 f107 f108 f109 f110 f111 f112 f113 f114 f115 f116 f117 f118 f119 f120 f121 f122 f123 f124 f125 f126 f127 f128 f129 f130 f131 f132 f133 f134 f135 f136 f137 f138 f139 f140 f141 f142 f143 f144 f145 f146 f147 f148 f149 f150 f151 f152 f153 f154 f155 f156 f157 f158 f159 f160 f161 f162 f163 f164 f165 f166 f167 f168 f169 f170 f171 f172 f173 f174 f175 f176 f177 f178 f179 f180 f181 f182 f183 f184 f185 f186 f187 f188 f189 f190 f191 f192 f193 f194 f195 f196 f197 f198 f199 f200 f201 f202 f203 f204 f205 f206 f207 f208 f209 f210 f211 f212 f213 f214 f215 f216 f217 f218 f219 f220 f221 f222 f223 f224 f225 f226 f227 f228 f229 f230 f231 f232 f233 f234 : Value}
    (hKX : ∀ (g9 g19 g20 g21 g22 g23 g24 g25 g69 g70 g71 g72 g73 g74 g75 g76 g77 g78 g79 g80 g81 g82 g83 g84 g85 g86 g87 g88 g89 g90 g91 g92 g93 g94 g95 g96 g97 g98 g99 g100 g101 g102 g103 g104 g105 g106 g107 g108 g109 g110 g111 g112 g113 g114 g115 g116 g117 g118 g119 g120 g121 g122 g123 g124 g125 g126 g127 g128 g129 g130 g145 g146 g161 g162 g163 : Value) (w' : World), (g9 = .bool true ∧ Hid (∃ c' S' v', JP w w' cb (i + 1) b c' S' v')) → KX ⟨#[f0, f1, f2, .pointer (some ⟨cb, 0, none⟩), .pointer (some ⟨b, 0, none⟩), f5, .pointer (some ⟨bo, 0, none⟩), .int .i64 sq, f8, g9, f10, f11, f12, f13, f14, f15, f16, f17, f18, g19, g20, g21, g22, g23, g24, g25, f26, f27, f28, f29, f30, f31, f32, f33, f34, f35, f36, f37, f38, f39, f40, f41, f42, f43, f44, f45, f46, f47, f48, f49, f50, f51, f52, f53, f54, f55, f56, f57, f58, f59, f60, f61, f62, f63, f64, f65, f66, f67, .int .i64 k7, g69, g70, g71, g72, g73, g74, g75, g76, g77, g78, g79, g80, g81, g82, g83, g84, g85, g86, g87, g88, g89, g90, g91, g92, g93, g94, g95, g96, g97, g98, g99, g100, g101, g102, g103, g104, g105, g106, g107, g108, g109, g110, g111, g112, g113, g114, g115, g116, g117, g118, g119, g120, g121, g122, g123, g124, g125, g126, g127, g128, g129, g130, f131, f132, f133, f134, f135, f136, f137, f138, f139, f140, f141, f142, f143, f144, g145, g146, f147, f148, f149, f150, f151, f152, f153, f154, f155, f156, f157, f158, f159, f160, g161, g162, g163, f164, f165, f166, f167, f168, f169, f170, f171, f172, f173, f174, f175, f176, f177, f178, f179, f180, f181, f182, f183, f184, f185, f186, f187, f188, f189, f190, f191, f192, f193, f194, f195, f196, f197, f198, f199, f200, f201, f202, f203, f204, f205, f206, f207, f208, f209, f210, f211, f212, f213, f214, f215, f216, f217, f218, f219, f220, f221, f222, f223, f224, f225, f226, f227, f228, f229, f230, f231, f232, f233, f234], []⟩ w') :
    Code.wp Try.prog ((Try.f4.body.bind (blkOf 2)).getD .skip) (Exit.then KX QX) ⟨#[f0, f1, f2, .pointer (some ⟨cb, 0, none⟩), .pointer (some ⟨b, 0, none⟩), f5, .pointer (some ⟨bo, 0, none⟩), .int .i64 sq, f8, f9, f10, f11, f12, f13, f14, f15, f16, f17, f18, f19, f20, f21, f22, f23, f24, f25, f26, f27, f28, f29, f30, f31, f32, f33, f34, f35, f36, f37, f38, f39, f40, f41, f42, f43, f44, f45, f46, f47, f48, f49, f50, f51, f52, f53, f54, f55, f56, f57, f58, f59, f60, f61, f62, f63, f64, f65, f66, f67, .int .i64 k7, f69, f70, f71, f72, f73, f74, f75, f76, f77, f78, f79, f80, f81, f82, f83, f84, f85, f86, f87, f88, f89, f90, f91, f92, f93, f94, f95, f96, f97, f98, f99, f100, f101, f102, f103, f104, f105, f106, f107, f108, f109, f110, f111, f112, f113, f114, f115, f116, f117, f118, f119, f120, f121, f122, f123, f124, f125, f126, f127, f128, f129, f130, f131, f132, f133, f134, f135, f136, f137, f138, f139, f140, f141, f142, f143, f144, f145, f146, f147, f148, f149, f150, f151, f152, f153, f154, f155, f156, f157, f158, f159, f160, f161, f162, f163, f164, f165, f166, f167, f168, f169, f170, f171, f172, f173, f174, f175, f176, f177, f178, f179, f180, f181, f182, f183, f184, f185, f186, f187, f188, f189, f190, f191, f192, f193, f194, f195, f196, f197, f198, f199, f200, f201, f202, f203, f204, f205, f206, f207, f208, f209, f210, f211, f212, f213, f214, f215, f216, f217, f218, f219, f220, f221, f222, f223, f224, f225, f226, f227, f228, f229, f230, f231, f232, f233, f234], []⟩ wc := by
  conv => arg 2; whnf
  have F1 := Lib.hid (rtick_any hJ.row hJ.ck.ci (by omega))
  have HA := Lib.hid (fun W (hc : Chg [] wc W) => htick_any (hJ.ck.chg0 hc) (by omega))
  have hRB := Lib.hid hJ.blk.rangeQ
  have HJ := Lib.hid hJ
  have hbl := hJ.blk.lt
  have HSL := Lib.hid hJ.ck.lt
  have hpl : (probesC c).length ≤ 300 := by have h8 := prL_len (c.now + 1) c.l; have h9 := hJ.ck.ci.len; have e : probesC c = prL (c.now + 1) c.l := rfl; rw [e]; omega
  have hdl : (downsC c).length ≤ 300 := by have h8 := dnL_len (c.now + 1) c.l; have h9 := hJ.ck.ci.len; have e : downsC c = dnL (c.now + 1) c.l := rfl; rw [e]; omega
  have HTN : Hid ((tickC c).now = c.now + 1) := Lib.hid rfl
  clear hJ hBo
  unfold TRPost TickTo at *
  generalize tickC c = c' at *
  generalize hpr : probesC c = pr at *
  generalize hdn : downsC c = dn at *
  clear hpr hdn
  go_upto_region 15 with (first
    | (refine wpList_row 41 (.tmp 4) rfl rfl b 0 rfl _ _ hRB.out Try.underlying41 rfl infRC ?_)
    | (go_at_call 22; refine F1.out.mono ?_; rintro e w10 ⟨v', pv, xv, rfl, hR, hp, hx⟩; obtain ⟨A', cp', hv'⟩ := Sl.form hR.row.sl; subst hv'; obtain ⟨Ap, cpp, hpf⟩ := Sl.form (Sl.of_own hp); subst hpf; obtain ⟨Ax, cpx, hxf⟩ := Sl.form (Sl.of_own hx); subst hxf; have hBx : Blk (w10.alloc (.cells #[.int .i64 0, .slice none 0 0] 41)) w10.heap.size 41 #[.int .i64 0, .slice none 0 0] := Blk.new _ _ _)
    | (refine wpList_store_blk rfl 41 _ _ rfl rfl hBx rfl rfl rfl (by kernel_rfl) rfl ?_; intro w11 hB11 hc11)
    | fail)
  have hA10 := ((Chg.refl [] w10).alloc (.cells #[.int .i64 0, .slice none 0 0] 41)).trans' hc11 (by intro y hy; simp at hy; subst hy; exact .inr (Nat.le_refl _))
  have hz10 := hR.chg.size
  have hcw := hR.chg.trans hA10
  generalize w10.heap.size = bx at *
  have hbb : b ≠ bx := by omega
  have hbxS : bx ∉ Si := fun hm => by have := HSL.out _ hm; omega
  generalize hln : c'.l.length = ln at *
  have FA := Lib.hid (HA.out w11 hcw)
  have HBB := Lib.hid (HJ.out.blk.chg hcw (by simp))
  have HH := Lib.hid (And.intro hR hA10)
  have hp1 := own_chg hp hA10 (by simp)
  have hx1 := own_chg hx hA10 (by simp)
  clear hBx hc11 hR hA10 HA hRB F1 hp hx
  go_wp2_with fail
  refine FA.out.mono ?_
  rintro e w12 ⟨pv2, xv2, rfl, S', hT1, hT2, hT3, hp2, hx2, _, _⟩
  have hT : CkTo w w11 cb (i + 1) c' Si w12 := ⟨S', hT1, hT2, hT3⟩
  have hpS : ∀ {v : Value} {n size : Nat} {e : TypeId} {xs : List Value}, w11.ownsRow wc.heap.size e size v n xs → w12.ownsRow wc.heap.size e size v n xs := fun h => own_chg h hT2 (fun x hx hm => by have h1 := (own_lt h x hx).1; have h2 := HSL.out _ hm; omega)
  have hp12 := hpS hp1
  have hx12 := hpS hx1
  have hB12 := hB11.chg hT2 hbxS
  have hR12 := Lib.hid hB12.rangeQ
  have hBb := HBB.out.chg hT2 HJ.out.bS
  obtain ⟨Ap2, cpp2, rfl⟩ := Sl.form (Sl.of_own hp2)
  obtain ⟨Ax2, cpx2, rfl⟩ := Sl.form (Sl.of_own hx2)
  have hz11 := hcw.size
  have HT := Lib.hid hT
  have HPX := Lib.hid (And.intro hp12 (And.intro hx12 (And.intro hp2 hx2)))
  clear FA hT hT1 hT2 hT3 hp1 hx1 hp12 hx12 hp2 hx2 hB12 hB11 hpS HBB hcw
  have HEN : Hid (∀ j, j < pr.length → ∃ x, pr[j]? = some x) := Lib.hid fun j hj => ⟨_, List.getElem?_eq_getElem hj⟩
  have HED : Hid (∀ j, j < dn.length → ∃ x, dn[j]? = some x) := Lib.hid fun j hj => ⟨_, List.getElem?_eq_getElem hj⟩
  have HCP := Lib.hid (fun (W : World) (B : Nat) (A : Option Addr) (cc : Nat) (ty : TypeId) (h : W.ownsRow B ty 2 (.slice A pr.length cc) pr.length (pr.flatMap encPr)) j x (hx : pr[j]? = some x) => own_rec encPr_len (by omega) h hx)
  have HCD := Lib.hid (fun (W : World) (B : Nat) (A : Option Addr) (cc : Nat) (ty : TypeId) (h : W.ownsRow B ty 2 (.slice A dn.length cc) dn.length (dn.flatMap encDn)) j x (hx : dn[j]? = some x) => own_rec encDn_len (by omega) h hx)
  generalize hnp : pr.length = np at *
  generalize hnd : dn.length = ndn at *
  go_upto_region 17 with (first
    | (refine wpList_row 41 (.tmp 19) rfl rfl bx 0 rfl _ _ hR12.out Try.underlying41 rfl infRC ?_)
    | (refine wpList_store_blk rfl 41 _ _ rfl rfl hBb rfl rfl rfl (by kernel_rfl) rfl ?_; intro w13 hB13 hc13)
    | fail)
  have HFIN : Hid (∃ S' v', JP w w13 cb (i + 1) b c' S' v') := Lib.hid (by
    subst hln
    rw [← HTN.out] at hB13
    obtain ⟨S', hS'⟩ := HJ.out.step HH.out.1 HH.out.2 HT.out hc13 hB13
    exact ⟨S', _, hS'⟩)
  have HP13 : Hid (∀ W, Chg [] w13 W → W.ownsRow wc.heap.size 56 2 (.slice Ap np cpp) np (pr.flatMap encPr) ∧ W.ownsRow wc.heap.size 49 2 (.slice Ax ndn cpx) ndn (dn.flatMap encDn) ∧
      W.ownsRow w11.heap.size 32 2 (.slice Ap2 np cpp2) np (pr.flatMap encPr) ∧ W.ownsRow w11.heap.size 34 2 (.slice Ax2 ndn cpx2) ndn (dn.flatMap encDn)) := Lib.hid fun W hc => by
    obtain ⟨a1, a2, a3, a4⟩ := HPX.out
    have key : ∀ {B : Nat} {v : Value} {n size : Nat} {e : TypeId} {xs : List Value}, wc.heap.size ≤ B → w12.ownsRow B e size v n xs → W.ownsRow B e size v n xs := fun hB h => own_chg (own_chg h hc13 (fun x hx hm => by have h1 := (own_lt h x hx).1; simp at hm; omega)) hc (by simp)
    exact ⟨key (Nat.le_refl _) a1, key (Nat.le_refl _) a2, key hz11 a3, key hz11 a4⟩
  clear HPX HT HH HJ HTN hB13 hc13 hBb hR12
  go_wp2_with fail
  go_loopw [9, 24] (fun ok iv wr => ∃ k : Nat, k ≤ np ∧ iv = .int .i64 k ∧ ok = .bool true ∧ Chg [] w13 wr) (fun _ iv _ => np - (intOf iv).toNat)
  case atStart => exact ⟨0, by omega, rfl, by simp, Chg.refl _ _⟩
  case round =>
    obtain ⟨k, hk, rfl, rfl, hcw⟩ := hrel
    by_cases hlt : k < np
    · obtain ⟨x, hx⟩ := HEN.out k hlt
      obtain ⟨g1, cc1, e1, _⟩ := HCP.out _ _ _ _ _ (HP13.out wr hcw).1 k x hx
      obtain ⟨g2, cc2, e2, _⟩ := HCP.out _ _ _ _ _ (HP13.out wr hcw).2.2.1 k x hx
      simp only [Value.slice.injEq, true_and] at e1 e2
      obtain ⟨rfl, rfl⟩ := e1
      obtain ⟨rfl, rfl⟩ := e2
      have HL1 : Hid (∀ W, Chg [] wr W → W.rangeAt g1 (k * 2) (#[.int .i64 x.1, .int .i64 x.2] : Array Value).toList) := Lib.hid fun W hc => by
        obtain ⟨g, cc, e, h⟩ := HCP.out _ _ _ _ _ (HP13.out W (hcw.trans hc)).1 k x hx
        simp only [Value.slice.injEq, true_and, Option.some.injEq, Addr.mk.injEq, and_true] at e
        obtain ⟨rfl, _⟩ := e
        exact h
      have HL2 : Hid (∀ W, Chg [] wr W → W.rangeAt g2 (k * 2) (#[.int .i64 x.1, .int .i64 x.2] : Array Value).toList) := Lib.hid fun W hc => by
        obtain ⟨g, cc, e, h⟩ := HCP.out _ _ _ _ _ (HP13.out W (hcw.trans hc)).2.2.1 k x hx
        simp only [Value.slice.injEq, true_and, Option.some.injEq, Addr.mk.injEq, and_true] at e
        obtain ⟨rfl, _⟩ := e
        exact h
      have hkI : (k : Int) < (np : Int) := by omega
      clear HCP HCD HEN HED HP13 HFIN hx
      go_upto_region 20 with fail
      refine wp_region_chg (by kernel_rfl) (by kernel_rfl) ?_
      repeat (first
        | ((with_reducible refine wpQuiet_rowC 32 (.tmp 104) ?_ ?_ g2 _ ?_ (#[.int .i64 x.1, .int .i64 x.2]) _ HL2.out Try.underlying32 ?_ infPr ?_); (focus rfl); (focus rfl); (focus rfl); (focus rfl); (try simp only [List.getElem_toArray, List.getElem_cons_succ, List.getElem_cons_zero, Act.put, List.setIfInBounds_toArray, List.set_cons_zero, List.set_cons_succ]))
        | ((with_reducible refine wpQuiet_rowC 56 (.tmp 108) ?_ ?_ g1 _ ?_ (#[.int .i64 x.1, .int .i64 x.2]) _ HL1.out Try.underlying56 ?_ infPr36 ?_); (focus rfl); (focus rfl); (focus rfl); (focus rfl); (try simp only [List.getElem_toArray, List.getElem_cons_succ, List.getElem_cons_zero, Act.put, List.setIfInBounds_toArray, List.set_cons_zero, List.set_cons_succ]))
        | ((with_reducible refine wpQuiet_pure (v := ?_) ?_ (fun w => ?_) ?_); rotate_left; (focus rfl); (focus (go_simp <;> with_reducible rfl)); (try simp only [List.getElem_toArray, List.getElem_cons_succ, List.getElem_cons_zero, Act.put, List.setIfInBounds_toArray, List.set_cons_zero, List.set_cons_succ])))
      refine wpQuiet_nil ?_
      intro w7 hc7
      have hfin := hcw.trans hc7
      clear HL1 HL2 hcw hc7
      go_wp2_with fail
      go_roundw
      case rel => exact ⟨k + 1, by omega, by go_num, by simp, hfin⟩
      case measure => simp [intOf]; omega
    · obtain rfl : k = np := by omega
      have hcw2 := hcw
      clear HEN HCP
      go_wp2_with fail
      go_loopw [9, 25] (fun ok iv wr => ∃ m : Nat, m ≤ ndn ∧ iv = .int .i64 m ∧ ok = .bool true ∧ Chg [] w13 wr) (fun _ iv _ => ndn - (intOf iv).toNat)
      case atStart => exact ⟨0, by omega, rfl, by simp, hcw2⟩
      case round =>
        obtain ⟨m, hm, rfl, rfl, hcw⟩ := hrel
        by_cases hlt : m < ndn
        · obtain ⟨x, hx⟩ := HED.out m hlt
          obtain ⟨g1, cc1, e1, _⟩ := HCD.out _ _ _ _ _ (HP13.out _ hcw).2.1 m x hx
          obtain ⟨g2, cc2, e2, _⟩ := HCD.out _ _ _ _ _ (HP13.out _ hcw).2.2.2 m x hx
          simp only [Value.slice.injEq, true_and] at e1 e2
          obtain ⟨rfl, rfl⟩ := e1
          obtain ⟨rfl, rfl⟩ := e2
          have HL1 : Hid (∀ W, Chg [] _ W → W.rangeAt g1 (m * 2) (#[.int .i64 x, .bool false] : Array Value).toList) := Lib.hid fun W hc => by
            obtain ⟨g, cc, e, h⟩ := HCD.out _ _ _ _ _ (HP13.out W (hcw.trans hc)).2.1 m x hx
            simp only [Value.slice.injEq, true_and, Option.some.injEq, Addr.mk.injEq, and_true] at e
            obtain ⟨rfl, _⟩ := e
            exact h
          have HL2 : Hid (∀ W, Chg [] _ W → W.rangeAt g2 (m * 2) (#[.int .i64 x, .bool false] : Array Value).toList) := Lib.hid fun W hc => by
            obtain ⟨g, cc, e, h⟩ := HCD.out _ _ _ _ _ (HP13.out W (hcw.trans hc)).2.2.2 m x hx
            simp only [Value.slice.injEq, true_and, Option.some.injEq, Addr.mk.injEq, and_true] at e
            obtain ⟨rfl, _⟩ := e
            exact h
          have hkI : (m : Int) < (ndn : Int) := by omega
          clear HCD HED HP13 HFIN hx
          go_upto_region 24 with fail
          refine wp_region_chg (by kernel_rfl) (by kernel_rfl) ?_
          repeat (first
            | ((with_reducible refine wpQuiet_rowC 34 (.tmp 122) ?_ ?_ g2 _ ?_ (#[.int .i64 x, .bool false]) _ HL2.out Try.underlying34 ?_ infCh ?_); (focus rfl); (focus rfl); (focus rfl); (focus rfl); (try simp only [List.getElem_toArray, List.getElem_cons_succ, List.getElem_cons_zero, Act.put, List.setIfInBounds_toArray, List.set_cons_zero, List.set_cons_succ]))
            | ((with_reducible refine wpQuiet_rowC 49 (.tmp 126) ?_ ?_ g1 _ ?_ (#[.int .i64 x, .bool false]) _ HL1.out Try.underlying49 ?_ infRCh ?_); (focus rfl); (focus rfl); (focus rfl); (focus rfl); (try simp only [List.getElem_toArray, List.getElem_cons_succ, List.getElem_cons_zero, Act.put, List.setIfInBounds_toArray, List.set_cons_zero, List.set_cons_succ]))
            | ((with_reducible refine wpQuiet_pure (v := ?_) ?_ (fun w => ?_) ?_); rotate_left; (focus rfl); (focus (go_simp <;> with_reducible rfl)); (try simp only [List.getElem_toArray, List.getElem_cons_succ, List.getElem_cons_zero, Act.put, List.setIfInBounds_toArray, List.set_cons_zero, List.set_cons_succ])))
          refine wpQuiet_nil ?_
          intro w7 hc7
          have hfin := hcw.trans hc7
          clear HL1 HL2 hcw hc7
          go_wp2_with fail
          go_roundw
          case rel => exact ⟨m + 1, by omega, by go_num, by simp, hfin⟩
          case measure => simp [intOf]; omega
        · obtain rfl : m = ndn := by omega
          have HZ : Hid (∃ c' S' v', JP w _ cb (i + 1) b c' S' v') := Lib.hid (by obtain ⟨S', v', h⟩ := HFIN.out; exact ⟨c', S', v', h.chg0 hcw⟩)
          clear HCD HED HP13 HFIN hcw hcw2
          go_wp2_with fail
          all_goals (first | (refine And.intro (by first | rfl | simp) HZ) | exact HZ)
end Go.Proofs.Ytgbdbeaflilmlaa
