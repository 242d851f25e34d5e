/-
  WALK: ConnsPlays, one call on both sides. Condition: as in the texts before. (Printed by wip/tools/gen_sw30.py.)
-/
import Derived.Test.YtgbdbeaflilmlaaConnRef
set_option linter.unusedVariables false
set_option linter.unusedSimpArgs false
namespace Go.Proofs.Ytgbdbeaflilmlaa
open Go.RowKit Go.Maps

/-- A block of a function's code. -/
def blkOf (n : Nat) : Code → Option Code
  | .block m c => if m = n then some (.block m c) else blkOf n c
  | .loop c => blkOf n c
  | .seq a b => match blkOf n a with
    | some c => some c
    | none => blkOf n b
  | .scope c => blkOf n c
  | .cond _ a b => match blkOf n a with
    | some c => some c
    | none => blkOf n b
  | _ => none
/-- Behind the two sides' call: what was told is the same. -/
def Told (W w : World) (tb gw K : Nat) (n : Int) (a b lv mv : Value) : Prop :=
  ∃ (q : Bool) (F : List Fl) (c : TC) (S : List Nat) (v : Value) (L : List En), a = .bool q ∧ b = .bool q ∧ SlF w lv F ∧ SlF w mv F ∧ (∀ f ∈ F, okF f) ∧ F.length ≤ 64 ∧ JC W w tb gw K n c S v L
theorem SlFo_less {w : World} {B : Nat} {v : Value} {F : List Fl} (h : Sl w B 34 v F.length (F.flatMap encF)) : SlF w v F := Sl.less h (Nat.zero_le _)
theorem SlF.nil (w : World) : SlF w (.slice none 0 0) [] := Sl.nil _ _ _
set_option maxRecDepth 1000000 in
set_option maxHeartbeats 8000000 in
theorem sw30 {w w5 : World} {tb gw gx k : Nat} {n r : Int} {c : TC} {S' : List Nat} {v : Value} {L : List En} {x : Op3} (HJ5 : Hid (JC w w5 tb gw (k + 0) n c S' v L)) (HB5 : Hid (Blk w5 gx 96 (arrN x.e))) (HXO : Hid (okN x.e)) (HGX : Hid (gx ∉ S' ∧ gx ≠ gw ∧ gx < w5.heap.size)) (hk1 : k ≤ 100)
    {KX : Act → World → Prop} {QX : Exit → Act → World → Prop} {f0 f1 f2 f3 f4 f7 f14 f15 f16 f17 f18 f19 f20 f21 f22 f23 f24 f25 f26 f27 f28 f29 f30 f31 f32 f33 f34 f35 f36 f37 f38 f39 f40 f41 f42 f43 f44 f45 f46 f47 f48 f49 f50 f51 f52 f53 f54 f55 f56 f57 f58 f59 f60 f61 f62 f63 f64 f65 f66 f67 f68 f69 f70 f71 f72 f73 f74 f75 f76 f77 f78 f79 f80 f81 f82 f83 f84 f85 f86 f87 f88 f89 f90 f91 f92 f93 f94 f95 f96 f97 f98 f99 f100 f101 f102 f103 f104 f105 f106 f107 f108 f109 f110 f111 f112 f113 f114 f115 f116 f117 f118 f119 f120 f121 f122 f123 f124 f125 f126 f127 f128 f129 f130 f131 f132 f133 f134 f135 f136 f137 f138 f139 f140 f141 f142 f143 f144 f145 f146 f147 f148 f149 f150 f151 f152 f153 f154 f155 f156 f157 f158 f159 f160 f161 f162 f163 f164 f165 f166 f167 f168 f169 f170 f171 f172 f173 f174 f175 f176 f177 f178 f179 f180 f181 f182 f183 f184 f185 f186 f187 f188 f189 f190 f191 f192 f193 f194 f195 f196 f197 f198 f199 f200 f201 f202 f203 f204 : Value}
    (hKX : ∀ (g9 g10 g11 g12 g58 g59 g60 g61 g62 g63 g64 g65 g66 g67 g68 g69 g70 g71 g72 g73 g74 g75 g76 g77 g78 g79 g80 g81 g82 g83 g84 g85 g86 g87 g88 g89 g90 g91 g92 g93 g94 g95 : Value) (w' : World), Hid (Told w w' tb gw (k + 1) n g9 g10 g11 g12 ∧ Blk w' gx 96 (arrN x.e)) → KX ⟨#[f0, f1, f2, f3, f4, .pointer (some ⟨tb, 0, none⟩), .pointer (some ⟨gw, 0, none⟩), f7, .pointer (some ⟨gx, 0, none⟩), g9, g10, g11, g12, .int .i64 r, f14, f15, f16, f17, f18, f19, f20, f21, f22, f23, f24, f25, f26, f27, f28, f29, f30, f31, f32, f33, f34, f35, f36, f37, f38, f39, f40, f41, f42, f43, f44, f45, f46, f47, f48, f49, f50, f51, f52, f53, f54, f55, f56, f57, g58, g59, g60, g61, g62, g63, g64, g65, g66, g67, g68, g69, g70, g71, g72, g73, g74, g75, g76, g77, g78, g79, g80, g81, g82, g83, g84, g85, g86, g87, g88, g89, g90, g91, g92, g93, g94, g95, f96, f97, f98, f99, f100, f101, f102, f103, f104, f105, f106, f107, f108, f109, f110, f111, f112, f113, f114, f115, f116, f117, f118, f119, f120, f121, f122, f123, f124, f125, f126, f127, f128, f129, f130, f131, f132, f133, f134, f135, f136, f137, f138, f139, f140, f141, f142, f143, f144, f145, f146, f147, f148, f149, f150, f151, f152, f153, f154, f155, f156, f157, f158, f159, f160, f161, f162, f163, f164, f165, f166, f167, f168, f169, f170, f171, f172, f173, f174, f175, f176, f177, f178, f179, f180, f181, f182, f183, f184, f185, f186, f187, f188, f189, f190, f191, f192, f193, f194, f195, f196, f197, f198, f199, f200, f201, f202, f203, f204], []⟩ w') :
    Code.wp Try.prog ((Try.f9.body.bind (blkOf 2)).getD .skip) (Exit.then KX QX) ⟨#[f0, f1, f2, f3, f4, .pointer (some ⟨tb, 0, none⟩), .pointer (some ⟨gw, 0, none⟩), f7, .pointer (some ⟨gx, 0, none⟩), .bool false, .bool false, .slice none 0 0, .slice none 0 0, .int .i64 r, f14, f15, f16, f17, f18, f19, f20, f21, f22, f23, f24, f25, f26, f27, f28, f29, f30, f31, f32, f33, f34, f35, f36, f37, f38, f39, f40, f41, f42, f43, f44, f45, f46, f47, f48, f49, f50, f51, f52, f53, f54, f55, f56, f57, f58, f59, f60, f61, f62, f63, f64, f65, f66, f67, f68, f69, f70, f71, f72, f73, f74, f75, f76, f77, f78, f79, f80, f81, f82, f83, f84, f85, f86, f87, f88, f89, f90, f91, f92, f93, f94, f95, f96, f97, f98, f99, f100, f101, f102, f103, f104, f105, f106, f107, f108, f109, f110, f111, f112, f113, f114, f115, f116, f117, f118, f119, f120, f121, f122, f123, f124, f125, f126, f127, f128, f129, f130, f131, f132, f133, f134, f135, f136, f137, f138, f139, f140, f141, f142, f143, f144, f145, f146, f147, f148, f149, f150, f151, f152, f153, f154, f155, f156, f157, f158, f159, f160, f161, f162, f163, f164, f165, f166, f167, f168, f169, f170, f171, f172, f173, f174, f175, f176, f177, f178, f179, f180, f181, f182, f183, f184, f185, f186, f187, f188, f189, f190, f191, f192, f193, f194, f195, f196, f197, f198, f199, f200, f201, f202, f203, f204], []⟩ w5 := by
  conv => arg 2; whnf
  simp only [List.append_eq, List.cons_append, List.nil_append]
  go_upto_region 16 with fail
  go_cut [65] from 65 to 71 (fun t wx => t = .bool (decide (0 ≤ r) && decide (r ≤ 3)) ∧ w5 = wx)
  case first =>
    cases hb0 : decide (0 ≤ r) <;> cases hb3 : decide (r ≤ 3) <;> (go_wp2_with fail; go_meet; exact ⟨by rw [hb0, hb3]; rfl, rfl⟩)
  case rest =>
  obtain ⟨rfl, rfl⟩ := hcut
  generalize (decide (0 ≤ r) && decide (r ≤ 3)) = bp at *
  have HRX := Lib.hid HB5.out.rangeQ
  have HRF := Lib.hid (rgN_fl HB5.out.rangeQ)
  obtain ⟨hL1, hL2⟩ := HJ5.out.len
  cases bp with
  | true =>
    have FP := Lib.hid (cput_any (e := x.e) HJ5.out.ct (by omega) HXO.out.fl)
    go_upto_region 18 with (first
      | (refine wpList_row 96 (.tmp 8) rfl rfl gx 0 rfl (arrN x.e) _ HRX.out Try.underlying96 rfl infN ?_)
      | (go_at_call 36; refine FP.out.mono ?_; rintro q w6 ⟨rfl, S6, hS6, hc6, hf6⟩)
      | fail)
    obtain ⟨p1, p2, p3, p4⟩ := putL_rc HJ5.out.rc x.e
    obtain ⟨g1, g2, g3⟩ := HJ5.out.step hS6 hc6 hf6
    have hgx6 : gx ∉ S' ∧ gx ≠ gw := ⟨HGX.out.1, HGX.out.2.1⟩
    have HBX6 := Lib.hid (HB5.out.chg hc6 HGX.out.1)
    have HT6 := Lib.hid (And.intro hS6 (And.intro hc6 (And.intro hf6 (And.intro g2 g3))))
    have hs6 := (g3.sl)
    have FR := Lib.hid (fun W (hc : Chg [] w6 W) => rput_both (hs6.chg0 hc) HJ5.out.okL hL2 HXO.out.fl HJ5.out.rc HJ5.out.n)
    have HPL := Lib.hid (And.intro p1 (And.intro p2 (And.intro p3 p4)))
    generalize hq2 : (putC c x.e).2 = qb at *
    generalize hpl : putL c L x.e = L2 at *
    clear FP hS6 hc6 hf6 g1 g2 g3 hs6 p1 p2 p3 p4 HRX HRF
    have hS0 : (fun W : World => W.rangeAt gx 0 (arrN x.e).toList) w6.drew := HBX6.out.drew.rangeQ
    have HSX : ∀ W : World, W.rangeAt gx 0 (arrN x.e).toList → W.rangeAt gx 0 (arrN x.e).toList := fun W h => h
    have hrw0 : w6.drew.rangeAt gw 0 (arrT n c.now v).toList := HT6.out.2.2.2.1.drew.rangeQ
    refine wp_region_noPanic ?_
    refine wp_region_held_drew (S := fun W : World => W.rangeAt gx 0 (arrN x.e).toList) (by kernel_rfl) hS0 (fun _ => ?_)
    refine wpAnyH_take (i := 1) rfl (by kernel_rfl) (by kernel_rfl) (by kernel_rfl) (fun _ _ _ h => h) (yields_row (by rfl) 96 (.tmp 8) rfl gx 0 rfl (arrN x.e) _ HSX Try.underlying96 rfl infN) (by with_reducible assumption) ?_
    try simp only [List.getElem_toArray, List.getElem_cons_succ, List.getElem_cons_zero, Act.put, List.setIfInBounds_toArray, List.set_cons_zero, List.set_cons_succ]
    refine wpAnyH_ready (rs := [0, 2]) (by kernel_rfl) (by simp) (AllReadyH.cons rfl (fun K hK => ?_) (AllReadyH.cons rfl (fun K hK => ?_) AllReadyH.nil))
    · refine step_row rfl 110 (.tmp 6) rfl gw 0 rfl (arrT n c.now v) _ hrw0 Try.underlying110 rfl infT ?_
      refine hK.out _ _ (by with_reducible assumption) (fun _ => ?_)
      clear hK K
      try simp only [List.getElem_toArray, List.getElem_cons_succ, List.getElem_cons_zero, Act.put, List.setIfInBounds_toArray, List.set_cons_zero, List.set_cons_succ]
      refine wpAnyH_ready (rs := [2]) (by kernel_rfl) (by simp) (AllReadyH.cons rfl (fun K hK => ?_) AllReadyH.nil)
      go_simp
      refine (rref30 x.e _).mono ?_
      rintro q1 w7 ⟨rfl, hc7⟩
      have hS7 : (fun W : World => W.rangeAt gx 0 (arrN x.e).toList) w7 := rangeAt_chg hS0 hc7 (by simp)
      refine hK.out _ _ (by with_reducible assumption) (fun _ => ?_)
      clear hK K
      try simp only [List.getElem_toArray, List.getElem_cons_succ, List.getElem_cons_zero, Act.put, List.setIfInBounds_toArray, List.set_cons_zero, List.set_cons_succ]
      refine wpAnyH_ready (rs := [3]) (by kernel_rfl) (by simp) (AllReadyH.cons rfl (fun K hK => ?_) AllReadyH.nil)
      go_simp
      refine (FR.out w7 ((Chg.refl [] w6).drew.trans hc7)).mono ?_
      rintro q1 w8 ⟨v2, rfl, hc8, hr8⟩
      obtain ⟨A2, n2, c2, rfl⟩ := hr8.form (HT6.out.2.2.2.2.sl.chg0 ((Chg.refl [] w6).drew.trans hc7))
      have hS8 : (fun W : World => W.rangeAt gx 0 (arrN x.e).toList) w8 := rangeAt_chg hS7 hc8 (by simp)
      have hB8 := HT6.out.2.2.2.1.chg (((Chg.refl [] w6).drew.trans hc7).trans hc8) (by simp)
      refine hK.out _ _ (by with_reducible assumption) (fun _ => ?_)
      clear hK K
      try simp only [List.getElem_toArray, List.getElem_cons_succ, List.getElem_cons_zero, Act.put, List.setIfInBounds_toArray, List.set_cons_zero, List.set_cons_succ]
      refine wpAnyH_take (i := 4) (v := ?_) rfl (by kernel_rfl) (by kernel_rfl) (by kernel_rfl) (fun _ _ _ h => h) (yields_pure (by rfl) (fun w => ?_)) (by with_reducible assumption) ?_
      rotate_left
      · (go_simp <;> with_reducible rfl)
      try simp only [List.getElem_toArray, List.getElem_cons_succ, List.getElem_cons_zero, Act.put, List.setIfInBounds_toArray, List.set_cons_zero, List.set_cons_succ]
      refine wpAnyH_take (i := 5) (v := ?_) rfl (by kernel_rfl) (by kernel_rfl) (by kernel_rfl) (fun _ _ _ h => h) (yields_pure (by rfl) (fun w => ?_)) (by with_reducible assumption) ?_
      rotate_left
      · (go_simp <;> with_reducible rfl)
      try simp only [List.getElem_toArray, List.getElem_cons_succ, List.getElem_cons_zero, Act.put, List.setIfInBounds_toArray, List.set_cons_zero, List.set_cons_succ]
      refine wpAnyH_take (i := 6) (v := ?_) rfl (by kernel_rfl) (by kernel_rfl) (by kernel_rfl) (fun _ _ _ h => h) (yields_pure (by rfl) (fun w => ?_)) (by with_reducible assumption) ?_
      rotate_left
      · (go_simp <;> with_reducible rfl)
      try simp only [List.getElem_toArray, List.getElem_cons_succ, List.getElem_cons_zero, Act.put, List.setIfInBounds_toArray, List.set_cons_zero, List.set_cons_succ]
      refine wpAnyH_ready (rs := [7]) (by kernel_rfl) (by simp) (AllReadyH.cons rfl (fun K hK => ?_) AllReadyH.nil)
      refine step_store_blk rfl 110 (.tmp 6) (.tmp 80) rfl hB8 rfl rfl rfl (infT (n := n) (now := c.now)) rfl ?_
      intro w9 hB9 hc9
      have hS9 : (fun W : World => W.rangeAt gx 0 (arrN x.e).toList) w9 := rangeAt_chg hS8 hc9 (by simp; exact hgx6.2)
      refine hK.out _ _ (by with_reducible assumption) (fun _ => ?_)
      clear hK K
      try simp only [List.getElem_toArray, List.getElem_cons_succ, List.getElem_cons_zero, Act.put, List.setIfInBounds_toArray, List.set_cons_zero, List.set_cons_succ]
      refine wpAnyH_take (i := 8) (v := ?_) rfl (by kernel_rfl) (by kernel_rfl) (by kernel_rfl) (fun _ _ _ h => h) (yields_pure (by rfl) (fun w => ?_)) (by with_reducible assumption) ?_
      rotate_left
      · (go_simp <;> with_reducible rfl)
      try simp only [List.getElem_toArray, List.getElem_cons_succ, List.getElem_cons_zero, Act.put, List.setIfInBounds_toArray, List.set_cons_zero, List.set_cons_succ]
      refine wpAnyH_done (by kernel_rfl) ?_ _
      refine NoPanic.normal ?_
      have HZ : Hid (Told w w9 tb gw (k + 1) n (.bool qb) (.bool qb) (.slice none 0 0) (.slice none 0 0) ∧ Blk w9 gx 96 (arrN x.e)) := Lib.hid ⟨⟨qb, [], _, S6, _, L2, rfl, rfl, SlF.nil _, SlF.nil _, by simp, by simp,
        HJ5.out.both HT6.out.1 HT6.out.2.1 HT6.out.2.2.1 ((Chg.refl [] w6).drew.trans hc7) hc8 hr8 hc9 (by rw [HPL.out.2.2.1]; exact hB9) HPL.out.1 (by rw [HPL.out.2.1]; exact HJ5.out.n) (fun e he => (HPL.out.2.2.2 e he).elim (HJ5.out.ok e) (fun k => by rw [k]; exact HXO.out))⟩,
        ((HBX6.out.chg ((Chg.refl [] w6).drew.trans hc7) (by simp)).chg hc8 (by simp)).chg hc9 (by simp; exact hgx6.2)⟩
      clear hS0 hS7 hS8 hS9 HSX hrw0 hB8 hB9 hc9 hc8 hc7 hr8
      go_wp2_with fail
      all_goals (apply hKX; exact HZ)
    · go_simp
      refine (rref30 x.e _).mono ?_
      rintro q1 w7 ⟨rfl, hc7⟩
      have hS7 : (fun W : World => W.rangeAt gx 0 (arrN x.e).toList) w7 := rangeAt_chg hS0 hc7 (by simp)
      have hrw7 := rangeAt_chg hrw0 hc7 (by simp)
      refine hK.out _ _ (by with_reducible assumption) (fun _ => ?_)
      clear hK K
      try simp only [List.getElem_toArray, List.getElem_cons_succ, List.getElem_cons_zero, Act.put, List.setIfInBounds_toArray, List.set_cons_zero, List.set_cons_succ]
      refine wpAnyH_ready (rs := [0]) (by kernel_rfl) (by simp) (AllReadyH.cons rfl (fun K hK => ?_) AllReadyH.nil)
      refine step_row rfl 110 (.tmp 6) rfl gw 0 rfl (arrT n c.now v) _ hrw7 Try.underlying110 rfl infT ?_
      refine hK.out _ _ (by with_reducible assumption) (fun _ => ?_)
      clear hK K
      try simp only [List.getElem_toArray, List.getElem_cons_succ, List.getElem_cons_zero, Act.put, List.setIfInBounds_toArray, List.set_cons_zero, List.set_cons_succ]
      refine wpAnyH_ready (rs := [3]) (by kernel_rfl) (by simp) (AllReadyH.cons rfl (fun K hK => ?_) AllReadyH.nil)
      go_simp
      refine (FR.out w7 ((Chg.refl [] w6).drew.trans hc7)).mono ?_
      rintro q1 w8 ⟨v2, rfl, hc8, hr8⟩
      obtain ⟨A2, n2, c2, rfl⟩ := hr8.form (HT6.out.2.2.2.2.sl.chg0 ((Chg.refl [] w6).drew.trans hc7))
      have hS8 : (fun W : World => W.rangeAt gx 0 (arrN x.e).toList) w8 := rangeAt_chg hS7 hc8 (by simp)
      have hB8 := HT6.out.2.2.2.1.chg (((Chg.refl [] w6).drew.trans hc7).trans hc8) (by simp)
      refine hK.out _ _ (by with_reducible assumption) (fun _ => ?_)
      clear hK K
      try simp only [List.getElem_toArray, List.getElem_cons_succ, List.getElem_cons_zero, Act.put, List.setIfInBounds_toArray, List.set_cons_zero, List.set_cons_succ]
      refine wpAnyH_take (i := 4) (v := ?_) rfl (by kernel_rfl) (by kernel_rfl) (by kernel_rfl) (fun _ _ _ h => h) (yields_pure (by rfl) (fun w => ?_)) (by with_reducible assumption) ?_
      rotate_left
      · (go_simp <;> with_reducible rfl)
      try simp only [List.getElem_toArray, List.getElem_cons_succ, List.getElem_cons_zero, Act.put, List.setIfInBounds_toArray, List.set_cons_zero, List.set_cons_succ]
      refine wpAnyH_take (i := 5) (v := ?_) rfl (by kernel_rfl) (by kernel_rfl) (by kernel_rfl) (fun _ _ _ h => h) (yields_pure (by rfl) (fun w => ?_)) (by with_reducible assumption) ?_
      rotate_left
      · (go_simp <;> with_reducible rfl)
      try simp only [List.getElem_toArray, List.getElem_cons_succ, List.getElem_cons_zero, Act.put, List.setIfInBounds_toArray, List.set_cons_zero, List.set_cons_succ]
      refine wpAnyH_take (i := 6) (v := ?_) rfl (by kernel_rfl) (by kernel_rfl) (by kernel_rfl) (fun _ _ _ h => h) (yields_pure (by rfl) (fun w => ?_)) (by with_reducible assumption) ?_
      rotate_left
      · (go_simp <;> with_reducible rfl)
      try simp only [List.getElem_toArray, List.getElem_cons_succ, List.getElem_cons_zero, Act.put, List.setIfInBounds_toArray, List.set_cons_zero, List.set_cons_succ]
      refine wpAnyH_ready (rs := [7]) (by kernel_rfl) (by simp) (AllReadyH.cons rfl (fun K hK => ?_) AllReadyH.nil)
      refine step_store_blk rfl 110 (.tmp 6) (.tmp 80) rfl hB8 rfl rfl rfl (infT (n := n) (now := c.now)) rfl ?_
      intro w9 hB9 hc9
      have hS9 : (fun W : World => W.rangeAt gx 0 (arrN x.e).toList) w9 := rangeAt_chg hS8 hc9 (by simp; exact hgx6.2)
      refine hK.out _ _ (by with_reducible assumption) (fun _ => ?_)
      clear hK K
      try simp only [List.getElem_toArray, List.getElem_cons_succ, List.getElem_cons_zero, Act.put, List.setIfInBounds_toArray, List.set_cons_zero, List.set_cons_succ]
      refine wpAnyH_take (i := 8) (v := ?_) rfl (by kernel_rfl) (by kernel_rfl) (by kernel_rfl) (fun _ _ _ h => h) (yields_pure (by rfl) (fun w => ?_)) (by with_reducible assumption) ?_
      rotate_left
      · (go_simp <;> with_reducible rfl)
      try simp only [List.getElem_toArray, List.getElem_cons_succ, List.getElem_cons_zero, Act.put, List.setIfInBounds_toArray, List.set_cons_zero, List.set_cons_succ]
      refine wpAnyH_done (by kernel_rfl) ?_ _
      refine NoPanic.normal ?_
      have HZ : Hid (Told w w9 tb gw (k + 1) n (.bool qb) (.bool qb) (.slice none 0 0) (.slice none 0 0) ∧ Blk w9 gx 96 (arrN x.e)) := Lib.hid ⟨⟨qb, [], _, S6, _, L2, rfl, rfl, SlF.nil _, SlF.nil _, by simp, by simp,
        HJ5.out.both HT6.out.1 HT6.out.2.1 HT6.out.2.2.1 ((Chg.refl [] w6).drew.trans hc7) hc8 hr8 hc9 (by rw [HPL.out.2.2.1]; exact hB9) HPL.out.1 (by rw [HPL.out.2.1]; exact HJ5.out.n) (fun e he => (HPL.out.2.2.2 e he).elim (HJ5.out.ok e) (fun k => by rw [k]; exact HXO.out))⟩,
        ((HBX6.out.chg ((Chg.refl [] w6).drew.trans hc7) (by simp)).chg hc8 (by simp)).chg hc9 (by simp; exact hgx6.2)⟩
      clear hS0 hS7 hS8 hS9 HSX hrw0 hB8 hB9 hc9 hc8 hc7 hr8
      go_wp2_with fail
      all_goals (apply hKX; exact HZ)
  | false =>
    go_upto_if 82 with fail
    generalize (r == 4) = b4 at *
    cases b4 with
    | true =>
      have FP := Lib.hid (cdrop_any (f := x.e.fl) HJ5.out.ct (by omega) HXO.out.fl)
      go_upto_region 21 with (first
        | (refine wpList_row 73 (.tmp 86) rfl rfl gx 0 rfl (arrF x.e.fl) _ HRF.out Try.underlying73 rfl infF ?_)
        | (go_at_call 38; refine FP.out.mono ?_; rintro q w6 ⟨rfl, S6, hS6, hc6, hf6⟩)
        | fail)
      obtain ⟨g1, g2, g3⟩ := HJ5.out.step hS6 hc6 hf6
      have HBX6 := Lib.hid (HB5.out.chg hc6 HGX.out.1)
      have HT6 := Lib.hid (And.intro hS6 (And.intro hc6 (And.intro hf6 (And.intro g2 g3))))
      have FR := Lib.hid (rdrop30 (n := n) (now := c.now) g3.sl HJ5.out.okL hL2 HXO.out.fl)
      have R6 := Lib.hid g2.rangeQ
      have RX6 := Lib.hid (rgN_fl HBX6.out.rangeQ)
      have HQ := Lib.hid (HJ5.out.rc.has x.e.fl)
      have hgx6 : gx ≠ gw := HGX.out.2.1
      clear FP hS6 hc6 hf6 g1 g2 g3 HRX HRF
      go_wp2_with (first
        | (refine wpList_row 110 (.tmp 6) rfl rfl gw 0 rfl _ _ R6.out Try.underlying110 rfl infT ?_)
        | (refine wpList_row 73 (.tmp 91) rfl rfl gx 0 rfl (arrF x.e.fl) _ RX6.out Try.underlying73 rfl infF ?_)
        | fail)
      refine FR.out.mono ?_
      rintro q1 w8 ⟨v2, rfl, hs8, hc8, hr8⟩
      obtain ⟨A2, c2, rfl⟩ := Sl.form hs8
      have hB8 := HT6.out.2.2.2.1.chg hc8 (by simp)
      have HR8 := Lib.hid (And.intro hc8 hr8)
      rw [← HQ.out]
      clear hs8 hc8 hr8 FR
      go_wp2_with (first
        | (refine wpList_store_blk rfl 110 _ _ rfl rfl hB8 rfl rfl rfl (infT (n := n) (now := c.now)) rfl ?_; intro w9 hB9 hc9)
        | fail)
      exact Lib.hid ⟨⟨hasC c x.e.fl, [], _, S6, _, rdropL L x.e.fl, rfl, rfl, SlF.nil _, SlF.nil _, by simp, by simp,
        HJ5.out.both (HT6.out.1.mono (by omega)) HT6.out.2.1 HT6.out.2.2.1 (Chg.refl [] w6) HR8.out.1 HR8.out.2 hc9 hB9 (HJ5.out.rc.drop _) HJ5.out.n (fun e he => HJ5.out.ok e (rdrop_sub he))⟩,
        (HBX6.out.chg HR8.out.1 (by simp)).chg hc9 (by simp; exact hgx6)⟩
    | false =>
      have FP := Lib.hid (ctick_any HJ5.out.ct (by omega))
      go_upto_region 15 with (first
        | (go_at_call 39; refine FP.out.mono ?_; rintro q w6 ⟨v6, L6, rfl, hs6, hp6, hl6, S6, hS6, hc6, hf6⟩)
        | fail)
      obtain ⟨g1, g2, g3⟩ := HJ5.out.step hS6 hc6 hf6
      have HBX6 := Lib.hid (HB5.out.chg hc6 HGX.out.1)
      have HT6 := Lib.hid (And.intro hS6 (And.intro hc6 (And.intro hf6 (And.intro g2 g3))))
      have hnw := HJ5.out.ct.ci.nw
      have FR := Lib.hid (rtick30 (n := n) (now := c.now) g3.sl HJ5.out.okL hL2 hnw.1 (by omega))
      have R6 := Lib.hid g2.rangeQ
      have HF6 := Lib.hid (And.intro (HJ5.out.rc.gone hs6 hp6) hl6)
      have hgl5 := HJ5.out.bl.lt
      have hgx6 : gx ≠ gw := HGX.out.2.1
      clear FP hS6 hc6 hf6 g1 g2 g3 HRX HRF hs6 hp6 hl6
      go_wp2_with (first
        | (refine wpList_row 110 (.tmp 6) rfl rfl gw 0 rfl _ _ R6.out Try.underlying110 rfl infT ?_)
        | fail)
      refine FR.out.mono ?_
      rintro q1 w8 ⟨v2, vm, rfl, hs8, hm8, hc8⟩
      obtain ⟨A2, c2, rfl⟩ := Sl.form hs8
      have hB8 := HT6.out.2.2.2.1.chg hc8 (by simp)
      have HR8 := Lib.hid (And.intro hs8 (And.intro hm8 hc8))
      clear hs8 hm8 hc8 FR
      go_wp2_with (first
        | (refine wpList_store_blk rfl 110 _ _ rfl rfl hB8 rfl rfl rfl (infT (n := n) (now := c.now + 1)) rfl ?_; intro w9 hB9 hc9)
        | fail)
      have hz6 := HT6.out.2.1.size
      exact Lib.hid ⟨⟨false, L6, _, S6, _, rrest (c.now + 1) L, rfl, rfl,
        SlFo_less (Sl.chg (Sl.chg0 HF6.out.2 HR8.out.2.2) hc9 (by intro y hy; simp at hy; subst hy; exact hgl5)),
        by rw [HF6.out.1]; exact SlFo_less (Sl.chg HR8.out.2.1 hc9 (by intro y hy; simp at hy; subst hy; exact HT6.out.2.2.2.1.lt)),
        (fun f hf => by rw [HF6.out.1] at hf; obtain ⟨e, he, rfl⟩ := List.mem_map.1 hf; exact HJ5.out.okL e (List.mem_filter.1 he).1),
        (by rw [HF6.out.1, List.length_map]; exact Nat.le_trans (List.length_filter_le _ _) hL2),
        HJ5.out.both HT6.out.1 HT6.out.2.1 HT6.out.2.2.1 (Chg.refl [] w6) HR8.out.2.2 (.inr HR8.out.1) hc9 hB9 HJ5.out.rc.tick HJ5.out.n (fun e he => HJ5.out.ok e (List.mem_filter.1 he).1)⟩,
        (HBX6.out.chg HR8.out.2.2 (by simp)).chg hc9 (by simp; exact hgx6)⟩
end Go.Proofs.Ytgbdbeaflilmlaa
