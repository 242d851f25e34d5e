/-
  CONTRACT: the program's Line. Conditions: Gl, lengths.
-/
import Derived.Test.YtljgemknccodeaaDoorScJ
set_option linter.unusedVariables false
set_option linter.unusedSimpArgs false
namespace Go.Proofs.YtljgemknccodeaaDoor
open Go.RowKit

def St0 : St := ⟨0, 0, 0, 0, []⟩
def word0 (l : Bs) : Bs := (spl 32 l).headD []
/-- The step of a line. -/
def lineP (l : Bs) : Option St :=
  if kindP (word0 l) = 13 ∧ (spl 32 l).length = 2 then (unhexP ((spl 32 l).getD 1 [])).map fun b => ⟨13, 0, 0, 0, b⟩
  else if kindP (word0 l) < 0 ∨ kindP (word0 l) = 13 ∨ (spl 32 l).length ≠ manyP (kindP (word0 l)) + 1 then none
  else (numsP ((spl 32 l).drop 1)).map fun xs => ⟨kindP (word0 l), xs.getD 0 0, xs.getD 1 0, xs.getD 2 0, []⟩
/-- What a line is told as. -/
def LineR (l : Bs) (w w' : World) (e : Ending) : Prop := ∃ s v er, e = .returned (.tuple #[.agg (arrSt s v), .int .i64 er]) ∧ ((er = 0 ∧ lineP l = some s) ∨ (er = 14 ∧ lineP l = none ∧ s = St0)) ∧ SlY w' w.heap.size v s.b ∧ Chg [] w w'
theorem kind_i64 (p : Bs) : -1 ≤ kindP p ∧ kindP p < 14 := by
  have : ∀ (zs : List ByteArray) (i : Nat), -1 ≤ Lib.idxFromS zs (bsA p) i ∧ Lib.idxFromS zs (bsA p) i < ((i + zs.length : Nat) : Int) ∨ Lib.idxFromS zs (bsA p) i = -1 := by
    intro zs
    induction zs with
    | nil => intro i; right; rfl
    | cons z zs ih =>
      intro i
      simp only [Lib.idxFromS]
      split
      · left; simp; omega
      · rcases ih (i + 1) with h | h
        · left; simp only [List.length_cons]; constructor
          · exact h.1
          · have := h.2; push_cast at this ⊢; omega
        · right; exact h
  unfold kindP Lib.idxOfS
  rcases this (kindsL.map bsA) 0 with h | h
  · rw [List.length_map, kinds_len] at h; exact ⟨h.1, by have := h.2; simpa using this⟩
  · rw [h]; omega
theorem SlS.drop1 {w : World} {B b o n c : Nat} {L : List Bs} (h : SlS w B (.slice (some ⟨b, o, none⟩) n c) L) (hn : 1 ≤ n) : SlS w B (.slice (some ⟨b, o + 1, none⟩) (n - 1) (c - 1)) (L.drop 1) := by
  obtain ⟨hl, A, c', e, hc, hx⟩ := h
  cases e
  refine ⟨by simp, some ⟨b, o + 1, none⟩, c - 1, by rw [List.length_drop], by rw [List.length_drop]; omega, fun _ => ?_⟩
  obtain ⟨b', o', e', hB, hcell⟩ := hx (by omega)
  cases e'
  refine ⟨b, o + 1, rfl, hB, fun j u hu => ?_⟩
  have := hcell (j + 1) u (by rw [← hu, List.map_drop, List.getElem?_drop, Nat.add_comm])
  rwa [show o + 1 + j = o + (j + 1) by omega]
set_option maxRecDepth 100000 in
set_option maxHeartbeats 4000000 in
theorem line_any (l : Bs) (hl : l.length ≤ 1000000) {w : World} (hg : Gl w) : Calls Tryd.prog 9 #[str l] w fun e w' => LineR l w w' e := by
  have hA := (Chg.refl [] w).alloc (.cells #[.int .i64 0, .int .i64 0, .int .i64 0, .int .i64 0, .slice none 0 0] 32)
  have hB : Blk (w.alloc (.cells #[.int .i64 0, .int .i64 0, .int .i64 0, .int .i64 0, .slice none 0 0] 32)) w.heap.size 32 #[.int .i64 0, .int .i64 0, .int .i64 0, .int .i64 0, .slice none 0 0] := Blk.new _ _ _
  have HI := Lib.hid (And.intro hA hB)
  have HG := Lib.hid (hg.chg hA)
  clear hA hB hg
  go_enter Tryd.func9, Tryd.ntmps9
  go_upto_region 1 with fail
  generalize w.alloc (.cells #[.int .i64 0, .int .i64 0, .int .i64 0, .int .i64 0, .slice none 0 0] 32) = w1 at *
  generalize hgr : w.heap.size = g at *
  go_wp2_with fail
  refine (split_lib l 32 HG.out hl).mono ?_
  rintro e w2 ⟨wv, rfl, hws, hc2⟩
  have HC2 := Lib.hid (HI.out.1.trans hc2)
  have HB2 := Lib.hid (HI.out.2.chg hc2 (by simp))
  have HG2 := Lib.hid (HG.out.chg hc2)
  have HGR : Hid (w.heap.size = g) := Lib.hid hgr
  have HLEN : Hid (∀ p ∈ spl 32 l, p.length ≤ 1000000) := Lib.hid fun p hp => Nat.le_trans (spl_mem_len 32 l p hp) hl
  have HLL : Hid ((spl 32 l).length ≤ 1000001) := Lib.hid (Nat.le_trans (spl_len 32 l) (by omega))
  have HP : Hid (lineP l = if kindP (word0 l) = 13 ∧ (spl 32 l).length = 2 then (unhexP ((spl 32 l).getD 1 [])).map fun b => ⟨13, 0, 0, 0, b⟩
    else if kindP (word0 l) < 0 ∨ kindP (word0 l) = 13 ∨ (spl 32 l).length ≠ manyP (kindP (word0 l)) + 1 then none
    else (numsP ((spl 32 l).drop 1)).map fun xs => ⟨kindP (word0 l), xs.getD 0 0, xs.getD 1 0, xs.getD 2 0, []⟩) := Lib.hid rfl
  have h0 : (spl 32 l)[0]? = some (word0 l) := by
    unfold word0
    cases hs : spl 32 l with
    | nil => exact absurd hs (spl_ne 32 l)
    | cons a t => rfl
  generalize spl 32 l = L at *
  generalize word0 l = p0 at *
  have hpos : 0 < L.length := (List.getElem?_eq_some_iff.1 h0).1
  obtain ⟨wb, wcap, rfl, _, _⟩ := own_form hws hpos
  have HK := Lib.hid hws.sl
  have HSC : Hid (∀ W, Chg [] w2 W → W.cell? ⟨wb, 0, none⟩ = some (str p0)) := Lib.hid fun W hW => by
    obtain ⟨b', o', c', e', _, hcell⟩ := SlS.at_ hws.sl h0
    cases e'
    exact hW.cell hcell (by simp)
  have HCA := Lib.hid (fun i p (hp : L[i]? = some p) W (hW : Chg [] w2 W) => SlS.at_ (Sl.chg0 hws.sl hW) (k := i) (p := p) hp)
  have HNL := HLL.out
  have hki := kind_i64 p0
  clear HI HG hc2 hws h0 hgr
  go_upto_region 2 with fail
  refine wp_region_noPanic ?_
  have hS0 : (fun W : World => Chg [] w2 W) w2.drew := (Chg.refl [] w2).drew
  have HS0 : ∀ W : World, (fun W : World => Chg [] w2 W) W → W.cell? ⟨wb, 0, none⟩ = some (str p0) := HSC.out
  refine wp_region_held_drew (S := fun W : World => Chg [] w2 W) (by kernel_rfl) hS0 (fun _ => ?_)
  generalize w2.drew = wd at *
  refine wpAnyH_take (i := 1) (v := ?_) rfl (by kernel_rfl) (by kernel_rfl) (by kernel_rfl) (fun _ _ _ h => h) (yields_pure (by rfl) (fun w => ?_)) (by with_reducible assumption) ?_
  rotate_left
  · (go_simp <;> with_reducible rfl)
  try simp only [List.getElem_toArray, List.getElem_cons_succ, List.getElem_cons_zero, Act.put, List.setIfInBounds_toArray, List.set_cons_zero, List.set_cons_succ]
  refine wpAnyH_take (i := 2) (v := ?_) rfl (by kernel_rfl) (by kernel_rfl) (by kernel_rfl) (fun _ _ _ h => h) (yields_pure (by rfl) (fun w => ?_)) (by with_reducible assumption) ?_
  rotate_left
  · (go_simp <;> with_reducible rfl)
  try simp only [List.getElem_toArray, List.getElem_cons_succ, List.getElem_cons_zero, Act.put, List.setIfInBounds_toArray, List.set_cons_zero, List.set_cons_succ]
  refine wpAnyH_take (i := 3) rfl (by kernel_rfl) (by kernel_rfl) (by kernel_rfl) (fun _ _ _ h => h) (yields_cell (by rfl) 9 (.tmp 14) rfl wb 0 rfl (str p0) _ HS0 Tryd.underlying9 rfl) (by with_reducible assumption) ?_
  try simp only [List.getElem_toArray, List.getElem_cons_succ, List.getElem_cons_zero, Act.put, List.setIfInBounds_toArray, List.set_cons_zero, List.set_cons_succ]
  refine wpAnyH_ready (rs := [0]) (by kernel_rfl) (by simp) (AllReadyH.cons rfl (fun K hK => ?_) AllReadyH.nil)
  go_simp
  refine (kinds_any (HG2.out.chg hS0)).mono ?_
  rintro e w3 ⟨kv, rfl, hks, hc3⟩
  have hS3 : (fun W : World => Chg [] w2 W) w3 := hS0.trans hc3
  refine hK.out _ _ (by with_reducible assumption) (fun _ => ?_)
  clear hK K
  try simp only [List.getElem_toArray, List.getElem_cons_succ, List.getElem_cons_zero, Act.put, List.setIfInBounds_toArray, List.set_cons_zero, List.set_cons_succ]
  refine wpAnyH_ready (rs := [4]) (by kernel_rfl) (by simp) (AllReadyH.cons rfl (fun K hK => ?_) AllReadyH.nil)
  go_simp
  refine (index_lib hks.sl p0).mono ?_
  rintro e w4 ⟨rfl, rfl⟩
  refine hK.out _ _ (by with_reducible assumption) (fun _ => ?_)
  clear hK K
  try simp only [List.getElem_toArray, List.getElem_cons_succ, List.getElem_cons_zero, Act.put, List.setIfInBounds_toArray, List.set_cons_zero, List.set_cons_succ]
  refine wpAnyH_take (i := 5) (v := ?_) rfl (by kernel_rfl) (by kernel_rfl) (by kernel_rfl) (fun _ _ _ h => h) (yields_pure (by rfl) (fun w => ?_)) (by with_reducible assumption) ?_
  rotate_left
  · (go_simp <;> with_reducible rfl)
  try simp only [List.getElem_toArray, List.getElem_cons_succ, List.getElem_cons_zero, Act.put, List.setIfInBounds_toArray, List.set_cons_zero, List.set_cons_succ]
  refine wpAnyH_done (by kernel_rfl) ?_ _
  refine NoPanic.normal ?_
  have hS3' : Chg [] w2 w3 := hS3
  have HC3 := Lib.hid (HC2.out.trans hS3')
  have HB3 := Lib.hid (HB2.out.chg hS3' (by simp))
  have HG3 := Lib.hid (HG2.out.chg hS3')
  have HK3 := Lib.hid (Sl.chg0 HK.out hS3')
  have HCA3 := Lib.hid (fun i p (hp : L[i]? = some p) W (hW : Chg [] w3 W) => HCA.out i p hp W (hS3'.trans hW))
  clear HC2 HB2 HG2 HK HCA HSC hS0 HS0 hks hc3 hS3 hS3'
  generalize kindP p0 = kd at *
  by_cases hA : kd = 13 ∧ L.length = 2
  · obtain ⟨rfl, hl2⟩ := hA
    obtain ⟨p1, hp1⟩ : ∃ p1, L[1]? = some p1 := ⟨_, List.getElem?_eq_getElem (by omega)⟩
    have HQ : Hid (lineP l = (unhexP p1).map fun b => ⟨13, 0, 0, 0, b⟩) := Lib.hid (by
      rw [HP.out, if_pos ⟨rfl, hl2⟩, List.getD_eq_getElem?_getD, hp1]; rfl)
    have c1 : w3.cell? ⟨wb, 1, none⟩ = some (str p1) := by
      obtain ⟨b', o', c', e', _, hcell⟩ := HCA3.out 1 p1 hp1 w3 (Chg.refl _ _)
      cases e'
      exact hcell
    have FU := Lib.hid (unhex_any p1 (HLEN.out p1 (List.mem_of_getElem? hp1)) w3)
    clear hp1 HP HLEN HLL HNL
    go_wp2_with fail
    refine FU.out.mono ?_
    rintro e w5 ⟨uv, ok, rfl, hok, hbad, ⟨A, nn, cc, rfl⟩, hc5⟩
    have hB5 := HB3.out.chg hc5 (by simp)
    have HC5 := Lib.hid (HC3.out.trans hc5)
    have HSZ := Lib.hid (Nat.le_trans (show w.heap.size ≤ w3.heap.size from HC3.out.size) (Nat.le_refl _))
    clear FU c1 hc5
    cases ok with
    | false =>
      have HN : Hid (lineP l = none) := Lib.hid (by rw [HQ.out, hbad rfl]; rfl)
      clear hok hbad HQ
      go_wp2_with (first
        | (refine wpList_store_blk (vs := #[.int .i64 0, .int .i64 0, .int .i64 0, .int .i64 0, .slice none 0 0]) rfl 32 (.tmp 2) (.tmp 33) rfl rfl hB5 rfl rfl rfl (by kernel_rfl) rfl ?_; intro w9 hB9 hc9)
        | fail)
      refine bodyPost_ret (results_blk2 rfl rfl hB9 _ Tryd.underlying32 rfl (by kernel_rfl)) rfl ?_
      exact ⟨St0, .slice none 0 0, 14, rfl, .inr ⟨rfl, HN.out, rfl⟩, Sl.nil _ _ _, HC5.out.trans' hc9 (by intro x hx; simp at hx; subst hx; exact .inr (by rw [HGR.out]; exact Nat.le_refl _))⟩
    | true =>
      obtain ⟨bs, hb1, hb2⟩ := hok rfl
      have HN : Hid (lineP l = some ⟨13, 0, 0, 0, bs⟩) := Lib.hid (by rw [HQ.out, hb1]; rfl)
      have HY := Lib.hid hb2
      clear hb1 hb2 hok hbad HQ
      go_wp2_with (first
        | (refine wpList_store_blk (vs := #[.int .i64 13, .int .i64 0, .int .i64 0, .int .i64 0, .slice A nn cc]) rfl 32 (.tmp 2) (.tmp 36) rfl rfl hB5 rfl rfl rfl (by kernel_rfl) rfl ?_; intro w9 hB9 hc9)
        | fail)
      refine bodyPost_ret (results_blk2 rfl rfl hB9 _ Tryd.underlying32 rfl (by kernel_rfl)) rfl ?_
      have hcf : Chg [] w w9 := HC5.out.trans' hc9 (by intro x hx; simp at hx; subst hx; exact .inr (by rw [HGR.out]; exact Nat.le_refl _))
      exact ⟨⟨13, 0, 0, 0, bs⟩, .slice A nn cc, 0, rfl, .inl ⟨rfl, HN.out⟩, Sl.less (Sl.chg HY.out hc9 (by intro x hx; simp at hx; subst hx; exact HB3.out.lt)) HSZ.out, hcf⟩
  · have hMQ := many_any kd
    by_cases hbd : kd < 0 ∨ kd = 13 ∨ L.length ≠ manyP kd + 1
    · have HN : Hid (lineP l = none) := Lib.hid (by rw [HP.out, if_neg hA, if_pos hbd])
      have hB3 := HB3.out
      have FM := Lib.hid (fun W => (many_any kd W).mono fun (r : Ending) w'' ⟨h1, h2⟩ => (⟨h1, h2⟩ : r = Ending.returned (.int .i64 (manyP kd)) ∧ W = w''))
      clear HP HLEN HLL HK3 HCA3 hMQ
      by_cases hk0 : kd < 0
      · have hk13 : (kd == 13) = false := by rw [beq_eq_false_iff_ne]; omega
        clear hA hbd
        go_wp2_with (first
          | (refine wpList_store_blk (vs := #[.int .i64 0, .int .i64 0, .int .i64 0, .int .i64 0, .slice none 0 0]) rfl 32 (.tmp 2) (.tmp 51) rfl rfl hB3 rfl rfl rfl (by kernel_rfl) rfl ?_; intro w9 hB9 hc9)
          | fail)
        refine bodyPost_ret (results_blk2 rfl rfl hB9 _ Tryd.underlying32 rfl (by kernel_rfl)) rfl ?_
        exact ⟨St0, .slice none 0 0, 14, rfl, .inr ⟨rfl, HN.out, rfl⟩, Sl.nil _ _ _, HC3.out.trans' hc9 (by intro x hx; simp at hx; subst hx; exact .inr (by rw [HGR.out]; exact Nat.le_refl _))⟩
      · by_cases hk13' : kd = 13
        · subst hk13'
          have hl2 : ((L.length : Int) == 2) = false := by rw [beq_eq_false_iff_ne]; intro e; exact hA ⟨rfl, by omega⟩
          clear hA hbd hk0
          go_wp2_with (first
            | (refine wpList_store_blk (vs := #[.int .i64 0, .int .i64 0, .int .i64 0, .int .i64 0, .slice none 0 0]) rfl 32 (.tmp 2) (.tmp 51) rfl rfl hB3 rfl rfl rfl (by kernel_rfl) rfl ?_; intro w9 hB9 hc9)
            | fail)
          refine bodyPost_ret (results_blk2 rfl rfl hB9 _ Tryd.underlying32 rfl (by kernel_rfl)) rfl ?_
          exact ⟨St0, .slice none 0 0, 14, rfl, .inr ⟨rfl, HN.out, rfl⟩, Sl.nil _ _ _, HC3.out.trans' hc9 (by intro x hx; simp at hx; subst hx; exact .inr (by rw [HGR.out]; exact Nat.le_refl _))⟩
        · have hk13 : (kd == 13) = false := by rw [beq_eq_false_iff_ne]; omega
          have hln : ((L.length : Int) - 1 == (manyP kd : Int)) = false := by rw [beq_eq_false_iff_ne]; omega
          clear hA hbd
          go_wp2_with fail
          refine (FM.out w3).mono ?_
          rintro e w5 ⟨rfl, rfl⟩
          go_wp2_with (first
            | (refine wpList_store_blk (vs := #[.int .i64 0, .int .i64 0, .int .i64 0, .int .i64 0, .slice none 0 0]) rfl 32 (.tmp 2) (.tmp 51) rfl rfl hB3 rfl rfl rfl (by kernel_rfl) rfl ?_; intro w9 hB9 hc9)
            | fail)
          refine bodyPost_ret (results_blk2 rfl rfl hB9 _ Tryd.underlying32 rfl (by kernel_rfl)) rfl ?_
          exact ⟨St0, .slice none 0 0, 14, rfl, .inr ⟨rfl, HN.out, rfl⟩, Sl.nil _ _ _, HC3.out.trans' hc9 (by intro x hx; simp at hx; subst hx; exact .inr (by rw [HGR.out]; exact Nat.le_refl _))⟩
    · have hk0 : ¬ kd < 0 := fun e => hbd (.inl e)
      have hk13n : kd ≠ 13 := fun e => hbd (.inr (.inl e))
      have hk13 : (kd == 13) = false := by rw [beq_eq_false_iff_ne]; exact hk13n
      have hlen : L.length = manyP kd + 1 := by
        rcases Nat.lt_or_ge L.length (manyP kd + 1) with h1 | h1
        · exact absurd (.inr (.inr (by omega))) hbd
        · rcases Nat.lt_or_ge (manyP kd + 1) L.length with h2 | h2
          · exact absurd (.inr (.inr (by omega))) hbd
          · omega
      have hq3 := manyP_le kd
      have HQ : Hid (lineP l = (numsP (L.drop 1)).map fun xs => ⟨kd, xs.getD 0 0, xs.getD 1 0, xs.getD 2 0, []⟩) := Lib.hid (by
        rw [HP.out, if_neg hA, if_neg hbd])
      have FM := Lib.hid (fun W => (many_any kd W).mono fun (r : Ending) w'' ⟨h1, h2⟩ => (⟨h1, h2⟩ : r = Ending.returned (.int .i64 (manyP kd)) ∧ W = w''))
      have hcap : L.length ≤ wcap := by
        obtain ⟨_, _, _, e, h5, _⟩ := HK3.out
        cases e
        exact h5
      have FN : Hid (∀ v, (v = .slice (some ⟨wb, 0, none⟩) (L.length - 1) 0 ∧ wcap = 1) ∨ v = .slice (some ⟨wb, 1, none⟩) (L.length - 1) (wcap - 1) → Calls Tryd.prog 25 #[v] w3 fun e w' => NumsR (L.drop 1) w3 w' e) := Lib.hid (by
        rintro v (⟨rfl, hw⟩ | rfl)
        · have hd : L.drop 1 = [] := List.drop_eq_nil_of_le (by omega)
          rw [hd, show L.length - 1 = 0 by omega]
          exact numbers_any (B := 0) (L := []) (Sl.empty _ _ _ _ _) (by simp) HG3.out (by simp)
        · exact numbers_any (SlS.drop1 HK3.out hpos) (by rw [List.length_drop]; omega) HG3.out (fun p hp => HLEN.out p (List.mem_of_mem_drop hp)))
      clear HP HLEN HLL HCA3 hMQ hA hbd hk13n
      generalize manyP kd = q at *
      generalize L.length = n at *
      subst hlen
      have h1L : (1 : Int) ≤ ((q + 1 : Nat) : Int) := by omega
      go_wp2_with fail
      refine (FM.out w3).mono ?_
      rintro e w5 ⟨rfl, rfl⟩
      clear FM
      go_upto_region 10 with fail
      clear h1L hcap
      have h1L : (1 : Int) ≤ (q : Int) + 1 := by omega
      go_wp2_with fail
      all_goals
        refine (FN.out _ (by first | exact .inr rfl | exact .inl ⟨rfl, by first | rfl | assumption⟩)).mono ?_
        rintro e w5 ⟨xs, ok, rfl, hns, hc5⟩
        have HC5 := Lib.hid (HC3.out.trans hc5)
        have hB5 := HB3.out.chg hc5 (by simp)
        clear FN hc5
        go_upto_region 11 with (first
          | (refine wpList_store_blk (vs := padI xs) rfl 57 (.tmp 8) (.tmp 56) rfl rfl (Blk.new _ _ _) rfl rfl rfl (by kernel_rfl) rfl ?_; intro w6 hB6 hc6)
          | fail)
        have hcA : Chg [] w5 w6 := ((Chg.refl [] w5).alloc _).trans' hc6 (by intro x hx; simp at hx; subst hx; exact .inr (Nat.le_refl _))
        have HC6 := Lib.hid (HC5.out.trans hcA)
        have hB7 := hB5.chg hcA (by simp)
        have k0 : w6.cell? ⟨w5.heap.size, 0, none⟩ = some (.int .i64 (xs.getD 0 0)) := by rw [hB6.cell]; rfl
        have k1 : w6.cell? ⟨w5.heap.size, 1, none⟩ = some (.int .i64 (xs.getD 1 0)) := by rw [hB6.cell]; rfl
        have k2 : w6.cell? ⟨w5.heap.size, 2, none⟩ = some (.int .i64 (xs.getD 2 0)) := by rw [hB6.cell]; rfl
        clear hcA hc6 hB6 hB5 HC5
        generalize hx0 : xs.getD 0 0 = x0 at *
        generalize hx1 : xs.getD 1 0 = x1 at *
        generalize hx2 : xs.getD 2 0 = x2 at *
        generalize w5.heap.size = ga at *
        cases ok with
        | false =>
          have HN : Hid (lineP l = none) := Lib.hid (by rw [HQ.out, hns]; rfl)
          clear hns HQ k0 k1 k2 hx0 hx1 hx2
          go_wp2_with (first
            | (refine wpList_store_blk (vs := #[.int .i64 0, .int .i64 0, .int .i64 0, .int .i64 0, .slice none 0 0]) rfl 32 (.tmp 2) (.tmp 60) rfl rfl hB7 rfl rfl rfl (by kernel_rfl) rfl ?_; intro w9 hB9 hc9)
            | fail)
          refine bodyPost_ret (results_blk2 rfl rfl hB9 _ Tryd.underlying32 rfl (by kernel_rfl)) rfl ?_
          exact ⟨St0, .slice none 0 0, 14, rfl, .inr ⟨rfl, HN.out, rfl⟩, Sl.nil _ _ _, HC6.out.trans' hc9 (by intro x hx; simp at hx; subst hx; exact .inr (by rw [HGR.out]; exact Nat.le_refl _))⟩
        | true =>
          have HN : Hid (lineP l = some ⟨kd, x0, x1, x2, []⟩) := Lib.hid (by rw [HQ.out, hns]; show some (⟨kd, xs.getD 0 0, xs.getD 1 0, xs.getD 2 0, []⟩ : St) = _; rw [hx0, hx1, hx2])
          clear hns HQ hx0 hx1 hx2
          go_wp2_with (first
            | (refine wpList_store_blk (vs := #[.int .i64 kd, .int .i64 x0, .int .i64 x1, .int .i64 x2, .slice none 0 0]) rfl 32 (.tmp 2) (.tmp 68) rfl rfl hB7 rfl rfl rfl (by kernel_rfl) rfl ?_; intro w9 hB9 hc9)
            | fail)
          refine bodyPost_ret (results_blk2 rfl rfl hB9 _ Tryd.underlying32 rfl (by kernel_rfl)) rfl ?_
          exact ⟨⟨kd, x0, x1, x2, []⟩, .slice none 0 0, 0, rfl, .inl ⟨rfl, HN.out⟩, Sl.nil _ _ _, HC6.out.trans' hc9 (by intro x hx; simp at hx; subst hx; exact .inr (by rw [HGR.out]; exact Nat.le_refl _))⟩
end Go.Proofs.YtljgemknccodeaaDoor
