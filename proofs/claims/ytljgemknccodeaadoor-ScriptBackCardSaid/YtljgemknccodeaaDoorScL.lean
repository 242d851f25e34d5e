/-
  CONTRACT: the document's Line. Conditions: lengths.
-/
import Derived.Test.YtljgemknccodeaaDoorScK
set_option linter.unusedVariables false
set_option linter.unusedSimpArgs false
namespace Go.Proofs.YtljgemknccodeaaDoor
open Go.RowKit

theorem kind_hit {p : Bs} {k : Nat} (hk : k < 14) (h : kindsL.getD k [] = p) (hne : ∀ j, j < k → kindsL.getD j [] ≠ p) : kindP p = k := by
  have hl : (kindsL.map bsA).length = 14 := by rw [List.length_map, kinds_len]
  have hg : ∀ j, j < 14 → (kindsL.map bsA).getD j ByteArray.empty = bsA (kindsL.getD j []) := fun j hj => by
    have : j < kindsL.length := by rw [kinds_len]; exact hj
    rw [List.getD_eq_getElem?_getD, List.getElem?_map, List.getElem?_eq_getElem this, List.getD_eq_getElem?_getD, List.getElem?_eq_getElem this]
    rfl
  have := Lib.idxOfS_hit (kindsL.map bsA) 14 k (bsA p) hk (by omega) (by rw [hg k hk, h]) (fun j hj => by rw [hg j (by omega)]; exact fun e => hne j hj (bsA_inj e))
  rw [List.take_of_length_le (by omega)] at this
  exact this
theorem kind_miss {p : Bs} (hne : ∀ j, j < 14 → kindsL.getD j [] ≠ p) : kindP p = -1 := by
  have hl : (kindsL.map bsA).length = 14 := by rw [List.length_map, kinds_len]
  have hg : ∀ j, j < 14 → (kindsL.map bsA).getD j ByteArray.empty = bsA (kindsL.getD j []) := fun j hj => by
    have : j < kindsL.length := by rw [kinds_len]; exact hj
    rw [List.getD_eq_getElem?_getD, List.getElem?_map, List.getElem?_eq_getElem this, List.getD_eq_getElem?_getD, List.getElem?_eq_getElem this]
    rfl
  have := Lib.idxOfS_miss (kindsL.map bsA) 14 (bsA p) (fun j hj => by rw [hg j hj]; exact fun e => hne j hj (bsA_inj e))
  rw [List.take_of_length_le (by omega)] at this
  exact this
theorem split_sp (l : Bs) (w : World) (hl : l.length ≤ 1000000) : Calls Tryd.prog 19 #[str l, .int .u8 32] w fun e w' => ∃ v, e = .returned v ∧ OwS w' w.heap.size v (spl 32 l) ∧ Chg [] w w' := split_any l 32 w hl
theorem word_in {k : Nat} (hk : k < 14) (w : World) : Calls Tryd.prog 26 #[.int .i64 (k : Int)] w fun e w' => e = .returned (.tuple #[str (kindsL.getD k []), .int .i64 (manyP (k : Int))]) ∧ Chg [] w w' := by
  have h := word_any (k : Int) ⟨by omega, by omega⟩ w
  have h1 : wordP (k : Int) = kindsL.getD k [] := by unfold wordP; rw [if_pos (by omega)]; rfl
  have h2 : numW (k : Int) = manyP (k : Int) := by unfold numW; rw [if_pos (by omega)]
  rw [h1, h2] at h
  exact h
@[reducible] def arrZ : Array Value := #[.int .i64 0, .int .i64 0, .int .i64 0, .int .i64 0, .slice none 0 0]
set_option maxRecDepth 100000 in
set_option maxHeartbeats 8000000 in
theorem line46_any (l : Bs) (hl : l.length ≤ 1000000) (w : World) : Calls Tryd.prog 10 #[str l] w fun e w' => LineR l w w' e := by
  have hA := (Chg.refl [] w).alloc (.cells arrZ 35)
  have hB : Blk (w.alloc (.cells arrZ 35)) w.heap.size 35 arrZ := Blk.new _ _ _
  have HI := Lib.hid (And.intro hA hB)
  clear hA hB
  go_enter Tryd.func10, Tryd.ntmps10
  go_upto_region 1 with fail
  generalize w.alloc (.cells arrZ 35) = w1 at *
  generalize hgr : w.heap.size = g at *
  have HGR : Hid (w.heap.size = g) := Lib.hid hgr
  clear hgr
  go_wp2_with fail
  refine (split_sp l w1 hl).mono ?_
  rintro e w2 ⟨wv, rfl, hws, hc2⟩
  have HC2 := Lib.hid (HI.out.1.trans hc2)
  have HB2 := Lib.hid (HI.out.2.chg hc2 (by simp))
  have HLEN : Hid (∀ p ∈ spl 32 l, p.length ≤ 1000000) := Lib.hid fun p hp => Nat.le_trans (spl_mem_len 32 l p hp) hl
  have HLL : Hid ((spl 32 l).length ≤ 1000001) := Lib.hid (Nat.le_trans (spl_len 32 l) (by omega))
  have HP : Hid (lineP l = if kindP (word0 l) = 13 ∧ (spl 32 l).length = 2 then (unhexP ((spl 32 l).getD 1 [])).map fun b => ⟨13, 0, 0, 0, b⟩
    else if kindP (word0 l) < 0 ∨ kindP (word0 l) = 13 ∨ (spl 32 l).length ≠ manyP (kindP (word0 l)) + 1 then none
    else (numsP ((spl 32 l).drop 1)).map fun xs => ⟨kindP (word0 l), xs.getD 0 0, xs.getD 1 0, xs.getD 2 0, []⟩) := Lib.hid rfl
  have h0 : (spl 32 l)[0]? = some (word0 l) := by
    unfold word0
    cases hs : spl 32 l with
    | nil => exact absurd hs (spl_ne 32 l)
    | cons a t => rfl
  generalize spl 32 l = L at *
  generalize word0 l = p0 at *
  have hpos : 0 < L.length := (List.getElem?_eq_some_iff.1 h0).1
  obtain ⟨wb, wcap, rfl, _, _⟩ := own_form hws hpos
  have HCA := Lib.hid (fun i p (hp : L[i]? = some p) W (hW : Chg [] w2 W) => (show W.cell? ⟨wb, i, none⟩ = some (str p) by
    obtain ⟨b', o', c', e', _, hcell⟩ := SlS.at_ (Sl.chg0 hws.sl hW) (k := i) (p := p) hp
    cases e'
    rw [Nat.zero_add] at hcell
    exact hcell))
  have HSC := Lib.hid (HCA.out 0 p0 h0)
  have hLn := HLL.out
  clear HI hc2 hws h0
  go_wp2_with fail
  go_loopw [5] (fun iv wr => ∃ k : Nat, k ≤ 14 ∧ iv = .int .i64 k ∧ Hid (∀ j, j < k → kindsL.getD j [] ≠ p0) ∧ Hid (Chg [] w2 wr)) (fun iv _ => 14 - (intOf iv).toNat)
  case atStart => exact ⟨0, by omega, rfl, Lib.hid (fun j hj => by omega), Lib.hid (Chg.refl _ _)⟩
  case round =>
    obtain ⟨k, hk, rfl, HN, HC⟩ := hrel
    by_cases hlt : k < 14
    · have hcn : (k : Int) < 14 := by omega
      have FW := Lib.hid (word_in hlt wr)
      generalize hpk : kindsL.getD k [] = pk at *
      have HPK := Lib.hid hpk
      clear hpk
      go_wp2_with fail
      refine FW.out.mono ?_
      rintro e w3 ⟨rfl, hc3⟩
      have HC3 := Lib.hid (HC.out.trans hc3)
      have c0 := HSC.out w3 HC3.out
      clear FW hc3 HC
      by_cases hm : pk = p0
      · have heq : ((bsA pk).toList == (bsA p0).toList) = true := by rw [eqS]; exact decide_eq_true hm
        have HKD : Hid (kindP p0 = k) := Lib.hid (kind_hit hlt (HPK.out.trans hm) HN.out)
        go_upto_region 8 with fail
        have hA4 := (Chg.refl [] w3).alloc (.cells #[.int .i64 (k : Int), .int .i64 0, .int .i64 0, .int .i64 0, .slice none 0 0] 35)
        have hb8 : Blk (w3.alloc (.cells #[.int .i64 (k : Int), .int .i64 0, .int .i64 0, .int .i64 0, .slice none 0 0] 35)) w3.heap.size 35 #[.int .i64 (k : Int), .int .i64 0, .int .i64 0, .int .i64 0, .slice none 0 0] := Blk.new _ _ _
        have HC4 := Lib.hid (HC3.out.trans hA4)
        have HCW := Lib.hid (HC2.out.trans HC4.out)
        have HB8 := Lib.hid hb8
        have HBG := Lib.hid (HB2.out.chg HC4.out (by simp))
        have HG8 : Hid (w.heap.size ≤ w3.heap.size ∧ g ≠ w3.heap.size) := Lib.hid ⟨(HC2.out.trans HC3.out).size, by have := (HB2.out.chg HC3.out (by simp)).lt; omega⟩
        clear hA4 hb8 HN HPK HSC c0 hm heq
        generalize w3.alloc (.cells #[.int .i64 (k : Int), .int .i64 0, .int .i64 0, .int .i64 0, .slice none 0 0] 35) = w4 at *
        generalize w3.heap.size = g8 at *
        by_cases hk13 : k = 13
        · subst hk13
          by_cases hl2 : L.length = 2
          · obtain ⟨p1, hp1⟩ : ∃ p1, L[1]? = some p1 := ⟨_, List.getElem?_eq_getElem (by omega)⟩
            have HQ : Hid (lineP l = (unhexP p1).map fun b => ⟨13, 0, 0, 0, b⟩) := Lib.hid (by
              rw [HP.out, HKD.out, if_pos ⟨rfl, hl2⟩, List.getD_eq_getElem?_getD, hp1]; rfl)
            have c1 : w4.cell? ⟨wb, 1, none⟩ = some (str p1) := HCA.out 1 p1 hp1 w4 HC4.out
            have FU := Lib.hid (bytes_any p1 (HLEN.out p1 (List.mem_of_getElem? hp1)) w4)
            clear hp1 HP HLEN HLL HCA
            go_wp2_with fail
            refine FU.out.mono ?_
            rintro e w5 ⟨uv, ok, rfl, hok, hbad, ⟨A, nn, cc, rfl⟩, hc5⟩
            have HC5 := Lib.hid (HCW.out.trans hc5)
            have hBG := HBG.out.chg hc5 (by simp)
            have hB8 := HB8.out.chg hc5 (by simp)
            clear FU c1 hc5
            cases ok with
            | false =>
              have HNN : Hid (lineP l = none) := Lib.hid (by rw [HQ.out, hbad rfl]; rfl)
              clear hok hbad HQ
              go_wp2_with (first
                | (refine wpList_store_blk (vs := arrZ) rfl 35 (.tmp 2) (.tmp 48) rfl rfl hBG rfl rfl rfl (by kernel_rfl) rfl ?_; intro w9 hB9 hc9)
                | fail)
              refine bodyPost_ret (results_blk2 rfl rfl hB9 _ Tryd.underlying35 rfl (by kernel_rfl)) rfl ?_
              exact ⟨St0, .slice none 0 0, 14, rfl, .inr ⟨rfl, HNN.out, rfl⟩, Sl.nil _ _ _, HC5.out.trans' hc9 (by intro x hx; simp at hx; subst hx; exact .inr (by rw [HGR.out]; exact Nat.le_refl _))⟩
            | true =>
              obtain ⟨bs, hb1, hb2⟩ := hok rfl
              have HNN : Hid (lineP l = some ⟨13, 0, 0, 0, bs⟩) := Lib.hid (by rw [HQ.out, hb1]; rfl)
              have HY := Lib.hid hb2
              have c8 : w5.cell? ⟨g8, 4, none⟩ = some (.slice none 0 0) := hB8.cell 4
              have f8 := hB8.frozen 4
              have hB8' : Blk (w5.setCell ⟨g8, 4, none⟩ (.slice A nn cc)) g8 35 #[.int .i64 13, .int .i64 0, .int .i64 0, .int .i64 0, .slice A nn cc] := hB8.set_ 4 _
              have hBG' : Blk (w5.setCell ⟨g8, 4, none⟩ (.slice A nn cc)) g 35 arrZ := hBG.far (p := ⟨g8, 4, none⟩) HG8.out.2 _
              have HC6 := Lib.hid (HC5.out.setCell (p := ⟨g8, 4, none⟩) (.inr HG8.out.1) (.slice A nn cc))
              have HC7 : Hid (Chg [g8] w5 (w5.setCell ⟨g8, 4, none⟩ (.slice A nn cc))) := Lib.hid ((Chg.refl [g8] w5).setCell (p := ⟨g8, 4, none⟩) (.inl (by simp)) _)
              clear hb1 hb2 hok hbad HQ hB8 hBG
              go_wp2_with (first
                | (refine wpList_load_blk rfl 35 (.tmp 8) rfl hB8' rfl _ Tryd.underlying35 rfl (by kernel_rfl) ?_)
                | (refine wpList_store_blk (vs := #[.int .i64 13, .int .i64 0, .int .i64 0, .int .i64 0, .slice A nn cc]) rfl 35 (.tmp 2) (.tmp 51) rfl rfl hBG' rfl rfl rfl (by kernel_rfl) rfl ?_; intro w9 hB9 hc9)
                | fail)
              refine bodyPost_ret (results_blk2 rfl rfl hB9 _ Tryd.underlying35 rfl (by kernel_rfl)) rfl ?_
              refine ⟨⟨13, 0, 0, 0, bs⟩, .slice A nn cc, 0, rfl, .inl ⟨rfl, HNN.out⟩, ?_, HC6.out.trans' hc9 (by intro x hx; simp at hx; subst hx; exact .inr (by rw [HGR.out]; exact Nat.le_refl _))⟩
              have hz := HB8.out.lt
              have hzg := HBG.out.lt
              exact Sl.less (Sl.chg (Sl.chg HY.out HC7.out (by intro x hx; simp at hx; subst hx; exact hz)) hc9 (by intro x hx; simp at hx; subst hx; exact hzg)) HCW.out.size
          · have HNN : Hid (lineP l = none) := Lib.hid (by rw [HP.out, HKD.out, if_neg (fun e => hl2 e.2), if_pos (.inr (.inl rfl))])
            have hl2' : ((L.length : Int) == 2) = false := by rw [beq_eq_false_iff_ne]; omega
            have hBG := HBG.out
            clear HP HLEN HLL HCA
            go_wp2_with (first
              | (refine wpList_store_blk (vs := arrZ) rfl 35 (.tmp 2) (.tmp 38) rfl rfl hBG rfl rfl rfl (by kernel_rfl) rfl ?_; intro w9 hB9 hc9)
              | fail)
            refine bodyPost_ret (results_blk2 rfl rfl hB9 _ Tryd.underlying35 rfl (by kernel_rfl)) rfl ?_
            exact ⟨St0, .slice none 0 0, 14, rfl, .inr ⟨rfl, HNN.out, rfl⟩, Sl.nil _ _ _, HCW.out.trans' hc9 (by intro x hx; simp at hx; subst hx; exact .inr (by rw [HGR.out]; exact Nat.le_refl _))⟩
        · have ek : ((k : Int) == 13) = false := by rw [beq_eq_false_iff_ne]; omega
          by_cases hln : L.length = manyP (k : Int) + 1
          · have hq3 := manyP_le (k : Int)
            have HQ : Hid (lineP l = (numsP (L.drop 1)).map fun xs => ⟨(k : Int), xs.getD 0 0, xs.getD 1 0, xs.getD 2 0, []⟩) := Lib.hid (by
              rw [HP.out, HKD.out, if_neg (fun e => hk13 (by omega)), if_neg (by
                rintro (e | e | e)
                · omega
                · exact hk13 (by omega)
                · exact e hln)])
            have HX : Hid (∀ i, i < L.length → ∃ p, L[i]? = some p ∧ p.length ≤ 1000000) := Lib.hid fun i hi => ⟨_, List.getElem?_eq_getElem hi, HLEN.out _ (List.getElem_mem hi)⟩
            have HDL : Hid ((L.drop 1).length = L.length - 1) := Lib.hid (by rw [List.length_drop])
            have hA5 := (Chg.refl [] w4).alloc (.cells (padI []) 57)
            have hb11 : Blk (w4.alloc (.cells (padI []) 57)) w4.heap.size 57 (padI []) := Blk.new _ _ _
            have HI5 := Lib.hid (And.intro hA5 hb11)
            have HZ4 : Hid (g < w4.heap.size ∧ g8 < w4.heap.size) := Lib.hid ⟨HBG.out.lt, HB8.out.lt⟩
            clear hA5 hb11 HP HLEN HLL
            generalize manyP (k : Int) = q at *
            generalize L.length = n at *
            subst hln
            go_wp2_with fail
            go_loopw [12] (fun iv wr => ∃ (j : Nat) (xs : List Int), j ≤ q ∧ iv = .int .i64 j ∧ Hid (numsP ((L.drop 1).take j) = some xs ∧ xs.length = j) ∧ Hid (Chg [] w4 wr) ∧ Hid (Blk wr w4.heap.size 57 (padI xs))) (fun iv _ => q - (intOf iv).toNat)
            case atStart => exact ⟨0, [], by omega, rfl, Lib.hid ⟨by simp [numsP], rfl⟩, Lib.hid HI5.out.1, Lib.hid HI5.out.2⟩
            case round =>
              obtain ⟨j, xs, hj, rfl, HN, HC, HB⟩ := hrel
              by_cases hjq : j < q
              · have hcj : (j : Int) < (q : Int) := by omega
                obtain ⟨p, hp, hpl⟩ := HX.out (j + 1) (by omega)
                have c1 : wr.cell? ⟨wb, j + 1, none⟩ = some (str p) := HCA.out (j + 1) p hp wr (HC4.out.trans HC.out)
                have FU := Lib.hid (number_any p hpl wr)
                have hj3 : j < 3 := by omega
                have HPJ := Lib.hid hp
                clear hp HX HCA
                go_wp2_with fail
                refine FU.out.mono ?_
                rintro e w5 ⟨v, ok, rfl, hnp, hc5⟩
                have HC5 := Lib.hid (HC.out.trans hc5)
                have HB5 := Lib.hid (HB.out.chg hc5 (by simp))
                have HDJ : Hid ((L.drop 1)[j]? = some p) := Lib.hid (by rw [List.getElem?_drop, Nat.add_comm]; exact HPJ.out)
                clear FU hc5 HC HB c1
                cases ok with
                | false =>
                  have HNN : Hid (lineP l = none) := Lib.hid (by rw [HQ.out, numsP_bad (by simpa using hnp) (List.mem_of_getElem? HDJ.out)]; rfl)
                  have hBG := HBG.out.chg HC5.out (by simp)
                  clear hnp HQ
                  go_wp2_with (first
                    | (refine wpList_store_blk (vs := arrZ) rfl 35 (.tmp 2) (.tmp 74) rfl rfl hBG rfl rfl rfl (by kernel_rfl) rfl ?_; intro w9 hB9 hc9)
                    | fail)
                  refine bodyPost_ret (results_blk2 rfl rfl hB9 _ Tryd.underlying35 rfl (by kernel_rfl)) rfl ?_
                  exact ⟨St0, .slice none 0 0, 14, rfl, .inr ⟨rfl, HNN.out, rfl⟩, Sl.nil _ _ _, (HCW.out.trans HC5.out).trans' hc9 (by intro x hx; simp at hx; subst hx; exact .inr (by rw [HGR.out]; exact Nat.le_refl _))⟩
                | true =>
                  have HNV := Lib.hid (numsP_snoc (show numP p = some v by simpa using hnp) HN.out.1)
                  have hxk : xs.length = j := HN.out.2
                  have c11 : w5.cell? ⟨w4.heap.size, j, none⟩ = some (.int .i64 (xs.getD j 0)) := by rw [HB5.out.cell, padI_at hj3]
                  have f11 := HB5.out.frozen j
                  have hB' : Blk (w5.setCell ⟨w4.heap.size, j, none⟩ (.int .i64 v)) w4.heap.size 57 (padI (xs ++ [v])) := by
                    have := HB5.out.set_ j (.int .i64 v)
                    have e9 := padI_set (xs := xs) (v := v) (by omega)
                    rw [hxk] at e9
                    rwa [e9] at this
                  have HB6 := Lib.hid hB'
                  have HC6 := Lib.hid (HC5.out.setCell (p := ⟨w4.heap.size, j, none⟩) (.inr (Nat.le_refl _)) (.int .i64 v))
                  have HN3 : Hid (numsP ((L.drop 1).take (j + 1)) = some (xs ++ [v]) ∧ (xs ++ [v]).length = j + 1) := Lib.hid ⟨by rw [List.take_add_one, HDJ.out]; exact HNV.out, by simp [hxk]⟩
                  clear hB' HB5 HC5 HNV HN hnp HPJ HDJ hxk
                  go_wp2_with fail
                  go_roundw
                  case rel => exact ⟨j + 1, xs ++ [v], by omega, by go_num, HN3, HC6, HB6⟩
                  case measure => simp [intOf] <;> omega
              · obtain rfl : j = q := by omega
                have HNN : Hid (lineP l = some ⟨(k : Int), xs.getD 0 0, xs.getD 1 0, xs.getD 2 0, []⟩) := Lib.hid (by
                  have := HN.out.1
                  rw [List.take_of_length_le (by rw [HDL.out]; omega)] at this
                  rw [HQ.out, this]
                  rfl)
                have hB8 := HB8.out.chg HC.out (by simp)
                have hBG := HBG.out.chg HC.out (by simp)
                have hB11 := HB.out
                have HCX := Lib.hid (HCW.out.trans HC.out)
                have HSEP : Hid (g8 ≠ w4.heap.size ∧ g ≠ g8 ∧ w.heap.size ≤ g8) := Lib.hid ⟨by have := HZ4.out.2; omega, HG8.out.2, HG8.out.1⟩
                unfold padI at hB11
                clear HN HQ HX HCA HC HB
                generalize hx0 : xs.getD 0 0 = x0 at *
                generalize hx1 : xs.getD 1 0 = x1 at *
                generalize hx2 : xs.getD 2 0 = x2 at *
                generalize w4.heap.size = ga at *
                go_upto_region 26 with fail
                refine wp_region_noPanic ?_
                have hS0 : (fun W : World => Blk W ga 57 #[.int .i64 x0, .int .i64 x1, .int .i64 x2]) wr.drew := hB11.drew
                have HS0 : ∀ W : World, (fun W : World => Blk W ga 57 #[.int .i64 x0, .int .i64 x1, .int .i64 x2]) W → W.cell? ⟨ga, 0, none⟩ = some (.int .i64 x0) := fun W h => Blk.cell h 0
                have HS1 : ∀ W : World, (fun W : World => Blk W ga 57 #[.int .i64 x0, .int .i64 x1, .int .i64 x2]) W → W.cell? ⟨ga, 1, none⟩ = some (.int .i64 x1) := fun W h => Blk.cell h 1
                have HS2 : ∀ W : World, (fun W : World => Blk W ga 57 #[.int .i64 x0, .int .i64 x1, .int .i64 x2]) W → W.cell? ⟨ga, 2, none⟩ = some (.int .i64 x2) := fun W h => Blk.cell h 2
                have hB8d := hB8.drew
                have hBGd := hBG.drew
                have HCd := Lib.hid HCX.out.drew
                refine wp_region_held_drew (S := fun W : World => Blk W ga 57 #[.int .i64 x0, .int .i64 x1, .int .i64 x2]) (by kernel_rfl) hS0 (fun _ => ?_)
                clear hB8 hBG hB11 HCX
                generalize wr.drew = wd at *
                have k1 : wd.cell? ⟨g8, 1, none⟩ = some (.int .i64 0) := hB8d.cell 1
                have f1 := hB8d.frozen 1
                have hB1 : Blk (wd.setCell ⟨g8, 1, none⟩ (.int .i64 x0)) g8 35 #[.int .i64 (k : Int), .int .i64 x0, .int .i64 0, .int .i64 0, .slice none 0 0] := hB8d.set_ 1 _
                have hG1 := hBGd.far (p := ⟨g8, 1, none⟩) HSEP.out.2.1 (.int .i64 x0)
                have hS1 : (fun W : World => Blk W ga 57 #[.int .i64 x0, .int .i64 x1, .int .i64 x2]) (wd.setCell ⟨g8, 1, none⟩ (.int .i64 x0)) := Blk.far hS0 (p := ⟨g8, 1, none⟩) (Ne.symm HSEP.out.1) _
                have HC1 := Lib.hid (HCd.out.setCell (p := ⟨g8, 1, none⟩) (.inr HSEP.out.2.2) (.int .i64 x0))
                refine wpAnyH_take (i := 0) (v := ?_) rfl (by kernel_rfl) (by kernel_rfl) (by kernel_rfl) (fun _ _ _ h => h) (yields_pure (by rfl) (fun w => ?_)) (by with_reducible assumption) ?_
                rotate_left
                · (go_simp <;> with_reducible rfl)
                try simp only [List.getElem_toArray, List.getElem_cons_succ, List.getElem_cons_zero, Act.put, List.setIfInBounds_toArray, List.set_cons_zero, List.set_cons_succ]
                refine wpAnyH_take (i := 1) rfl (by kernel_rfl) (by kernel_rfl) (by kernel_rfl) (fun _ _ _ h => h) (yields_cell (by rfl) 3 (.tmp 78) rfl ga 0 rfl (.int .i64 x0) _ HS0 Tryd.underlying3 rfl) (by with_reducible assumption) ?_
                try simp only [List.getElem_toArray, List.getElem_cons_succ, List.getElem_cons_zero, Act.put, List.setIfInBounds_toArray, List.set_cons_zero, List.set_cons_succ]
                refine wpAnyH_take (i := 2) (v := ?_) rfl (by kernel_rfl) (by kernel_rfl) (by kernel_rfl) (fun _ _ _ h => h) (yields_pure (by rfl) (fun w => ?_)) (by with_reducible assumption) ?_
                rotate_left
                · (go_simp <;> with_reducible rfl)
                try simp only [List.getElem_toArray, List.getElem_cons_succ, List.getElem_cons_zero, Act.put, List.setIfInBounds_toArray, List.set_cons_zero, List.set_cons_succ]
                refine wpAnyH_take (i := 3) rfl (by kernel_rfl) (by kernel_rfl) (by kernel_rfl) (fun _ _ _ h => h) (yields_cell (by rfl) 3 (.tmp 80) rfl ga 1 rfl (.int .i64 x1) _ HS1 Tryd.underlying3 rfl) (by with_reducible assumption) ?_
                try simp only [List.getElem_toArray, List.getElem_cons_succ, List.getElem_cons_zero, Act.put, List.setIfInBounds_toArray, List.set_cons_zero, List.set_cons_succ]
                refine wpAnyH_take (i := 4) (v := ?_) rfl (by kernel_rfl) (by kernel_rfl) (by kernel_rfl) (fun _ _ _ h => h) (yields_pure (by rfl) (fun w => ?_)) (by with_reducible assumption) ?_
                rotate_left
                · (go_simp <;> with_reducible rfl)
                try simp only [List.getElem_toArray, List.getElem_cons_succ, List.getElem_cons_zero, Act.put, List.setIfInBounds_toArray, List.set_cons_zero, List.set_cons_succ]
                refine wpAnyH_take (i := 5) rfl (by kernel_rfl) (by kernel_rfl) (by kernel_rfl) (fun _ _ _ h => h) (yields_cell (by rfl) 3 (.tmp 82) rfl ga 2 rfl (.int .i64 x2) _ HS2 Tryd.underlying3 rfl) (by with_reducible assumption) ?_
                try simp only [List.getElem_toArray, List.getElem_cons_succ, List.getElem_cons_zero, Act.put, List.setIfInBounds_toArray, List.set_cons_zero, List.set_cons_succ]
                refine wpAnyH_take (i := 6) (v := ?_) rfl (by kernel_rfl) (by kernel_rfl) (by kernel_rfl) (fun _ _ _ h => h) (yields_pure (by rfl) (fun w => ?_)) (by with_reducible assumption) ?_
                rotate_left
                · (go_simp <;> with_reducible rfl)
                try simp only [List.getElem_toArray, List.getElem_cons_succ, List.getElem_cons_zero, Act.put, List.setIfInBounds_toArray, List.set_cons_zero, List.set_cons_succ]
                refine wpAnyH_ready (rs := [7]) (by kernel_rfl) (by simp) (AllReadyH.cons rfl (fun K hK => ?_) AllReadyH.nil)
                go_simp
                refine hK.out _ _ (by with_reducible assumption) (fun _ => ?_)
                clear hK K
                try simp only [List.getElem_toArray, List.getElem_cons_succ, List.getElem_cons_zero, Act.put, List.setIfInBounds_toArray, List.set_cons_zero, List.set_cons_succ]
                clear k1 f1
                generalize wd.setCell ⟨g8, 1, none⟩ (.int .i64 x0) = wd1 at *
                have k2 : wd1.cell? ⟨g8, 2, none⟩ = some (.int .i64 0) := hB1.cell 2
                have f2 := hB1.frozen 2
                have hB2 : Blk (wd1.setCell ⟨g8, 2, none⟩ (.int .i64 x1)) g8 35 #[.int .i64 (k : Int), .int .i64 x0, .int .i64 x1, .int .i64 0, .slice none 0 0] := hB1.set_ 2 _
                have hG2 := hG1.far (p := ⟨g8, 2, none⟩) HSEP.out.2.1 (.int .i64 x1)
                have hS2 : (fun W : World => Blk W ga 57 #[.int .i64 x0, .int .i64 x1, .int .i64 x2]) (wd1.setCell ⟨g8, 2, none⟩ (.int .i64 x1)) := Blk.far hS1 (p := ⟨g8, 2, none⟩) (Ne.symm HSEP.out.1) _
                have HC2' := Lib.hid (HC1.out.setCell (p := ⟨g8, 2, none⟩) (.inr HSEP.out.2.2) (.int .i64 x1))
                refine wpAnyH_take (i := 8) (v := ?_) rfl (by kernel_rfl) (by kernel_rfl) (by kernel_rfl) (fun _ _ _ h => h) (yields_pure (by rfl) (fun w => ?_)) (by with_reducible assumption) ?_
                rotate_left
                · (go_simp <;> with_reducible rfl)
                try simp only [List.getElem_toArray, List.getElem_cons_succ, List.getElem_cons_zero, Act.put, List.setIfInBounds_toArray, List.set_cons_zero, List.set_cons_succ]
                refine wpAnyH_ready (rs := [9]) (by kernel_rfl) (by simp) (AllReadyH.cons rfl (fun K hK => ?_) AllReadyH.nil)
                go_simp
                refine hK.out _ _ (by with_reducible assumption) (fun _ => ?_)
                clear hK K
                try simp only [List.getElem_toArray, List.getElem_cons_succ, List.getElem_cons_zero, Act.put, List.setIfInBounds_toArray, List.set_cons_zero, List.set_cons_succ]
                clear k2 f2
                generalize wd1.setCell ⟨g8, 2, none⟩ (.int .i64 x1) = wd2 at *
                have k3 : wd2.cell? ⟨g8, 3, none⟩ = some (.int .i64 0) := hB2.cell 3
                have f3 := hB2.frozen 3
                have hB3 : Blk (wd2.setCell ⟨g8, 3, none⟩ (.int .i64 x2)) g8 35 #[.int .i64 (k : Int), .int .i64 x0, .int .i64 x1, .int .i64 x2, .slice none 0 0] := hB2.set_ 3 _
                have hG3 := hG2.far (p := ⟨g8, 3, none⟩) HSEP.out.2.1 (.int .i64 x2)
                have hS3 : (fun W : World => Blk W ga 57 #[.int .i64 x0, .int .i64 x1, .int .i64 x2]) (wd2.setCell ⟨g8, 3, none⟩ (.int .i64 x2)) := Blk.far hS2 (p := ⟨g8, 3, none⟩) (Ne.symm HSEP.out.1) _
                have HC3' := Lib.hid (HC2'.out.setCell (p := ⟨g8, 3, none⟩) (.inr HSEP.out.2.2) (.int .i64 x2))
                refine wpAnyH_take (i := 10) (v := ?_) rfl (by kernel_rfl) (by kernel_rfl) (by kernel_rfl) (fun _ _ _ h => h) (yields_pure (by rfl) (fun w => ?_)) (by with_reducible assumption) ?_
                rotate_left
                · (go_simp <;> with_reducible rfl)
                try simp only [List.getElem_toArray, List.getElem_cons_succ, List.getElem_cons_zero, Act.put, List.setIfInBounds_toArray, List.set_cons_zero, List.set_cons_succ]
                refine wpAnyH_ready (rs := [11]) (by kernel_rfl) (by simp) (AllReadyH.cons rfl (fun K hK => ?_) AllReadyH.nil)
                go_simp
                refine hK.out _ _ (by with_reducible assumption) (fun _ => ?_)
                clear hK K
                try simp only [List.getElem_toArray, List.getElem_cons_succ, List.getElem_cons_zero, Act.put, List.setIfInBounds_toArray, List.set_cons_zero, List.set_cons_succ]
                refine wpAnyH_done (by kernel_rfl) ?_ _
                refine NoPanic.normal ?_
                clear k3 f3 hS0 hS1 hS2 hS3 HS0 HS1 HS2 hB8d hBGd hB1 hB2 hG1 hG2
                generalize wd2.setCell ⟨g8, 3, none⟩ (.int .i64 x2) = wd3 at *
                go_wp2_with (first
                  | (refine wpList_load_blk rfl 35 (.tmp 8) rfl hB3 rfl _ Tryd.underlying35 rfl (by kernel_rfl) ?_)
                  | (refine wpList_store_blk (vs := #[.int .i64 (k : Int), .int .i64 x0, .int .i64 x1, .int .i64 x2, .slice none 0 0]) rfl 35 (.tmp 2) (.tmp 87) rfl rfl hG3 rfl rfl rfl (by kernel_rfl) rfl ?_; intro w9 hB9 hc9)
                  | fail)
                refine bodyPost_ret (results_blk2 rfl rfl hB9 _ Tryd.underlying35 rfl (by kernel_rfl)) rfl ?_
                exact ⟨⟨(k : Int), x0, x1, x2, []⟩, .slice none 0 0, 0, rfl, .inl ⟨rfl, HNN.out⟩, Sl.nil _ _ _, HC3'.out.trans' hc9 (by intro x hx; simp at hx; subst hx; exact .inr (by rw [HGR.out]; exact Nat.le_refl _))⟩
          · have HNN : Hid (lineP l = none) := Lib.hid (by rw [HP.out, HKD.out, if_neg (fun e => hk13 (by omega)), if_pos (.inr (.inr hln))])
            have hq3 := manyP_le (k : Int)
            have hw1 : IntKind.i64.wrap ((manyP (k : Int) : Int) + 1) = (manyP (k : Int) : Int) + 1 := by rw [IntKind.wrap_i64]; omega
            have hl2' : ((L.length : Int) == (manyP (k : Int) : Int) + 1) = false := by rw [beq_eq_false_iff_ne]; omega
            have hBG := HBG.out
            clear HP HLEN HLL HCA
            go_wp2_with (first
              | (refine wpList_store_blk (vs := arrZ) rfl 35 (.tmp 2) (.tmp 57) rfl rfl hBG rfl rfl rfl (by kernel_rfl) rfl ?_; intro w9 hB9 hc9)
              | fail)
            refine bodyPost_ret (results_blk2 rfl rfl hB9 _ Tryd.underlying35 rfl (by kernel_rfl)) rfl ?_
            exact ⟨St0, .slice none 0 0, 14, rfl, .inr ⟨rfl, HNN.out, rfl⟩, Sl.nil _ _ _, HCW.out.trans' hc9 (by intro x hx; simp at hx; subst hx; exact .inr (by rw [HGR.out]; exact Nat.le_refl _))⟩
      · have heq : ((bsA pk).toList == (bsA p0).toList) = false := by rw [eqS]; exact decide_eq_false hm
        have HN' : Hid (∀ j, j < k + 1 → kindsL.getD j [] ≠ p0) := Lib.hid fun j hj => by
          rcases Nat.lt_or_ge j k with h3 | h3
          · exact HN.out j h3
          · obtain rfl : j = k := by omega
            rw [HPK.out]
            exact hm
        clear hm HN HP HLEN HLL HCA HSC
        go_wp2_with fail
        go_roundw
        case rel => exact ⟨k + 1, by omega, by go_num, HN', HC3⟩
        case measure => simp [intOf] <;> omega
    · obtain rfl : k = 14 := by omega
      have HN2 : Hid (lineP l = none) := Lib.hid (by
        rw [HP.out, kind_miss HN.out, if_neg (by omega), if_pos (.inl (by omega))])
      have hB := HB2.out.chg HC.out (by simp)
      clear HN HP HLEN HLL HCA HSC
      go_wp2_with (first
        | (refine wpList_store_blk (vs := arrZ) rfl 35 (.tmp 2) (.tmp 88) rfl rfl hB rfl rfl rfl (by kernel_rfl) rfl ?_; intro w9 hB9 hc9)
        | fail)
      refine bodyPost_ret (results_blk2 rfl rfl hB9 _ Tryd.underlying35 rfl (by kernel_rfl)) rfl ?_
      exact ⟨St0, .slice none 0 0, 14, rfl, .inr ⟨rfl, HN2.out, rfl⟩, Sl.nil _ _ _, (HC2.out.trans HC.out).trans' hc9 (by intro x hx; simp at hx; subst hx; exact .inr (by rw [HGR.out]; exact Nat.le_refl _))⟩
end Go.Proofs.YtljgemknccodeaaDoor
