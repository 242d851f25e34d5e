/-
  CONTRACT: the program's Text. Conditions: Gl, lengths.
-/
import Derived.Test.YtljgemknccodeaaDoorScI
set_option linter.unusedVariables false
set_option linter.unusedSimpArgs false
namespace Go.Proofs.YtljgemknccodeaaDoor
open Go.RowKit

set_option maxRecDepth 100000 in
set_option maxHeartbeats 4000000 in
theorem text_any {w : World} {B : Nat} {v : Value} {s : St} (h : SlY w B v s.b) (hok : OkSt s) (hg : Gl w) : Calls Tryd.prog 15 #[.agg (arrSt s v)] w fun e w' => e = .returned (str (textP s)) ∧ Chg [] w w' := by
  obtain ⟨A, c, rfl⟩ := Sl.form h
  have hA := (Chg.refl [] w).alloc (.cells (arrSt s (.slice A s.b.length c)) 32)
  have hB : Blk (w.alloc (.cells (arrSt s (.slice A s.b.length c)) 32)) w.heap.size 32 (arrSt s (.slice A s.b.length c)) := Blk.new _ _ _
  have h1 := Sl.chg0 h hA
  have HI := Lib.hid (And.intro hA (And.intro hB h1))
  have HG := Lib.hid (hg.chg hA)
  clear h h1 hA hB hg
  go_enter Tryd.func15, Tryd.ntmps15
  go_upto_region 1 with fail
  generalize w.alloc (.cells (arrSt s (.slice A s.b.length c)) 32) = w1 at *
  generalize w.heap.size = g at *
  go_wp2_with fail
  refine (kinds_any HG.out).mono ?_
  rintro e w2 ⟨kv, rfl, hks, hc2⟩
  have HC2 := Lib.hid (HI.out.1.trans hc2)
  have HB2 := Lib.hid (HI.out.2.1.chg hc2 (by simp))
  have HY2 := Lib.hid (Sl.chg0 HI.out.2.2 hc2)
  have HG2 := Lib.hid (HG.out.chg hc2)
  obtain ⟨kb, kcap, rfl, _, _⟩ := own_form hks (by rw [kinds_len]; omega)
  have HK := Lib.hid hks.sl
  rw [kinds_len] at *
  clear HI HG hc2 hks
  have c0 : w2.cell? ⟨g, 0, none⟩ = some (.int .i64 s.kind) := HB2.out.cell 0
  by_cases hin : 0 ≤ s.kind ∧ s.kind ≤ 13
  · obtain ⟨m, hm⟩ : ∃ m : Nat, s.kind = m := ⟨s.kind.toNat, by omega⟩
    have hm14 : m < 14 := by omega
    have HQ : Hid (numW s.kind = manyP s.kind) := Lib.hid (by unfold numW; rw [if_pos hin])
    have HW : Hid (wordP s.kind = kindsL.getD m []) := Lib.hid (by unfold wordP; rw [if_pos hin, hm]; rfl)
    have hkc : w2.cell? ⟨kb, m, none⟩ = some (str (wordP s.kind)) := by
      obtain ⟨b', o', c', e', _, hcell⟩ := SlS.at_ HK.out (List.getElem?_eq_getElem (show m < kindsL.length by rw [kinds_len]; exact hm14))
      cases e'
      rw [Nat.zero_add] at hcell
      rw [hcell, HW.out, List.getD_eq_getElem?_getD, List.getElem?_eq_getElem (show m < kindsL.length by rw [kinds_len]; exact hm14)]
      rfl
    have hkn : ¬ s.kind < 0 := by omega
    have hk14 : ¬ (14 : Int) ≤ s.kind := by omega
    have hmn : s.kind.toNat = m := by omega
    have hlt14 : s.kind < 14 := by omega
    have hge : 0 ≤ s.kind := by omega
    clear hm hin
    have hq3 := manyP_le s.kind
    have hq3' : (manyP s.kind : Int) ≤ 3 := by omega
    go_upto_region 5 with fail
    go_cut [33, 34, 35] from 23 to 35 (fun sv nv iv wx => nv = .int .i64 (manyP s.kind) ∧ iv = .int .i64 0 ∧ (∃ ga, sv = .slice (some ⟨ga, 0, none⟩) (manyP s.kind) 3 ∧ Hid (Blk wx ga 3 #[.int .i64 s.n, .int .i64 s.m, .int .i64 s.k])) ∧ Hid (Chg [] w2 wx))
    case first =>
      refine wp_region_noPanic ?_
      have hS0 : (fun W : World => Blk W g 32 (arrSt s (.slice A s.b.length c))) w2.drew := HB2.out.drew
      have HS0 : ∀ W : World, (fun W : World => Blk W g 32 (arrSt s (.slice A s.b.length c))) W → W.cell? ⟨g, 0, none⟩ = some (.int .i64 s.kind) := fun W h => Blk.cell h 0
      have HS1 : ∀ W : World, (fun W : World => Blk W g 32 (arrSt s (.slice A s.b.length c))) W → W.cell? ⟨g, 1, none⟩ = some (.int .i64 s.n) := fun W h => Blk.cell h 1
      have HS2 : ∀ W : World, (fun W : World => Blk W g 32 (arrSt s (.slice A s.b.length c))) W → W.cell? ⟨g, 2, none⟩ = some (.int .i64 s.m) := fun W h => Blk.cell h 2
      have HS3 : ∀ W : World, (fun W : World => Blk W g 32 (arrSt s (.slice A s.b.length c))) W → W.cell? ⟨g, 3, none⟩ = some (.int .i64 s.k) := fun W h => Blk.cell h 3
      have hCd : Chg [] w2 w2.drew := (Chg.refl [] w2).drew
      refine wp_region_held_drew (S := fun W : World => Blk W g 32 (arrSt s (.slice A s.b.length c))) (by kernel_rfl) hS0 (fun _ => ?_)
      generalize w2.drew = wd at *
      refine wpAnyH_take (i := 0) (v := ?_) rfl (by kernel_rfl) (by kernel_rfl) (by kernel_rfl) (fun _ _ _ h => h) (yields_pure (by rfl) (fun w => ?_)) (by with_reducible assumption) ?_
      rotate_left
      · (go_simp <;> with_reducible rfl)
      try simp only [List.getElem_toArray, List.getElem_cons_succ, List.getElem_cons_zero, Act.put, List.setIfInBounds_toArray, List.set_cons_zero, List.set_cons_succ]
      refine wpAnyH_take (i := 1) rfl (by kernel_rfl) (by kernel_rfl) (by kernel_rfl) (fun _ _ _ h => h) (yields_cell (by rfl) 3 (.tmp 23) rfl g 1 rfl (.int .i64 s.n) _ HS1 Tryd.underlying3 rfl) (by with_reducible assumption) ?_
      try simp only [List.getElem_toArray, List.getElem_cons_succ, List.getElem_cons_zero, Act.put, List.setIfInBounds_toArray, List.set_cons_zero, List.set_cons_succ]
      refine wpAnyH_take (i := 2) (v := ?_) rfl (by kernel_rfl) (by kernel_rfl) (by kernel_rfl) (fun _ _ _ h => h) (yields_pure (by rfl) (fun w => ?_)) (by with_reducible assumption) ?_
      rotate_left
      · (go_simp <;> with_reducible rfl)
      try simp only [List.getElem_toArray, List.getElem_cons_succ, List.getElem_cons_zero, Act.put, List.setIfInBounds_toArray, List.set_cons_zero, List.set_cons_succ]
      refine wpAnyH_take (i := 3) rfl (by kernel_rfl) (by kernel_rfl) (by kernel_rfl) (fun _ _ _ h => h) (yields_cell (by rfl) 3 (.tmp 25) rfl g 2 rfl (.int .i64 s.m) _ HS2 Tryd.underlying3 rfl) (by with_reducible assumption) ?_
      try simp only [List.getElem_toArray, List.getElem_cons_succ, List.getElem_cons_zero, Act.put, List.setIfInBounds_toArray, List.set_cons_zero, List.set_cons_succ]
      refine wpAnyH_take (i := 4) (v := ?_) rfl (by kernel_rfl) (by kernel_rfl) (by kernel_rfl) (fun _ _ _ h => h) (yields_pure (by rfl) (fun w => ?_)) (by with_reducible assumption) ?_
      rotate_left
      · (go_simp <;> with_reducible rfl)
      try simp only [List.getElem_toArray, List.getElem_cons_succ, List.getElem_cons_zero, Act.put, List.setIfInBounds_toArray, List.set_cons_zero, List.set_cons_succ]
      refine wpAnyH_take (i := 5) rfl (by kernel_rfl) (by kernel_rfl) (by kernel_rfl) (fun _ _ _ h => h) (yields_cell (by rfl) 3 (.tmp 27) rfl g 3 rfl (.int .i64 s.k) _ HS3 Tryd.underlying3 rfl) (by with_reducible assumption) ?_
      try simp only [List.getElem_toArray, List.getElem_cons_succ, List.getElem_cons_zero, Act.put, List.setIfInBounds_toArray, List.set_cons_zero, List.set_cons_succ]
      refine wpAnyH_take (i := 7) (v := ?_) rfl (by kernel_rfl) (by kernel_rfl) (by kernel_rfl) (fun _ _ _ h => h) (yields_pure (by rfl) (fun w => ?_)) (by with_reducible assumption) ?_
      rotate_left
      · (go_simp <;> with_reducible rfl)
      try simp only [List.getElem_toArray, List.getElem_cons_succ, List.getElem_cons_zero, Act.put, List.setIfInBounds_toArray, List.set_cons_zero, List.set_cons_succ]
      refine wpAnyH_take (i := 12) (v := ?_) rfl (by kernel_rfl) (by kernel_rfl) (by kernel_rfl) (fun _ _ _ h => h) (yields_pure (by rfl) (fun w => ?_)) (by with_reducible assumption) ?_
      rotate_left
      · (go_simp <;> with_reducible rfl)
      try simp only [List.getElem_toArray, List.getElem_cons_succ, List.getElem_cons_zero, Act.put, List.setIfInBounds_toArray, List.set_cons_zero, List.set_cons_succ]
      refine wpAnyH_take (i := 8) rfl (by kernel_rfl) (by kernel_rfl) (by kernel_rfl) (fun _ _ _ h => h) (yields_cell (by rfl) 3 (.tmp 30) rfl g 0 rfl (.int .i64 s.kind) _ HS0 Tryd.underlying3 rfl) (by with_reducible assumption) ?_
      try simp only [List.getElem_toArray, List.getElem_cons_succ, List.getElem_cons_zero, Act.put, List.setIfInBounds_toArray, List.set_cons_zero, List.set_cons_succ]
      refine wpAnyH_ready (rs := [6, 9]) (by kernel_rfl) (by simp) (AllReadyH.cons rfl (fun K hK => ?_) (AllReadyH.cons rfl (fun K hK => ?_) AllReadyH.nil))
      · go_simp
        have hAl := hCd.alloc (.cells #[.int .i64 s.n, .int .i64 s.m, .int .i64 s.k] 3)
        have hBl : Blk (wd.alloc (.cells #[.int .i64 s.n, .int .i64 s.m, .int .i64 s.k] 3)) wd.heap.size 3 #[.int .i64 s.n, .int .i64 s.m, .int .i64 s.k] := Blk.new _ _ _
        have hS1 : (fun W : World => Blk W g 32 (arrSt s (.slice A s.b.length c))) (wd.alloc (.cells #[.int .i64 s.n, .int .i64 s.m, .int .i64 s.k] 3)) := hS0.alloc _
        refine hK.out _ _ (by with_reducible assumption) (fun _ => ?_)
        clear hK K
        try simp only [List.getElem_toArray, List.getElem_cons_succ, List.getElem_cons_zero, Act.put, List.setIfInBounds_toArray, List.set_cons_zero, List.set_cons_succ]
        refine wpAnyH_ready (rs := [9]) (by kernel_rfl) (by simp) (AllReadyH.cons rfl (fun K hK => ?_) AllReadyH.nil)
        go_simp
        refine (many_any s.kind _).mono ?_
        rintro e w4 ⟨rfl, rfl⟩
        refine hK.out _ _ (by with_reducible assumption) (fun _ => ?_)
        clear hK K
        try simp only [List.getElem_toArray, List.getElem_cons_succ, List.getElem_cons_zero, Act.put, List.setIfInBounds_toArray, List.set_cons_zero, List.set_cons_succ]
        refine wpAnyH_take (i := 10) (v := ?_) rfl (by kernel_rfl) (by kernel_rfl) (by kernel_rfl) (fun _ _ _ h => h) (yields_pure (by rfl) (fun w => ?_)) (by with_reducible assumption) ?_
        rotate_left
        · (go_simp <;> with_reducible rfl)
        try simp only [List.getElem_toArray, List.getElem_cons_succ, List.getElem_cons_zero, Act.put, List.setIfInBounds_toArray, List.set_cons_zero, List.set_cons_succ]
        refine wpAnyH_take (i := 11) (v := ?_) rfl (by kernel_rfl) (by kernel_rfl) (by kernel_rfl) (fun _ _ _ h => h) (yields_pure (by rfl) (fun w => ?_)) (by with_reducible assumption) ?_
        rotate_left
        · (go_simp <;> with_reducible rfl)
        try simp only [List.getElem_toArray, List.getElem_cons_succ, List.getElem_cons_zero, Act.put, List.setIfInBounds_toArray, List.set_cons_zero, List.set_cons_succ]
        refine wpAnyH_done (by kernel_rfl) ?_ _
        refine NoPanic.normal ?_
        go_wp2_with fail
        go_meet
        exact ⟨rfl, rfl, ⟨_, rfl, Lib.hid hBl⟩, Lib.hid hAl⟩
      · go_simp
        refine (many_any s.kind _).mono ?_
        rintro e w4 ⟨rfl, rfl⟩
        refine hK.out _ _ (by with_reducible assumption) (fun _ => ?_)
        clear hK K
        try simp only [List.getElem_toArray, List.getElem_cons_succ, List.getElem_cons_zero, Act.put, List.setIfInBounds_toArray, List.set_cons_zero, List.set_cons_succ]
        have hAl := hCd.alloc (.cells #[.int .i64 s.n, .int .i64 s.m, .int .i64 s.k] 3)
        have hBl : Blk (wd.alloc (.cells #[.int .i64 s.n, .int .i64 s.m, .int .i64 s.k] 3)) wd.heap.size 3 #[.int .i64 s.n, .int .i64 s.m, .int .i64 s.k] := Blk.new _ _ _
        have hS1 : (fun W : World => Blk W g 32 (arrSt s (.slice A s.b.length c))) (wd.alloc (.cells #[.int .i64 s.n, .int .i64 s.m, .int .i64 s.k] 3)) := hS0.alloc _
        refine wpAnyH_ready (rs := [6]) (by kernel_rfl) (by simp) (AllReadyH.cons rfl (fun K hK => ?_) AllReadyH.nil)
        go_simp
        refine hK.out _ _ (by with_reducible assumption) (fun _ => ?_)
        clear hK K
        try simp only [List.getElem_toArray, List.getElem_cons_succ, List.getElem_cons_zero, Act.put, List.setIfInBounds_toArray, List.set_cons_zero, List.set_cons_succ]
        refine wpAnyH_take (i := 10) (v := ?_) rfl (by kernel_rfl) (by kernel_rfl) (by kernel_rfl) (fun _ _ _ h => h) (yields_pure (by rfl) (fun w => ?_)) (by with_reducible assumption) ?_
        rotate_left
        · (go_simp <;> with_reducible rfl)
        try simp only [List.getElem_toArray, List.getElem_cons_succ, List.getElem_cons_zero, Act.put, List.setIfInBounds_toArray, List.set_cons_zero, List.set_cons_succ]
        refine wpAnyH_take (i := 11) (v := ?_) rfl (by kernel_rfl) (by kernel_rfl) (by kernel_rfl) (fun _ _ _ h => h) (yields_pure (by rfl) (fun w => ?_)) (by with_reducible assumption) ?_
        rotate_left
        · (go_simp <;> with_reducible rfl)
        try simp only [List.getElem_toArray, List.getElem_cons_succ, List.getElem_cons_zero, Act.put, List.setIfInBounds_toArray, List.set_cons_zero, List.set_cons_succ]
        refine wpAnyH_done (by kernel_rfl) ?_ _
        refine NoPanic.normal ?_
        go_wp2_with fail
        go_meet
        exact ⟨rfl, rfl, ⟨_, rfl, Lib.hid hBl⟩, Lib.hid hAl⟩
    case rest =>
    obtain ⟨rfl, rfl, ⟨ga, rfl, HBa⟩, HC3⟩ := hcut
    have HBs := Lib.hid (HB2.out.chg HC3.out (by simp))
    have HY3 := Lib.hid (Sl.chg0 HY2.out HC3.out)
    have HG3 := Lib.hid (HG2.out.chg HC3.out)
    have HCw := Lib.hid (HC2.out.trans HC3.out)
    clear HB2 HY2 HG2 HC2 HK hkc c0 HC3 HW
    generalize hq : manyP s.kind = q at *
    have HMQ := Lib.hid hq
    clear hq
    go_wp2_with fail
    go_loopw [4, 35] (fun lv iv wr => ∃ j : Nat, j ≤ q ∧ lv = str (baseT s j) ∧ iv = .int .i64 j ∧ Hid (Chg [] wc wr)) (fun _ iv _ => q - (intOf iv).toNat)
    case atStart => exact ⟨0, by omega, rfl, rfl, Lib.hid (Chg.refl _ _)⟩
    case round =>
      obtain ⟨j, hj, rfl, rfl, HC⟩ := hrel
      by_cases hlt : j < q
      · have hcn : (j : Int) < (q : Int) := by omega
        have cj : wr.cell? ⟨ga, j, none⟩ = some (.int .i64 (numAt s j)) := by
          rw [(HBa.out.chg HC.out (by simp)).cell]
          match j, (show j < 3 by omega) with
          | 0, _ => rfl
          | 1, _ => rfl
          | 2, _ => rfl
        have h64 := numAt_i64 hok (j := j) (by omega)
        have hbl := baseT_len hok (j := j) (by omega)
        have hil := itoa_len h64
        have ha1 := run_add (a := [32]) (b := Lib.itoa (numAt s j)) (by simp; omega)
        rw [show bsA [32] = ({ data := #[32] } : ByteArray) from rfl] at ha1
        rw [show ([32] : Bs) ++ Lib.itoa (numAt s j) = 32 :: Lib.itoa (numAt s j) from rfl] at ha1
        have ha2 := run_add (a := baseT s j) (b := 32 :: Lib.itoa (numAt s j)) (by simp; omega)
        rw [show baseT s j ++ 32 :: Lib.itoa (numAt s j) = baseT s (j + 1) by rw [baseT_next s (by omega)]; simp] at ha2
        have FD := Lib.hid (itoa_lib (numAt s j) h64 (HG3.out.chg HC.out))
        clear hil hbl h64
        go_wp2_with fail
        refine FD.out.mono ?_
        rintro e w5 ⟨rfl, hc5⟩
        have HC5 := Lib.hid (HC.out.trans hc5)
        clear hc5 FD cj
        go_wp2_with fail
        go_roundw
        case rel => exact ⟨j + 1, by omega, rfl, by go_num, HC5⟩
        case measure => simp [intOf] <;> omega
      · obtain rfl : j = q := by omega
        have c0 : wr.cell? ⟨g, 0, none⟩ = some (.int .i64 s.kind) := (HBs.out.chg HC.out (by simp)).cell 0
        by_cases h13 : s.kind = 13
        · have c4 : wr.cell? ⟨g, 4, none⟩ = some (.slice A s.b.length c) := (HBs.out.chg HC.out (by simp)).cell 4
          have FH := Lib.hid (hex_any (Sl.chg0 HY3.out HC.out) (by have := hok.b; omega))
          have HT : Hid (textP s = baseT s j ++ 32 :: hexP s.b) := Lib.hid (by unfold textP; rw [if_pos h13, HQ.out])
          have hbl := baseT_len hok (j := j) (by omega)
          have hhl := hexP_len s.b
          have hbb := hok.b
          have ha1 := run_add (a := [32]) (b := hexP s.b) (by simp; omega)
          rw [show bsA [32] = ({ data := #[32] } : ByteArray) from rfl] at ha1
          rw [show ([32] : Bs) ++ hexP s.b = 32 :: hexP s.b from rfl] at ha1
          have ha2 := run_add (a := baseT s j) (b := 32 :: hexP s.b) (by simp; omega)
          clear hbl hhl hbb HQ
          go_wp2_with fail
          refine FH.out.mono ?_
          rintro e w5 ⟨rfl, hc5⟩
          have HC5 := Lib.hid ((HCw.out.trans HC.out).trans hc5)
          clear hc5 FH c4 c0
          go_wp2_with fail
          go_ret
          exact ⟨by rw [HT.out]; rfl, HC5.out⟩
        · have e13 : (s.kind == 13) = false := by simpa using h13
          have HT : Hid (textP s = baseT s j) := Lib.hid (by unfold textP; rw [if_neg h13, HQ.out])
          clear h13 HQ
          go_wp2_with fail
          go_ret
          exact ⟨by rw [HT.out]; rfl, HCw.out.trans HC.out⟩
  · have HT : Hid (textP s = []) := Lib.hid (by
      unfold textP
      rw [if_neg (by omega)]
      unfold baseT
      rw [show numW s.kind = 0 by unfold numW; rw [if_neg hin], show wordP s.kind = [] by unfold wordP; rw [if_neg hin]]
      rfl)
    clear HK HY2 HG2 HB2
    by_cases hkn : s.kind < 0
    · go_wp2_with fail
      go_ret
      exact ⟨by rw [HT.out]; rfl, HC2.out⟩
    · have hk14 : (14 : Int) ≤ s.kind := by omega
      clear hin
      go_wp2_with fail
      go_ret
      exact ⟨by rw [HT.out]; rfl, HC2.out⟩
end Go.Proofs.YtljgemknccodeaaDoor
