/-
  WALK: ConnsStays. Condition: at most maxLen operations; each number is one of its kind.
-/
import Derived.Test.YtgbdbeaflilmlaaConnStays
set_option linter.unusedVariables false
set_option linter.unusedSimpArgs false
namespace Go.Proofs.Ytgbdbeaflilmlaa
open Go.RowKit Go.Maps

set_option maxRecDepth 100000 in
set_option maxHeartbeats 4000000 in
theorem stays30 {n : Int} {e : En} {A : Option Addr} {cap : Nat} {l : List Op3} {w : World} (hnw : (Lit.int .i64 n).wf = true) (he : okN e) (hs : SlO3 w 0 (.slice A l.length cap) l) (hm : l.length ≤ maxLen) (hk : ∀ x ∈ l, okO3 x) :
    Calls Try.prog 8 #[.int .i64 n, .agg (arrN e), .slice A l.length cap] w fun r w' => r = .returned (.bool true) ∧ Chg [] w w' := by
  have hcA := (Chg.refl [] w).alloc (.cells (arrN e) 96)
  have hBe : Blk (w.alloc (.cells (arrN e) 96)) w.heap.size 96 (arrN e) := Blk.new _ _ _
  have HI := Lib.hid (And.intro hcA hBe)
  have HLV := Lib.hid lives30
  have HE := Lib.hid he
  have HS := Lib.hid (fun W (hc : Chg [] w W) i (x : Op3) (hx : l[i]? = some x) => (hs.chg0 hc).one hx)
  have HX : Hid (∀ i, i < l.length → ∃ x, l[i]? = some x ∧ okO3 x) := Lib.hid fun i hi => ⟨_, List.getElem?_eq_getElem hi, hk _ (List.getElem_mem hi)⟩
  have ck : (w.alloc (.cells (arrN e) 96)).cell? ⟨w.heap.size, 34, none⟩ = some (.int .i64 e.kind) := hBe.cell 34
  clear hcA hBe he hs hk hnw
  generalize hN : l.length = N at *
  by_cases hbad : n < 1 ∨ 64 < n
  · have F0 := Lib.hid (fun W => cnew_no (n := n) hbad W)
    have hcase : ∃ b1 b2, decide (n < 1) = b1 ∧ decide (64 < n) = b2 ∧ (b1 = true ∨ (b1 = false ∧ b2 = true)) := ⟨_, _, rfl, rfl, by
      rcases hbad with h | h
      · exact .inl (by simpa using h)
      · by_cases h2 : n < 1
        · exact .inl (by simpa using h2)
        · exact .inr ⟨by simpa using h2, by simpa using h⟩⟩
    obtain ⟨b1, b2, hb1, hb2, hbc⟩ := hcase
    clear hbad HS HX
    go_enter Try.func8, Try.ntmps8
    go_upto_region 1 with fail
    generalize w.alloc (.cells (arrN e) 96) = w1 at *
    generalize w.heap.size = ge at *
    rcases hbc with rfl | ⟨rfl, rfl⟩
    all_goals
      go_wp2_with fail
      refine (F0.out _).mono ?_
      rintro r w2 ⟨rfl, rfl⟩
      go_wp2_with fail
      refine (HLV.out _).mono ?_
      rintro r w3 ⟨rfl, hc3⟩
      go_wp2_with fail
      go_ret
      exact ⟨rfl, HI.out.1.trans hc3⟩
  · have hn1 : 1 ≤ n := by omega
    have hn2 : n ≤ 64 := by omega
    have F0 := Lib.hid (cnew_any hn1 hn2 (w.alloc (.cells (arrN e) 96)))
    have hb1 : decide (n < 1) = false := decide_eq_false (by omega)
    have hb2 : decide (64 < n) = false := decide_eq_false (by omega)
    go_enter Try.func8, Try.ntmps8
    go_upto_region 1 with fail
    generalize w.alloc (.cells (arrN e) 96) = w1 at *
    generalize hge : w.heap.size = ge at *
    go_wp2_with fail
    refine F0.out.mono ?_
    rintro r w2 ⟨tb, S, rfl, hS, hc2⟩
    have hB2 := HI.out.2.chg hc2 (by simp)
    have r2 := hB2.rangeQ
    have ck2 := hc2.cell ck (by simp)
    have f1 := cput_any (e := e) hS (by omega) HE.out.fl
    have HC2 := Lib.hid hc2
    have hputc : ∃ b, (putC ⟨n, 0, 0, []⟩ e).2 = b ∧ (b = false → e.kind ≠ 1 ∧ e.kind ≠ 2) ∧ (b = true → putC ⟨n, 0, 0, []⟩ e = (⟨n, 0, 1, [(e, 1)]⟩, true)) := ⟨_, rfl, by
      unfold putC
      split
      · next h => exact ⟨fun _ => h, fun h2 => by cases h2⟩
      · rw [if_neg (by rintro ⟨_, h⟩; simp at h; omega)]
        exact ⟨fun h2 => by (cases h2), fun _ => by simp [dropL]⟩⟩
    obtain ⟨b, hb, hbf, hbt⟩ := hputc
    rw [hb] at f1
    have F1 := Lib.hid f1
    clear F0 hS hc2 hB2 f1 ck
    cases b with
    | false =>
      have hk1 : (e.kind != 1) = true := by simp [(hbf rfl).1]
      have hk2 : (e.kind != 2) = true := by simp [(hbf rfl).2]
      clear hbf hbt hb HS HX
      go_wp2_with (first
        | (refine wpList_row 96 (.tmp 4) rfl rfl ge 0 rfl (arrN e) _ r2 Try.underlying96 rfl infN ?_)
        | fail)
      refine F1.out.mono ?_
      rintro r w3 ⟨rfl, S3, hS3, hc3, hf3⟩
      have hcW3 : Chg [] w1 w3 := hS3.chg
      have ck3 := hcW3.cell (HI.out.2.cell 34) (by simp)
      have HC3 := Lib.hid hcW3
      clear F1 hS3 hc3 hf3 ck2 r2 hcW3
      go_wp2_with fail
      refine (HLV.out _).mono ?_
      rintro r w4 ⟨rfl, hc4⟩
      go_wp2_with fail
      go_ret
      exact ⟨rfl, (HI.out.1.trans HC3.out).trans hc4⟩
    | true =>
      have hp := hbt rfl
      rw [hp] at F1
      clear hbf hbt hb hp
      go_wp2_with (first
        | (refine wpList_row 96 (.tmp 4) rfl rfl ge 0 rfl (arrN e) _ r2 Try.underlying96 rfl infN ?_)
        | fail)
      refine F1.out.mono ?_
      rintro r w3 ⟨rfl, S3, hS3, hc3, hf3⟩
      have HJ0 : Hid (∃ c S', CtS w1 w3 tb (0 + 1) c S' ∧ StI e n c) := Lib.hid ⟨_, S3, hS3, StI.start⟩
      clear F1 hS3 hc3 hf3 ck2 r2
      go_wp2_with fail
      go_loopw [8] (fun iv wr => ∃ k : Nat, k ≤ N ∧ k ≤ 100 ∧ iv = .int .i64 k ∧ Hid (∃ c S', CtS w1 wr tb (k + 1) c S' ∧ StI e n c)) (fun iv _ => N - (intOf iv).toNat)
      case atStart => exact ⟨0, by omega, by omega, rfl, HJ0⟩
      case round =>
        obtain ⟨k, hkN, hk1, rfl, HJ⟩ := hrel
        obtain ⟨c, S', hJ, hI⟩ := HJ.out
        have hcw := hJ.chg
        by_cases hlt : k < N ∧ k < 100
        · obtain ⟨hlt1, hlt2⟩ := id hlt
          have hb100 : ((k : Int) < 100) := by omega
          obtain ⟨x, hx, hxo⟩ := HX.out k hlt.1
          obtain ⟨b, o, rfl, kc, rg⟩ := HS.out _ (HI.out.1.trans hcw) k x hx
          have hA := (Chg.refl [] wr).alloc (.cells arrN0 96)
          have hB : Blk (wr.alloc (.cells arrN0 96)) wr.heap.size 96 arrN0 := Blk.new _ _ _
          have HJJ := Lib.hid (And.intro hJ hI)
          have HXO := Lib.hid hxo
          have HLT := Lib.hid hlt
          have RG := Lib.hid rg
          have KC := Lib.hid kc
          have HCW := Lib.hid hcw
          clear HJ hJ hI hx hxo HX HS hlt rg kc hcw
          go_upto_region 8 with (first
            | (refine wpList_row 96 (.tmp 55) rfl rfl b _ rfl (arrN x.e) _ RG.out Try.underlying96 rfl infN ?_)
            | (refine wpList_store_blk rfl 96 _ _ rfl rfl hB rfl rfl rfl (infN (e := x.e)) (arrN_one x.e) ?_; intro w5 hB5 hc5)
            | fail)
          have hc5' := hA.trans' hc5 (by intro y hy; simp at hy; subst hy; exact .inr (Nat.le_refl _))
          have hJ5 := HJJ.out.1.chg0 hc5'
          have kc5 := hc5'.cell KC.out (by simp)
          have r5 := Lib.hid (rgN_fl hB5.rangeQ)
          have re5 := Lib.hid (rgN_fl (HI.out.2.chg (HCW.out.trans hc5') (by simp)).rangeQ)
          have HB5 := Lib.hid hB5
          have HJ5 := Lib.hid hJ5
          have HC5 := Lib.hid (HCW.out.trans hc5')
          have hE := fun W => eq_fl W HXO.out.2.fl HE.out.fl
          clear hA hB hB5 hc5 hc5' hJ5 RG KC HCW
          generalize wr.heap.size = gx at *
          by_cases hfe : x.e.fl = e.fl
          · rw [decide_eq_true hfe] at hE
            have HZ : Hid (∃ c S', CtS w1 w5 tb (k + 1 + 1) c S' ∧ StI e n c) := Lib.hid ⟨c, S', HJ5.out.mono (by omega), HJJ.out.2⟩
            clear hfe kc5
            go_wp2_with (first
              | (refine wpList_row 73 (.tmp 57) rfl rfl gx 0 rfl (arrF x.e.fl) _ r5.out Try.underlying73 rfl infF ?_)
              | (refine wpList_row 73 (.tmp 59) rfl rfl ge 0 rfl (arrF e.fl) _ re5.out Try.underlying73 rfl infF ?_)
              | fail)
            go_roundw
            case rel => exact ⟨k + 1, HLT.out.1, HLT.out.2, by go_num, HZ⟩
            case measure => have := HLT.out.1; simp [intOf]; omega
          · rw [decide_eq_false hfe] at hE
            have HFE := Lib.hid hfe
            clear hfe
            go_upto_region 9 with (first
              | (refine wpList_row 73 (.tmp 57) rfl rfl gx 0 rfl (arrF x.e.fl) _ r5.out Try.underlying73 rfl infF ?_)
              | (refine wpList_row 73 (.tmp 59) rfl rfl ge 0 rfl (arrF e.fl) _ re5.out Try.underlying73 rfl infF ?_)
              | fail)
            clear hE r5 re5
            go_upto_block 2 with fail
            clear kc5
            generalize x.kind.tmod 7 = r at *
            go_cut [] (fun wx => Hid (∃ c S', CtS w1 wx tb (k + 1 + 1) c S' ∧ StI e n c))
            case first =>
              go_upto_region 11 with fail
              go_cut [70] (fun t wx => t = .bool (decide (0 ≤ r) && decide (r ≤ 3)) ∧ w5 = wx)
              case first =>
                cases hb0 : decide (0 ≤ r) <;> cases hb3 : decide (r ≤ 3) <;> (go_wp2_with fail; go_meet; exact ⟨by rw [hb0, hb3]; rfl, rfl⟩)
              case rest =>
              obtain ⟨rfl, rfl⟩ := hcut
              generalize (decide (0 ≤ r) && decide (r ≤ 3)) = bp at *
              have HRX := Lib.hid HB5.out.rangeQ
              have HRF := Lib.hid (rgN_fl HB5.out.rangeQ)
              cases bp with
              | true =>
                have FP := Lib.hid (cput_any (e := x.e) HJ5.out (by omega) HXO.out.2.fl)
                go_wp2_with (first
                  | (refine wpList_row 96 (.tmp 9) rfl rfl gx 0 rfl (arrN x.e) _ HRX.out Try.underlying96 rfl infN ?_)
                  | fail)
                refine FP.out.mono ?_
                rintro q w6 ⟨rfl, S6, hS6, hc6, hf6⟩
                have HZ : Hid (∃ c S', CtS w1 w6 tb (k + 1 + 1) c S' ∧ StI e n c) := Lib.hid ⟨_, S6, hS6, HJJ.out.2.put HJ5.out.ci HXO.out.2.fl HFE.out⟩
                clear FP hS6 hc6 hf6
                go_wp2_with fail
                go_meet
                exact HZ
              | false =>
                go_upto_if 80 with fail
                generalize (r == 4) = b4 at *
                cases b4 with
                | true =>
                  have FP := Lib.hid (cdrop_any (f := x.e.fl) HJ5.out (by omega) HXO.out.2.fl)
                  go_wp2_with (first
                    | (refine wpList_row 73 (.tmp 84) rfl rfl gx 0 rfl (arrF x.e.fl) _ HRF.out Try.underlying73 rfl infF ?_)
                    | fail)
                  refine FP.out.mono ?_
                  rintro q w6 ⟨rfl, S6, hS6, hc6, hf6⟩
                  have HZ : Hid (∃ c S', CtS w1 w6 tb (k + 1 + 1) c S' ∧ StI e n c) := Lib.hid ⟨_, S6, hS6.mono (by omega), HJJ.out.2.drop HJ5.out.ci HFE.out⟩
                  clear FP hS6 hc6 hf6
                  go_wp2_with fail
                  go_meet
                  exact HZ
                | false =>
                  have FP := Lib.hid (ctick_any HJ5.out (by omega))
                  go_wp2_with fail
                  refine FP.out.mono ?_
                  rintro q w6 ⟨v6, L6, rfl, hs6, hp6, hl6, S6, hS6, hc6, hf6⟩
                  have HZ : Hid (∃ c S', CtS w1 w6 tb (k + 1 + 1) c S' ∧ StI e n c) := Lib.hid ⟨_, S6, hS6, HJJ.out.2.tick HJ5.out.ci⟩
                  clear FP hS6 hc6 hf6 hs6 hp6 hl6
                  go_wp2_with fail
                  go_meet
                  exact HZ
            case rest =>
              obtain ⟨c6, S6, hS6, hI6⟩ := hcut.out
              obtain ⟨⟨m1, m2, m3, q, nn, vs, sq, its, hr6, hrr⟩, hci6, hcW6, _⟩ := id hS6
              have F6 := Lib.hid (cfind_any hr6 HE.out.fl)
              have re6 := Lib.hid (rgN_fl (HI.out.2.chg hcW6 (by simp)).rangeQ)
              have HJ6 := Lib.hid (And.intro hS6 (And.intro hI6 (And.intro hr6 hci6)))
              have HC6 := Lib.hid hcW6
              clear hcut hS6 hI6 hr6 hrr hci6 hcW6
              go_wp2_with (first
                | (refine wpList_row 73 (.tmp 89) rfl rfl ge 0 rfl (arrF e.fl) _ re6.out Try.underlying73 rfl infF ?_)
                | fail)
              refine F6.out.mono ?_
              rintro q7 w7 ⟨rfl, hc7⟩
              have hgd : ∃ g ok, ((getC c6 e.fl).map (·.1)).getD eN0 = g ∧ hasC c6 e.fl = ok ∧ (ok = true → g = e) ∧ ok = decide (c6.now = 0 ∨ c6.now < e.til) := by
                refine ⟨_, _, rfl, rfl, ?_, ?_⟩
                · intro ho
                  unfold hasC at ho
                  by_cases hy : c6.now = 0 ∨ c6.now < e.til
                  · rw [HJ6.out.2.1.yes hy]; rfl
                  · rw [HJ6.out.2.1.no hy] at ho; cases ho
                · unfold hasC
                  by_cases hy : c6.now = 0 ∨ c6.now < e.til
                  · rw [HJ6.out.2.1.yes hy, decide_eq_true hy]; rfl
                  · rw [HJ6.out.2.1.no hy, decide_eq_false hy]; rfl
              obtain ⟨g, ok, hg, hok, hgo, hdec⟩ := hgd
              rw [hg, hok]
              have HG := Lib.hid (And.intro hgo hdec)
              have hA7 := (Chg.refl [] w7).alloc (.cells arrN0 96)
              have hB7 : Blk (w7.alloc (.cells arrN0 96)) w7.heap.size 96 arrN0 := Blk.new _ _ _
              have HC7 := Lib.hid hc7
              clear hg hok hgo hdec hc7 F6
              go_upto_region 16 with (first
                | (refine wpList_store_blk rfl 96 _ _ rfl rfl hB7 rfl rfl rfl (infN (e := g)) (arrN_one g) ?_; intro w8 hB8 hc8)
                | fail)
              have hc78 := hA7.trans' hc8 (by intro y hy; simp at hy; subst hy; exact .inr (Nat.le_refl _))
              have HC8 := Lib.hid (HC7.out.trans hc78)
              have HB8 := Lib.hid hB8
              clear hA7 hB7 hB8 hc8 hc78
              generalize w7.heap.size = gg at *
              go_cut [119] (fun t wx => t = .bool false ∧ Hid (Chg [] w8 wx))
              case first =>
                have FN := Lib.hid (fun W (hc : Chg [] w8 W) => (cnow_any (HJ6.out.2.2.1.chg0 (HC8.out.trans hc))).mono fun (x : Ending) w'' ⟨h1, h2⟩ => (⟨h1, h2 ▸ hc⟩ : x = Ending.returned (.int .i64 c6.now) ∧ Chg [] w8 w''))
                have FL := Lib.hid (fun W (hc : Chg [] w8 W) => (clen_any (HJ6.out.2.2.1.chg0 (HC8.out.trans hc))).mono fun (x : Ending) w'' ⟨h1, h2⟩ => (⟨h1, h2 ▸ hc⟩ : x = Ending.returned (.int .i64 c6.l.length) ∧ Chg [] w8 w''))
                have RG := Lib.hid (fun W (hc : Chg [] w8 W) => (HB8.out.chg hc (by simp)).rangeQ)
                have RE := Lib.hid (fun W (hc : Chg [] w8 W) => (HI.out.2.chg (HC6.out.trans (HC8.out.trans hc)) (by simp)).rangeQ)
                have RT : Hid (∀ W, Chg [] w8 W → W.cell? ⟨ge, 38, none⟩ = some (.int .i64 e.til)) := Lib.hid (fun W hc => (HI.out.2.chg (HC6.out.trans (HC8.out.trans hc)) (by simp)).cell 38)
                have hln : decide (n < (c6.l.length : Int)) = false := decide_eq_false (by have := HJ6.out.2.2.2.len; rw [HJ6.out.2.1.n] at this; omega)
                have hEq := fun W => eq_en W HE.out HE.out
                rw [show decide (e = e) = true from decide_eq_true rfl] at hEq
                obtain ⟨hgo, hdec⟩ := HG.out
                by_cases h0 : c6.now = 0
                · have h0b : (c6.now == 0) = true := by simpa using h0
                  rw [decide_eq_true (p := c6.now = 0 ∨ c6.now < e.til) (.inl h0)] at hdec
                  subst hdec
                  have hge2 := hgo rfl
                  subst hge2
                  clear h0 hgo HG
                  refine wp_region_chg (by kernel_rfl) (by kernel_rfl) ?_
                  (with_reducible refine wpQuiet_pure (v := ?_) ?_ (fun w => ?_) ?_); rotate_left; (focus rfl); (focus (go_simp <;> with_reducible rfl)); (try simp only [List.getElem_toArray, List.getElem_cons_succ, List.getElem_cons_zero, Act.put, List.setIfInBounds_toArray, List.set_cons_zero, List.set_cons_succ])
                  (with_reducible refine wpQuiet_pure (v := ?_) ?_ (fun w => ?_) ?_); rotate_left; (focus rfl); (focus (go_simp <;> with_reducible rfl)); (try simp only [List.getElem_toArray, List.getElem_cons_succ, List.getElem_cons_zero, Act.put, List.setIfInBounds_toArray, List.set_cons_zero, List.set_cons_succ])
                  (with_reducible refine wpQuiet_rowC 96 (.tmp 11) ?_ ?_ gg 0 ?_ (arrN g) _ RG.out Try.underlying96 ?_ infN ?_); (focus rfl); (focus rfl); (focus rfl); (focus rfl); (try simp only [List.getElem_toArray, List.getElem_cons_succ, List.getElem_cons_zero, Act.put, List.setIfInBounds_toArray, List.set_cons_zero, List.set_cons_succ])
                  (with_reducible refine wpQuiet_rowC 96 (.tmp 4) ?_ ?_ ge 0 ?_ (arrN g) _ RE.out Try.underlying96 ?_ infN ?_); (focus rfl); (focus rfl); (focus rfl); (focus rfl); (try simp only [List.getElem_toArray, List.getElem_cons_succ, List.getElem_cons_zero, Act.put, List.setIfInBounds_toArray, List.set_cons_zero, List.set_cons_succ])
                  (with_reducible refine wpQuiet_pure (v := ?_) ?_ (fun w => ?_) ?_); rotate_left; (focus rfl); (focus (go_simp <;> with_reducible rfl)); (try simp only [List.getElem_toArray, List.getElem_cons_succ, List.getElem_cons_zero, Act.put, List.setIfInBounds_toArray, List.set_cons_zero, List.set_cons_succ])
                  (try simp only [Bool.not_true])
                  (with_reducible refine wpQuiet_pure (v := ?_) ?_ (fun w => ?_) ?_); rotate_left; (focus rfl); (focus (go_simp <;> with_reducible rfl)); (try simp only [List.getElem_toArray, List.getElem_cons_succ, List.getElem_cons_zero, Act.put, List.setIfInBounds_toArray, List.set_cons_zero, List.set_cons_succ])
                  (with_reducible refine wpQuiet_pure (v := ?_) ?_ (fun w => ?_) ?_); rotate_left; (focus rfl); (focus (go_simp <;> with_reducible rfl)); (try simp only [List.getElem_toArray, List.getElem_cons_succ, List.getElem_cons_zero, Act.put, List.setIfInBounds_toArray, List.set_cons_zero, List.set_cons_succ])
                  (with_reducible refine wpQuiet_pure (v := ?_) ?_ (fun w => ?_) ?_); rotate_left; (focus rfl); (focus (go_simp <;> with_reducible rfl)); (try simp only [List.getElem_toArray, List.getElem_cons_succ, List.getElem_cons_zero, Act.put, List.setIfInBounds_toArray, List.set_cons_zero, List.set_cons_succ])
                  (with_reducible refine wpQuiet_pure (v := ?_) ?_ (fun w => ?_) ?_); rotate_left; (focus rfl); (focus (go_simp <;> with_reducible rfl)); (try simp only [List.getElem_toArray, List.getElem_cons_succ, List.getElem_cons_zero, Act.put, List.setIfInBounds_toArray, List.set_cons_zero, List.set_cons_succ])
                  (with_reducible refine wpQuiet_do ?_ (fun K hK => ?_)); (focus rfl); go_simp; (apply Exists.intro); (refine ⟨fun W hW => FN.out W hW, hK _ ?_⟩); (clear hK K); (try simp only [List.getElem_toArray, List.getElem_cons_succ, List.getElem_cons_zero, Act.put, List.setIfInBounds_toArray, List.set_cons_zero, List.set_cons_succ])
                  (with_reducible refine wpQuiet_pure (v := ?_) ?_ (fun w => ?_) ?_); rotate_left; (focus rfl); (focus (go_simp <;> with_reducible rfl)); (try simp only [List.getElem_toArray, List.getElem_cons_succ, List.getElem_cons_zero, Act.put, List.setIfInBounds_toArray, List.set_cons_zero, List.set_cons_succ])
                  (try simp only [h0b])
                  (with_reducible refine wpQuiet_pure (v := ?_) ?_ (fun w => ?_) ?_); rotate_left; (focus rfl); (focus (go_simp <;> with_reducible rfl)); (try simp only [List.getElem_toArray, List.getElem_cons_succ, List.getElem_cons_zero, Act.put, List.setIfInBounds_toArray, List.set_cons_zero, List.set_cons_succ])
                  (with_reducible refine wpQuiet_skip ?_ ?_); (focus rfl); (try simp only [List.getElem_toArray, List.getElem_cons_succ, List.getElem_cons_zero, Act.put, List.setIfInBounds_toArray, List.set_cons_zero, List.set_cons_succ])
                  (with_reducible refine wpQuiet_skip ?_ ?_); (focus rfl); (try simp only [List.getElem_toArray, List.getElem_cons_succ, List.getElem_cons_zero, Act.put, List.setIfInBounds_toArray, List.set_cons_zero, List.set_cons_succ])
                  (with_reducible refine wpQuiet_skip ?_ ?_); (focus rfl); (try simp only [List.getElem_toArray, List.getElem_cons_succ, List.getElem_cons_zero, Act.put, List.setIfInBounds_toArray, List.set_cons_zero, List.set_cons_succ])
                  (with_reducible refine wpQuiet_skip ?_ ?_); (focus rfl); (try simp only [List.getElem_toArray, List.getElem_cons_succ, List.getElem_cons_zero, Act.put, List.setIfInBounds_toArray, List.set_cons_zero, List.set_cons_succ])
                  (with_reducible refine wpQuiet_skip ?_ ?_); (focus rfl); (try simp only [List.getElem_toArray, List.getElem_cons_succ, List.getElem_cons_zero, Act.put, List.setIfInBounds_toArray, List.set_cons_zero, List.set_cons_succ])
                  (with_reducible refine wpQuiet_pure (v := ?_) ?_ (fun w => ?_) ?_); rotate_left; (focus rfl); (focus (go_simp <;> with_reducible rfl)); (try simp only [List.getElem_toArray, List.getElem_cons_succ, List.getElem_cons_zero, Act.put, List.setIfInBounds_toArray, List.set_cons_zero, List.set_cons_succ])
                  (with_reducible refine wpQuiet_pure (v := ?_) ?_ (fun w => ?_) ?_); rotate_left; (focus rfl); (focus (go_simp <;> with_reducible rfl)); (try simp only [List.getElem_toArray, List.getElem_cons_succ, List.getElem_cons_zero, Act.put, List.setIfInBounds_toArray, List.set_cons_zero, List.set_cons_succ])
                  (with_reducible refine wpQuiet_pure (v := ?_) ?_ (fun w => ?_) ?_); rotate_left; (focus rfl); (focus (go_simp <;> with_reducible rfl)); (try simp only [List.getElem_toArray, List.getElem_cons_succ, List.getElem_cons_zero, Act.put, List.setIfInBounds_toArray, List.set_cons_zero, List.set_cons_succ])
                  (with_reducible refine wpQuiet_pure (v := ?_) ?_ (fun w => ?_) ?_); rotate_left; (focus rfl); (focus (go_simp <;> with_reducible rfl)); (try simp only [List.getElem_toArray, List.getElem_cons_succ, List.getElem_cons_zero, Act.put, List.setIfInBounds_toArray, List.set_cons_zero, List.set_cons_succ])
                  (with_reducible refine wpQuiet_pure (v := ?_) ?_ (fun w => ?_) ?_); rotate_left; (focus rfl); (focus (go_simp <;> with_reducible rfl)); (try simp only [List.getElem_toArray, List.getElem_cons_succ, List.getElem_cons_zero, Act.put, List.setIfInBounds_toArray, List.set_cons_zero, List.set_cons_succ])
                  (with_reducible refine wpQuiet_do ?_ (fun K hK => ?_)); (focus rfl); go_simp; (apply Exists.intro); (refine ⟨fun W hW => FL.out W hW, hK _ ?_⟩); (clear hK K); (try simp only [List.getElem_toArray, List.getElem_cons_succ, List.getElem_cons_zero, Act.put, List.setIfInBounds_toArray, List.set_cons_zero, List.set_cons_succ])
                  (with_reducible refine wpQuiet_pure (v := ?_) ?_ (fun w => ?_) ?_); rotate_left; (focus rfl); (focus (go_simp <;> with_reducible rfl)); (try simp only [List.getElem_toArray, List.getElem_cons_succ, List.getElem_cons_zero, Act.put, List.setIfInBounds_toArray, List.set_cons_zero, List.set_cons_succ])
                  (with_reducible refine wpQuiet_pure (v := ?_) ?_ (fun w => ?_) ?_); rotate_left; (focus rfl); (focus (go_simp <;> with_reducible rfl)); (try simp only [List.getElem_toArray, List.getElem_cons_succ, List.getElem_cons_zero, Act.put, List.setIfInBounds_toArray, List.set_cons_zero, List.set_cons_succ])
                  (try simp only [hln])
                  (with_reducible refine wpQuiet_pure (v := ?_) ?_ (fun w => ?_) ?_); rotate_left; (focus rfl); (focus (go_simp <;> with_reducible rfl)); (try simp only [List.getElem_toArray, List.getElem_cons_succ, List.getElem_cons_zero, Act.put, List.setIfInBounds_toArray, List.set_cons_zero, List.set_cons_succ])
                  refine wpQuiet_nil ?_
                  intro w9 hc9
                  have HC9 := Lib.hid hc9
                  clear hc9
                  go_wp2_with fail
                  go_meet
                  exact ⟨rfl, HC9⟩
                · have h0b : (c6.now == 0) = false := by simpa using h0
                  by_cases h1 : c6.now < e.til
                  · have h1b : decide (c6.now < e.til) = true := decide_eq_true h1
                    rw [decide_eq_true (p := c6.now = 0 ∨ c6.now < e.til) (.inr h1)] at hdec
                    subst hdec
                    have hge2 := hgo rfl
                    subst hge2
                    clear h0 h1 hgo HG
                    refine wp_region_chg (by kernel_rfl) (by kernel_rfl) ?_
                    (with_reducible refine wpQuiet_pure (v := ?_) ?_ (fun w => ?_) ?_); rotate_left; (focus rfl); (focus (go_simp <;> with_reducible rfl)); (try simp only [List.getElem_toArray, List.getElem_cons_succ, List.getElem_cons_zero, Act.put, List.setIfInBounds_toArray, List.set_cons_zero, List.set_cons_succ])
                    (with_reducible refine wpQuiet_pure (v := ?_) ?_ (fun w => ?_) ?_); rotate_left; (focus rfl); (focus (go_simp <;> with_reducible rfl)); (try simp only [List.getElem_toArray, List.getElem_cons_succ, List.getElem_cons_zero, Act.put, List.setIfInBounds_toArray, List.set_cons_zero, List.set_cons_succ])
                    (with_reducible refine wpQuiet_rowC 96 (.tmp 11) ?_ ?_ gg 0 ?_ (arrN g) _ RG.out Try.underlying96 ?_ infN ?_); (focus rfl); (focus rfl); (focus rfl); (focus rfl); (try simp only [List.getElem_toArray, List.getElem_cons_succ, List.getElem_cons_zero, Act.put, List.setIfInBounds_toArray, List.set_cons_zero, List.set_cons_succ])
                    (with_reducible refine wpQuiet_rowC 96 (.tmp 4) ?_ ?_ ge 0 ?_ (arrN g) _ RE.out Try.underlying96 ?_ infN ?_); (focus rfl); (focus rfl); (focus rfl); (focus rfl); (try simp only [List.getElem_toArray, List.getElem_cons_succ, List.getElem_cons_zero, Act.put, List.setIfInBounds_toArray, List.set_cons_zero, List.set_cons_succ])
                    (with_reducible refine wpQuiet_pure (v := ?_) ?_ (fun w => ?_) ?_); rotate_left; (focus rfl); (focus (go_simp <;> with_reducible rfl)); (try simp only [List.getElem_toArray, List.getElem_cons_succ, List.getElem_cons_zero, Act.put, List.setIfInBounds_toArray, List.set_cons_zero, List.set_cons_succ])
                    (try simp only [Bool.not_true])
                    (with_reducible refine wpQuiet_pure (v := ?_) ?_ (fun w => ?_) ?_); rotate_left; (focus rfl); (focus (go_simp <;> with_reducible rfl)); (try simp only [List.getElem_toArray, List.getElem_cons_succ, List.getElem_cons_zero, Act.put, List.setIfInBounds_toArray, List.set_cons_zero, List.set_cons_succ])
                    (with_reducible refine wpQuiet_pure (v := ?_) ?_ (fun w => ?_) ?_); rotate_left; (focus rfl); (focus (go_simp <;> with_reducible rfl)); (try simp only [List.getElem_toArray, List.getElem_cons_succ, List.getElem_cons_zero, Act.put, List.setIfInBounds_toArray, List.set_cons_zero, List.set_cons_succ])
                    (with_reducible refine wpQuiet_pure (v := ?_) ?_ (fun w => ?_) ?_); rotate_left; (focus rfl); (focus (go_simp <;> with_reducible rfl)); (try simp only [List.getElem_toArray, List.getElem_cons_succ, List.getElem_cons_zero, Act.put, List.setIfInBounds_toArray, List.set_cons_zero, List.set_cons_succ])
                    (with_reducible refine wpQuiet_pure (v := ?_) ?_ (fun w => ?_) ?_); rotate_left; (focus rfl); (focus (go_simp <;> with_reducible rfl)); (try simp only [List.getElem_toArray, List.getElem_cons_succ, List.getElem_cons_zero, Act.put, List.setIfInBounds_toArray, List.set_cons_zero, List.set_cons_succ])
                    (with_reducible refine wpQuiet_do ?_ (fun K hK => ?_)); (focus rfl); go_simp; (apply Exists.intro); (refine ⟨fun W hW => FN.out W hW, hK _ ?_⟩); (clear hK K); (try simp only [List.getElem_toArray, List.getElem_cons_succ, List.getElem_cons_zero, Act.put, List.setIfInBounds_toArray, List.set_cons_zero, List.set_cons_succ])
                    (with_reducible refine wpQuiet_pure (v := ?_) ?_ (fun w => ?_) ?_); rotate_left; (focus rfl); (focus (go_simp <;> with_reducible rfl)); (try simp only [List.getElem_toArray, List.getElem_cons_succ, List.getElem_cons_zero, Act.put, List.setIfInBounds_toArray, List.set_cons_zero, List.set_cons_succ])
                    (try simp only [h0b])
                    (with_reducible refine wpQuiet_pure (v := ?_) ?_ (fun w => ?_) ?_); rotate_left; (focus rfl); (focus (go_simp <;> with_reducible rfl)); (try simp only [List.getElem_toArray, List.getElem_cons_succ, List.getElem_cons_zero, Act.put, List.setIfInBounds_toArray, List.set_cons_zero, List.set_cons_succ])
                    (with_reducible refine wpQuiet_pure (v := ?_) ?_ (fun w => ?_) ?_); rotate_left; (focus rfl); (focus (go_simp <;> with_reducible rfl)); (try simp only [List.getElem_toArray, List.getElem_cons_succ, List.getElem_cons_zero, Act.put, List.setIfInBounds_toArray, List.set_cons_zero, List.set_cons_succ])
                    (with_reducible refine wpQuiet_cellC 3 (.tmp 106) ?_ ?_ ge 38 ?_ (.int .i64 g.til) _ RT.out Try.underlying3 ?_ ?_); (focus rfl); (focus rfl); (focus rfl); (focus rfl); (try simp only [List.getElem_toArray, List.getElem_cons_succ, List.getElem_cons_zero, Act.put, List.setIfInBounds_toArray, List.set_cons_zero, List.set_cons_succ])
                    (with_reducible refine wpQuiet_pure (v := ?_) ?_ (fun w => ?_) ?_); rotate_left; (focus rfl); (focus (go_simp <;> with_reducible rfl)); (try simp only [List.getElem_toArray, List.getElem_cons_succ, List.getElem_cons_zero, Act.put, List.setIfInBounds_toArray, List.set_cons_zero, List.set_cons_succ])
                    (with_reducible refine wpQuiet_do ?_ (fun K hK => ?_)); (focus rfl); go_simp; (apply Exists.intro); (refine ⟨fun W hW => FN.out W hW, hK _ ?_⟩); (clear hK K); (try simp only [List.getElem_toArray, List.getElem_cons_succ, List.getElem_cons_zero, Act.put, List.setIfInBounds_toArray, List.set_cons_zero, List.set_cons_succ])
                    (with_reducible refine wpQuiet_pure (v := ?_) ?_ (fun w => ?_) ?_); rotate_left; (focus rfl); (focus (go_simp <;> with_reducible rfl)); (try simp only [List.getElem_toArray, List.getElem_cons_succ, List.getElem_cons_zero, Act.put, List.setIfInBounds_toArray, List.set_cons_zero, List.set_cons_succ])
                    (try simp only [h1b])
                    (with_reducible refine wpQuiet_pure (v := ?_) ?_ (fun w => ?_) ?_); rotate_left; (focus rfl); (focus (go_simp <;> with_reducible rfl)); (try simp only [List.getElem_toArray, List.getElem_cons_succ, List.getElem_cons_zero, Act.put, List.setIfInBounds_toArray, List.set_cons_zero, List.set_cons_succ])
                    (with_reducible refine wpQuiet_pure (v := ?_) ?_ (fun w => ?_) ?_); rotate_left; (focus rfl); (focus (go_simp <;> with_reducible rfl)); (try simp only [List.getElem_toArray, List.getElem_cons_succ, List.getElem_cons_zero, Act.put, List.setIfInBounds_toArray, List.set_cons_zero, List.set_cons_succ])
                    (with_reducible refine wpQuiet_pure (v := ?_) ?_ (fun w => ?_) ?_); rotate_left; (focus rfl); (focus (go_simp <;> with_reducible rfl)); (try simp only [List.getElem_toArray, List.getElem_cons_succ, List.getElem_cons_zero, Act.put, List.setIfInBounds_toArray, List.set_cons_zero, List.set_cons_succ])
                    (with_reducible refine wpQuiet_pure (v := ?_) ?_ (fun w => ?_) ?_); rotate_left; (focus rfl); (focus (go_simp <;> with_reducible rfl)); (try simp only [List.getElem_toArray, List.getElem_cons_succ, List.getElem_cons_zero, Act.put, List.setIfInBounds_toArray, List.set_cons_zero, List.set_cons_succ])
                    (with_reducible refine wpQuiet_pure (v := ?_) ?_ (fun w => ?_) ?_); rotate_left; (focus rfl); (focus (go_simp <;> with_reducible rfl)); (try simp only [List.getElem_toArray, List.getElem_cons_succ, List.getElem_cons_zero, Act.put, List.setIfInBounds_toArray, List.set_cons_zero, List.set_cons_succ])
                    (with_reducible refine wpQuiet_do ?_ (fun K hK => ?_)); (focus rfl); go_simp; (apply Exists.intro); (refine ⟨fun W hW => FL.out W hW, hK _ ?_⟩); (clear hK K); (try simp only [List.getElem_toArray, List.getElem_cons_succ, List.getElem_cons_zero, Act.put, List.setIfInBounds_toArray, List.set_cons_zero, List.set_cons_succ])
                    (with_reducible refine wpQuiet_pure (v := ?_) ?_ (fun w => ?_) ?_); rotate_left; (focus rfl); (focus (go_simp <;> with_reducible rfl)); (try simp only [List.getElem_toArray, List.getElem_cons_succ, List.getElem_cons_zero, Act.put, List.setIfInBounds_toArray, List.set_cons_zero, List.set_cons_succ])
                    (with_reducible refine wpQuiet_pure (v := ?_) ?_ (fun w => ?_) ?_); rotate_left; (focus rfl); (focus (go_simp <;> with_reducible rfl)); (try simp only [List.getElem_toArray, List.getElem_cons_succ, List.getElem_cons_zero, Act.put, List.setIfInBounds_toArray, List.set_cons_zero, List.set_cons_succ])
                    (try simp only [hln])
                    (with_reducible refine wpQuiet_pure (v := ?_) ?_ (fun w => ?_) ?_); rotate_left; (focus rfl); (focus (go_simp <;> with_reducible rfl)); (try simp only [List.getElem_toArray, List.getElem_cons_succ, List.getElem_cons_zero, Act.put, List.setIfInBounds_toArray, List.set_cons_zero, List.set_cons_succ])
                    refine wpQuiet_nil ?_
                    intro w9 hc9
                    have HC9 := Lib.hid hc9
                    clear hc9
                    go_wp2_with fail
                    go_meet
                    exact ⟨rfl, HC9⟩
                  · have h1b : decide (c6.now < e.til) = false := decide_eq_false h1
                    rw [decide_eq_false (p := c6.now = 0 ∨ c6.now < e.til) (by rintro (h | h); exact h0 h; exact h1 h)] at hdec
                    subst hdec
                    clear h0 h1 hgo HG
                    refine wp_region_chg (by kernel_rfl) (by kernel_rfl) ?_
                    (with_reducible refine wpQuiet_pure (v := ?_) ?_ (fun w => ?_) ?_); rotate_left; (focus rfl); (focus (go_simp <;> with_reducible rfl)); (try simp only [List.getElem_toArray, List.getElem_cons_succ, List.getElem_cons_zero, Act.put, List.setIfInBounds_toArray, List.set_cons_zero, List.set_cons_succ])
                    (with_reducible refine wpQuiet_pure (v := ?_) ?_ (fun w => ?_) ?_); rotate_left; (focus rfl); (focus (go_simp <;> with_reducible rfl)); (try simp only [List.getElem_toArray, List.getElem_cons_succ, List.getElem_cons_zero, Act.put, List.setIfInBounds_toArray, List.set_cons_zero, List.set_cons_succ])
                    (with_reducible refine wpQuiet_skip ?_ ?_); (focus rfl); (try simp only [List.getElem_toArray, List.getElem_cons_succ, List.getElem_cons_zero, Act.put, List.setIfInBounds_toArray, List.set_cons_zero, List.set_cons_succ])
                    (with_reducible refine wpQuiet_skip ?_ ?_); (focus rfl); (try simp only [List.getElem_toArray, List.getElem_cons_succ, List.getElem_cons_zero, Act.put, List.setIfInBounds_toArray, List.set_cons_zero, List.set_cons_succ])
                    (with_reducible refine wpQuiet_skip ?_ ?_); (focus rfl); (try simp only [List.getElem_toArray, List.getElem_cons_succ, List.getElem_cons_zero, Act.put, List.setIfInBounds_toArray, List.set_cons_zero, List.set_cons_succ])
                    (with_reducible refine wpQuiet_pure (v := ?_) ?_ (fun w => ?_) ?_); rotate_left; (focus rfl); (focus (go_simp <;> with_reducible rfl)); (try simp only [List.getElem_toArray, List.getElem_cons_succ, List.getElem_cons_zero, Act.put, List.setIfInBounds_toArray, List.set_cons_zero, List.set_cons_succ])
                    (with_reducible refine wpQuiet_pure (v := ?_) ?_ (fun w => ?_) ?_); rotate_left; (focus rfl); (focus (go_simp <;> with_reducible rfl)); (try simp only [List.getElem_toArray, List.getElem_cons_succ, List.getElem_cons_zero, Act.put, List.setIfInBounds_toArray, List.set_cons_zero, List.set_cons_succ])
                    (with_reducible refine wpQuiet_pure (v := ?_) ?_ (fun w => ?_) ?_); rotate_left; (focus rfl); (focus (go_simp <;> with_reducible rfl)); (try simp only [List.getElem_toArray, List.getElem_cons_succ, List.getElem_cons_zero, Act.put, List.setIfInBounds_toArray, List.set_cons_zero, List.set_cons_succ])
                    (with_reducible refine wpQuiet_pure (v := ?_) ?_ (fun w => ?_) ?_); rotate_left; (focus rfl); (focus (go_simp <;> with_reducible rfl)); (try simp only [List.getElem_toArray, List.getElem_cons_succ, List.getElem_cons_zero, Act.put, List.setIfInBounds_toArray, List.set_cons_zero, List.set_cons_succ])
                    (with_reducible refine wpQuiet_do ?_ (fun K hK => ?_)); (focus rfl); go_simp; (apply Exists.intro); (refine ⟨fun W hW => FN.out W hW, hK _ ?_⟩); (clear hK K); (try simp only [List.getElem_toArray, List.getElem_cons_succ, List.getElem_cons_zero, Act.put, List.setIfInBounds_toArray, List.set_cons_zero, List.set_cons_succ])
                    (with_reducible refine wpQuiet_pure (v := ?_) ?_ (fun w => ?_) ?_); rotate_left; (focus rfl); (focus (go_simp <;> with_reducible rfl)); (try simp only [List.getElem_toArray, List.getElem_cons_succ, List.getElem_cons_zero, Act.put, List.setIfInBounds_toArray, List.set_cons_zero, List.set_cons_succ])
                    (try simp only [h0b])
                    (with_reducible refine wpQuiet_pure (v := ?_) ?_ (fun w => ?_) ?_); rotate_left; (focus rfl); (focus (go_simp <;> with_reducible rfl)); (try simp only [List.getElem_toArray, List.getElem_cons_succ, List.getElem_cons_zero, Act.put, List.setIfInBounds_toArray, List.set_cons_zero, List.set_cons_succ])
                    (with_reducible refine wpQuiet_pure (v := ?_) ?_ (fun w => ?_) ?_); rotate_left; (focus rfl); (focus (go_simp <;> with_reducible rfl)); (try simp only [List.getElem_toArray, List.getElem_cons_succ, List.getElem_cons_zero, Act.put, List.setIfInBounds_toArray, List.set_cons_zero, List.set_cons_succ])
                    (with_reducible refine wpQuiet_cellC 3 (.tmp 106) ?_ ?_ ge 38 ?_ (.int .i64 e.til) _ RT.out Try.underlying3 ?_ ?_); (focus rfl); (focus rfl); (focus rfl); (focus rfl); (try simp only [List.getElem_toArray, List.getElem_cons_succ, List.getElem_cons_zero, Act.put, List.setIfInBounds_toArray, List.set_cons_zero, List.set_cons_succ])
                    (with_reducible refine wpQuiet_pure (v := ?_) ?_ (fun w => ?_) ?_); rotate_left; (focus rfl); (focus (go_simp <;> with_reducible rfl)); (try simp only [List.getElem_toArray, List.getElem_cons_succ, List.getElem_cons_zero, Act.put, List.setIfInBounds_toArray, List.set_cons_zero, List.set_cons_succ])
                    (with_reducible refine wpQuiet_do ?_ (fun K hK => ?_)); (focus rfl); go_simp; (apply Exists.intro); (refine ⟨fun W hW => FN.out W hW, hK _ ?_⟩); (clear hK K); (try simp only [List.getElem_toArray, List.getElem_cons_succ, List.getElem_cons_zero, Act.put, List.setIfInBounds_toArray, List.set_cons_zero, List.set_cons_succ])
                    (with_reducible refine wpQuiet_pure (v := ?_) ?_ (fun w => ?_) ?_); rotate_left; (focus rfl); (focus (go_simp <;> with_reducible rfl)); (try simp only [List.getElem_toArray, List.getElem_cons_succ, List.getElem_cons_zero, Act.put, List.setIfInBounds_toArray, List.set_cons_zero, List.set_cons_succ])
                    (try simp only [h1b])
                    (with_reducible refine wpQuiet_pure (v := ?_) ?_ (fun w => ?_) ?_); rotate_left; (focus rfl); (focus (go_simp <;> with_reducible rfl)); (try simp only [List.getElem_toArray, List.getElem_cons_succ, List.getElem_cons_zero, Act.put, List.setIfInBounds_toArray, List.set_cons_zero, List.set_cons_succ])
                    (with_reducible refine wpQuiet_pure (v := ?_) ?_ (fun w => ?_) ?_); rotate_left; (focus rfl); (focus (go_simp <;> with_reducible rfl)); (try simp only [List.getElem_toArray, List.getElem_cons_succ, List.getElem_cons_zero, Act.put, List.setIfInBounds_toArray, List.set_cons_zero, List.set_cons_succ])
                    (with_reducible refine wpQuiet_pure (v := ?_) ?_ (fun w => ?_) ?_); rotate_left; (focus rfl); (focus (go_simp <;> with_reducible rfl)); (try simp only [List.getElem_toArray, List.getElem_cons_succ, List.getElem_cons_zero, Act.put, List.setIfInBounds_toArray, List.set_cons_zero, List.set_cons_succ])
                    (with_reducible refine wpQuiet_pure (v := ?_) ?_ (fun w => ?_) ?_); rotate_left; (focus rfl); (focus (go_simp <;> with_reducible rfl)); (try simp only [List.getElem_toArray, List.getElem_cons_succ, List.getElem_cons_zero, Act.put, List.setIfInBounds_toArray, List.set_cons_zero, List.set_cons_succ])
                    (with_reducible refine wpQuiet_pure (v := ?_) ?_ (fun w => ?_) ?_); rotate_left; (focus rfl); (focus (go_simp <;> with_reducible rfl)); (try simp only [List.getElem_toArray, List.getElem_cons_succ, List.getElem_cons_zero, Act.put, List.setIfInBounds_toArray, List.set_cons_zero, List.set_cons_succ])
                    (with_reducible refine wpQuiet_do ?_ (fun K hK => ?_)); (focus rfl); go_simp; (apply Exists.intro); (refine ⟨fun W hW => FL.out W hW, hK _ ?_⟩); (clear hK K); (try simp only [List.getElem_toArray, List.getElem_cons_succ, List.getElem_cons_zero, Act.put, List.setIfInBounds_toArray, List.set_cons_zero, List.set_cons_succ])
                    (with_reducible refine wpQuiet_pure (v := ?_) ?_ (fun w => ?_) ?_); rotate_left; (focus rfl); (focus (go_simp <;> with_reducible rfl)); (try simp only [List.getElem_toArray, List.getElem_cons_succ, List.getElem_cons_zero, Act.put, List.setIfInBounds_toArray, List.set_cons_zero, List.set_cons_succ])
                    (with_reducible refine wpQuiet_pure (v := ?_) ?_ (fun w => ?_) ?_); rotate_left; (focus rfl); (focus (go_simp <;> with_reducible rfl)); (try simp only [List.getElem_toArray, List.getElem_cons_succ, List.getElem_cons_zero, Act.put, List.setIfInBounds_toArray, List.set_cons_zero, List.set_cons_succ])
                    (try simp only [hln])
                    (with_reducible refine wpQuiet_pure (v := ?_) ?_ (fun w => ?_) ?_); rotate_left; (focus rfl); (focus (go_simp <;> with_reducible rfl)); (try simp only [List.getElem_toArray, List.getElem_cons_succ, List.getElem_cons_zero, Act.put, List.setIfInBounds_toArray, List.set_cons_zero, List.set_cons_succ])
                    refine wpQuiet_nil ?_
                    intro w9 hc9
                    have HC9 := Lib.hid hc9
                    clear hc9
                    go_wp2_with fail
                    go_meet
                    exact ⟨rfl, HC9⟩
              case rest =>
                obtain ⟨rfl, HC9⟩ := hcut
                have HZ : Hid (∃ c S', CtS w1 wc tb (k + 1 + 1) c S' ∧ StI e n c) := Lib.hid ⟨c6, S6, HJ6.out.1.chg0 (HC8.out.trans HC9.out), HJ6.out.2.1⟩
                go_wp2_with fail
                go_roundw
                case rel => exact ⟨k + 1, HLT.out.1, HLT.out.2, by go_num, HZ⟩
                case measure => have := HLT.out.1; simp [intOf]; omega
        · have HC := Lib.hid hcw
          clear HJ hJ hI HX HS hcw
          rcases (show k = N ∨ (k < N ∧ k = 100) by omega) with rfl | ⟨hl1, rfl⟩
          all_goals
            clear hlt
            go_wp2_with fail
            refine (HLV.out _).mono ?_
            rintro q w4 ⟨rfl, hc4⟩
            go_wp2_with fail
            go_ret
            exact ⟨rfl, (HI.out.1.trans HC.out).trans hc4⟩
end Go.Proofs.Ytgbdbeaflilmlaa
