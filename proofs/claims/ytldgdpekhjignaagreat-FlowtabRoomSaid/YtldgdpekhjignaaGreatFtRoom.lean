/-
  WALK: FlowtabRoom. Condition: the arguments read as data.
-/
import Derived.Test.YtldgdpekhjignaaGreatFtRc
set_option linter.unusedVariables false
set_option linter.unusedSimpArgs false
namespace Go.Proofs.YtldgdpekhjignaaGreat.Ft
open Go.RowKit Go.Maps

set_option maxRecDepth 100000 in
set_option maxHeartbeats 8000000 in
theorem room26 {a ka kb : Int} {A : Option Addr} {cap : Nat} {ops : List Op6} {w : World} (ha : (Lit.int .i64 a).wf = true) (hs : SlO6 w 0 (.slice A ops.length cap) ops) (hm : ops.length ≤ maxLen) (hok : ∀ x ∈ ops, okO6 x) :
    Calls Tryz.prog 3 #[.int .i64 a, .agg #[.int .u64 ka, .int .u64 kb], .slice A ops.length cap] w fun r w' => r = .returned (.bool true) ∧ Chg [] w w' := by
  have hA := (Chg.refl [] w).alloc (.cells #[.int .u64 ka, .int .u64 kb] 24)
  have hB : Blk (w.alloc (.cells #[.int .u64 ka, .int .u64 kb] 24)) w.heap.size 24 #[.int .u64 ka, .int .u64 kb] := Blk.new _ _ _
  have HI := Lib.hid (And.intro hA hB)
  have hr := hB.rangeQ
  have LV := Lib.hid lives26
  by_cases hbad : a < 1 ∨ 64 < a
  · have FN := Lib.hid (fun W => new_no a ka kb W hbad)
    clear hs hok hA hB
    rcases (show a < 1 ∨ (¬ a < 1 ∧ 64 < a) by omega) with h1 | ⟨h1, h2⟩
    all_goals
      clear hbad
      go_enter Tryz.func3, Tryz.ntmps3
      go_wp2_with (first
        | (refine wpList_row 24 (.tmp 4) rfl rfl w.heap.size 0 rfl #[.int .u64 ka, .int .u64 kb] _ hr Tryz.underlying24 rfl infKey ?_)
        | fail)
      refine (FN.out _).mono ?_
      rintro r w1 ⟨rfl, hc1⟩
      have HC1 := Lib.hid (HI.out.1.trans hc1)
      clear hc1 hr
      go_wp2_with fail
      refine (LV.out _).mono ?_
      rintro r w2 ⟨rfl, hc2⟩
      have HC2 := Lib.hid (HC1.out.trans hc2)
      clear hc2
      go_wp2_with fail
      go_ret
      exact ⟨rfl, HC2.out⟩
  obtain ⟨n, rfl⟩ : ∃ n : Nat, a = n := ⟨a.toNat, by omega⟩
  have hlo : 1 ≤ n := by omega
  have hhi : n ≤ 64 := by omega
  have FN := Lib.hid (new_any n ka kb (w.alloc (.cells #[.int .u64 ka, .int .u64 kb] 24)) hlo hhi)
  have HS := Lib.hid (fun W (hc : Chg [] w W) i o (hi : ops[i]? = some o) => sl_rec (Sl.chg0 hs hc) hi)
  have HOK := Lib.hid hok
  have hszA := hA.size
  clear hs hok hA hB hbad ha
  go_enter Tryz.func3, Tryz.ntmps3
  go_wp2_with (first
    | (refine wpList_row 24 (.tmp 4) rfl rfl w.heap.size 0 rfl #[.int .u64 ka, .int .u64 kb] _ hr Tryz.underlying24 rfl infKey ?_)
    | fail)
  refine FN.out.mono ?_
  rintro r w1 ⟨tb, F0, rfl, hT1, hc1, hF1⟩
  have HT1 := Lib.hid hT1
  have HC1 := Lib.hid (HI.out.1.trans hc1)
  have HF1 : Hid (∀ x ∈ F0, w.heap.size ≤ x) := Lib.hid (fun x hx => by have := hF1 x hx; omega)
  clear hT1 hc1 hF1 FN hr HI hszA
  generalize hNN : ops.length = N at *
  have hNm : N ≤ maxLen := hm
  go_wp2_with fail
  go_loopw [8] (fun iv wr => ∃ (i : Nat) (F : List Nat) (s : Sx), i ≤ N ∧ i ≤ 100 ∧ iv = .int .i64 i ∧ Hid (FT wr tb n F i s ∧ bK (64 * i) s.c ∧ 0 ≤ s.now ∧ s.now ≤ i) ∧ Hid (Chg [] w wr) ∧ Hid (∀ x ∈ F, w.heap.size ≤ x)) (fun iv _ => 100 - (intOf iv).toNat)
  case atStart => exact ⟨0, F0, _, by omega, by omega, rfl, Lib.hid ⟨HT1.out, ⟨by simp, by simp, by simp, by simp, by simp, by simp⟩, by simp, by simp⟩, HC1, HF1⟩
  case round =>
    clear HT1 HC1 HF1
    obtain ⟨i, F, s, hiN, hi100, rfl, HT, HC, HF⟩ := hrel
    by_cases hlt : i < N ∧ i < 100
    · obtain ⟨hi1, hi2⟩ := hlt
      have hiI : (i : Int) < 100 := by omega
      have hox : ops[i]? = some (ops[i]'(by omega)) := List.getElem?_eq_getElem _
      generalize (ops[i]'(by omega)) = o at hox
      have hoo := HOK.out o (List.mem_of_getElem? hox)
      have FL := Lib.hid (len_any HT.out.1)
      have FC := Lib.hid (counts_any HT.out.1)
      have HL0 := Lib.hid HT.out.1.len
      clear hi100
      go_upto_region 7 with fail
      go_wp2_with fail
      refine FL.out.mono ?_
      rintro r w' ⟨rfl, rfl⟩
      go_wp2_with fail
      refine FC.out.mono ?_
      rintro r w2 ⟨rfl, hc2⟩
      have hT2 := HT.out.1.chg0 hc2
      have hC2 := HC.out.trans hc2
      obtain ⟨b, off, c', hv, hcc, hro⟩ := HS.out w2 hC2 i o hox
      simp only [Value.slice.injEq] at hv
      obtain ⟨rfl, _, rfl⟩ := hv
      have FD := Lib.hid (do_any hT2 hoo HT.out.2.2.1 (by have := HT.out.2.2.2; omega) (by omega) (HT.out.2.1.bC (by omega)))
      have HC2 := Lib.hid hC2
      have hfe := field_ev s.c
      rw [arrC_eq]
      clear hT2 hc2 hC2 FL FC hcc
      go_wp2_with (first
        | (refine wpList_row 40 (.tmp 46) rfl rfl b (off + i * 36) rfl (arrO o) _ hro Tryz.underlying40 rfl infO ?_)
        | fail)
      refine FD.out.mono ?_
      rintro r w3 ⟨rfl, F3, hT3, hc3, hf3⟩
      obtain ⟨hb3, hnw3a, hnw3b⟩ := do_bound (n := n) (s := s) (o := o) (N := 64 * i) (by have := HL0.out; omega) HT.out.2.1
      have hev : s.L.length < n → (doS n s o).1.c.evicted = s.c.evicted := do_room
      generalize hD : (doS n s o).1 = s3 at *
      generalize (doS n s o).2 = d2 at *
      clear hD
      have HT3 := Lib.hid hT3
      have HC3 : Hid (Chg [] w w3) := Lib.hid (HC2.out.trans' hc3 (fun x hx => .inr (HF.out x hx)))
      have HF3 : Hid (∀ x ∈ F3, w.heap.size ≤ x) := Lib.hid (fun x hx => (hf3 x hx).elim (HF.out x) (fun h => by have := HC2.out.size; omega))
      have HB3 := Lib.hid (And.intro hb3 (And.intro hnw3a hnw3b))
      have FA := Lib.hid (all_any hT3)
      have HLN := Lib.hid hT3.len
      have HND := Lib.hid hT3.nd
      have HOKE := Lib.hid hT3.ok
      have HNOW := Lib.hid (And.intro HT.out.2.2.1 HT.out.2.2.2)
      clear hT3 hc3 hf3 FD hro HT HC HF HC2 hb3 hnw3a hnw3b
      go_wp2_with fail
      refine FA.out.mono ?_
      rintro r w4 ⟨v4, rfl, hown, hc4⟩
      obtain ⟨A4, cp4, hv4⟩ := Sl.form (Sl.of_own hown)
      subst hv4
      have HT4 := Lib.hid (HT3.out.chg0 hc4)
      have HC4 := Lib.hid (HC3.out.trans hc4)
      have HR4 := Lib.hid (fun W (hc : Chg [] w4 W) i e (hi : s3.L[i]? = some e) => row_fl ((Sl.of_own hown).chg0 hc) hi)
      have FL4 := Lib.hid (len_any HT4.out)
      have FC4 := Lib.hid (counts_any HT4.out)
      have hfe4 := field_ev s3.c
      clear hown hc4 FA HT3 HC3
      have hle1 : ¬ (n : Int) < (s3.L.length : Int) := by have := HLN.out; omega
      have hbeq : ((s3.L.length : Int) == (s3.L.length : Int)) = true := by simp
      generalize hM : s3.L.length = M at *
      have HM := Lib.hid hM
      clear hM
      go_upto_region 10 with fail
      go_cut [73] (fun v wx => v = .bool false ∧ Hid (Chg [] w4 wx))
      case first =>
        by_cases hwas : s.L.length < n
        · have hwI : (s.L.length : Int) < (n : Int) := by omega
          have he := hev hwas
          rw [he] at hfe4
          go_wp2_with fail
          refine FL4.out.mono ?_
          rintro r w' ⟨rfl, rfl⟩
          go_wp2_with fail
          refine FC4.out.mono ?_
          rintro r w5 ⟨rfl, hc5⟩
          have HC5 := Lib.hid hc5
          rw [arrC_eq]
          clear hc5
          go_wp2_with fail
          go_meet
          exact ⟨by first | rfl | (simp; exact HLN.out.1), HC5⟩
        · have hwI : ¬ (s.L.length : Int) < (n : Int) := by omega
          go_wp2_with fail
          refine FL4.out.mono ?_
          rintro r w' ⟨rfl, rfl⟩
          go_wp2_with fail
          go_meet
          exact ⟨by first | rfl | (simp; exact HLN.out.1), Lib.hid (Chg.refl _ _)⟩
      case rest =>
        obtain ⟨rfl, HC5⟩ := hcut
        have HCW := Lib.hid (HC4.out.trans HC5.out)
        have HT5 := Lib.hid (HT4.out.chg0 HC5.out)
        have HR5 := Lib.hid (fun W (hc : Chg [] wc W) => HR4.out W (HC5.out.trans hc))
        clear FL4 FC4 hfe4 hfe hev HC4 HT4 HR4 HC5
        go_wp2_with fail
        go_loopw [12] (fun xv wx => ∃ x : Nat, x ≤ M ∧ xv = .int .i64 x ∧ Hid (Chg [] wc wx)) (fun xv _ => M - (intOf xv).toNat)
        case atStart => exact ⟨0, by omega, rfl, Lib.hid (Chg.refl _ _)⟩
        case round =>
          obtain ⟨x, hxM, rfl, HX⟩ := hrel
          by_cases hxlt : x < M
          · have hex : s3.L[x]? = some (s3.L[x]'(by have := HM.out; omega)) := List.getElem?_eq_getElem _
            generalize (s3.L[x]'(by have := HM.out; omega)) = ex at hex
            go_wp2_with fail
            go_loopw [13] (fun yv wy => ∃ y : Nat, y ≤ x ∧ yv = .int .i64 y ∧ Hid (Chg [] wc wy)) (fun yv _ => x - (intOf yv).toNat)
            case atStart => exact ⟨0, by omega, rfl, HX⟩
            case round =>
              clear HX
              obtain ⟨y, hyx, rfl, HY⟩ := hrel
              by_cases hylt : y < x
              · have hey : s3.L[y]? = some (s3.L[y]'(by have := HM.out; omega)) := List.getElem?_eq_getElem _
                generalize (s3.L[y]'(by have := HM.out; omega)) = ey at hey
                obtain ⟨b1, o1, c1, hv1, _, hf1⟩ := HR5.out wc (Chg.refl _ _) x ex hex
                simp only [Value.slice.injEq] at hv1
                obtain ⟨rfl, _, rfl⟩ := hv1
                have HFX := Lib.hid (fun W (hc : Chg [] wr W) => by
                  obtain ⟨b2, o2, c2, hv2, _, hf2⟩ := HR5.out W (HY.out.trans hc) x ex hex
                  simp only [Value.slice.injEq, Option.some.injEq, Addr.mk.injEq, true_and, and_true] at hv2
                  obtain ⟨⟨rfl, rfl⟩, rfl⟩ := hv2
                  exact hf2)
                have HFY := Lib.hid (fun W (hc : Chg [] wr W) => by
                  obtain ⟨b2, o2, c2, hv2, _, hf2⟩ := HR5.out W (HY.out.trans hc) y ey hey
                  simp only [Value.slice.injEq, Option.some.injEq, Addr.mk.injEq, true_and, and_true] at hv2
                  obtain ⟨⟨rfl, rfl⟩, rfl⟩ := hv2
                  exact hf2)
                have hne : decide (ex.fl = ey.fl) = false := by
                  have hnd := HND.out
                  refine decide_eq_false (fun e => ?_)
                  have h1 : (s3.L.map En.fl)[x]? = some ex.fl := by rw [List.getElem?_map, hex]; rfl
                  have h2 : (s3.L.map En.fl)[y]? = some ex.fl := by rw [List.getElem?_map, hey, e]; rfl
                  have hlx : x < (s3.L.map En.fl).length := (List.getElem?_eq_some_iff.1 h1).1
                  have := (List.getElem?_inj hlx hnd).1 (h1.trans h2.symm)
                  omega
                have hE := fun W => eq_fl W (HOKE.out ex (List.mem_of_getElem? hex)).1.fl (HOKE.out ey (List.mem_of_getElem? hey)).1.fl
                rw [hne] at hE
                have hxI : (x : Int) < (M : Int) := by omega
                have hyI : (y : Int) < (M : Int) := by omega
                have HYc := Lib.hid HY.out
                clear hf1 hne HY
                generalize hfx : ex.fl = fx at *
                generalize hfy : ey.fl = fy at *
                clear hfx hfy hex hey
                go_upto_region 18 with fail
                refine wp_region_chg (by kernel_rfl) (by kernel_rfl) ?_
                (with_reducible refine wpQuiet_pure (v := ?_) ?_ (fun w => ?_) ?_); rotate_left; (focus rfl); (focus (go_simp <;> with_reducible rfl)); (try simp only [List.getElem_toArray, List.getElem_cons_succ, List.getElem_cons_zero, Act.put, List.setIfInBounds_toArray, List.set_cons_zero, List.set_cons_succ])
                (with_reducible refine wpQuiet_pure (v := ?_) ?_ (fun w => ?_) ?_); rotate_left; (focus rfl); (focus (go_simp <;> with_reducible rfl)); (try simp only [List.getElem_toArray, List.getElem_cons_succ, List.getElem_cons_zero, Act.put, List.setIfInBounds_toArray, List.set_cons_zero, List.set_cons_succ])
                (with_reducible refine wpQuiet_pure (v := ?_) ?_ (fun w => ?_) ?_); rotate_left; (focus rfl); (focus (go_simp <;> with_reducible rfl)); (try simp only [List.getElem_toArray, List.getElem_cons_succ, List.getElem_cons_zero, Act.put, List.setIfInBounds_toArray, List.set_cons_zero, List.set_cons_succ])
                (with_reducible refine wpQuiet_pure (v := ?_) ?_ (fun w => ?_) ?_); rotate_left; (focus rfl); (focus (go_simp <;> with_reducible rfl)); (try simp only [List.getElem_toArray, List.getElem_cons_succ, List.getElem_cons_zero, Act.put, List.setIfInBounds_toArray, List.set_cons_zero, List.set_cons_succ])
                (with_reducible refine wpQuiet_rowC 38 (.tmp 88) ?_ ?_ b1 (o1 + x * 37) ?_ (arrF fx) _ HFX.out Tryz.underlying38 ?_ infF ?_); (focus rfl); (focus rfl); (focus rfl); (focus rfl); (try simp only [List.getElem_toArray, List.getElem_cons_succ, List.getElem_cons_zero, Act.put, List.setIfInBounds_toArray, List.set_cons_zero, List.set_cons_succ])
                (with_reducible refine wpQuiet_pure (v := ?_) ?_ (fun w => ?_) ?_); rotate_left; (focus rfl); (focus (go_simp <;> with_reducible rfl)); (try simp only [List.getElem_toArray, List.getElem_cons_succ, List.getElem_cons_zero, Act.put, List.setIfInBounds_toArray, List.set_cons_zero, List.set_cons_succ])
                (with_reducible refine wpQuiet_pure (v := ?_) ?_ (fun w => ?_) ?_); rotate_left; (focus rfl); (focus (go_simp <;> with_reducible rfl)); (try simp only [List.getElem_toArray, List.getElem_cons_succ, List.getElem_cons_zero, Act.put, List.setIfInBounds_toArray, List.set_cons_zero, List.set_cons_succ])
                (with_reducible refine wpQuiet_pure (v := ?_) ?_ (fun w => ?_) ?_); rotate_left; (focus rfl); (focus (go_simp <;> with_reducible rfl)); (try simp only [List.getElem_toArray, List.getElem_cons_succ, List.getElem_cons_zero, Act.put, List.setIfInBounds_toArray, List.set_cons_zero, List.set_cons_succ])
                (with_reducible refine wpQuiet_pure (v := ?_) ?_ (fun w => ?_) ?_); rotate_left; (focus rfl); (focus (go_simp <;> with_reducible rfl)); (try simp only [List.getElem_toArray, List.getElem_cons_succ, List.getElem_cons_zero, Act.put, List.setIfInBounds_toArray, List.set_cons_zero, List.set_cons_succ])
                (with_reducible refine wpQuiet_rowC 38 (.tmp 93) ?_ ?_ b1 (o1 + y * 37) ?_ (arrF fy) _ HFY.out Tryz.underlying38 ?_ infF ?_); (focus rfl); (focus rfl); (focus rfl); (focus rfl); (try simp only [List.getElem_toArray, List.getElem_cons_succ, List.getElem_cons_zero, Act.put, List.setIfInBounds_toArray, List.set_cons_zero, List.set_cons_succ])
                (with_reducible refine wpQuiet_pure (v := ?_) ?_ (fun w => ?_) ?_); rotate_left; (focus rfl); (focus (go_simp <;> with_reducible rfl)); (try simp only [List.getElem_toArray, List.getElem_cons_succ, List.getElem_cons_zero, Act.put, List.setIfInBounds_toArray, List.set_cons_zero, List.set_cons_succ])
                refine wpQuiet_nil ?_
                intro w9 hc9
                have HC9 := Lib.hid (HYc.out.trans hc9)
                clear hc9 HFX HFY hE HYc
                go_wp2_with fail
                go_roundw
                case rel => exact ⟨y + 1, by omega, by go_num, HC9⟩
                case measure => simp [intOf]; omega
              · obtain rfl : y = x := by omega
                go_wp2_with fail
                go_roundw
                case rel => exact ⟨y + 1, by omega, by go_num, HY⟩
                case measure => simp [intOf]; omega
          · obtain rfl : x = M := by omega
            have HFIN := Lib.hid (HCW.out.trans HX.out)
            have HTF := Lib.hid (HT5.out.chg0 HX.out)
            have HKF : Hid (bK (64 * ((i + 1 : Nat) : Int)) s3.c ∧ 0 ≤ s3.now ∧ s3.now ≤ ((i + 1 : Nat) : Int)) := Lib.hid ⟨HB3.out.1.more (by omega), by have := HB3.out.2; have := HNOW.out; omega, by have := HB3.out.2; have := HNOW.out; omega⟩
            clear HX HCW HT5 HR5
            go_wp2_with fail
            go_roundw
            case rel => exact ⟨i + 1, F3, s3, by omega, by omega, by go_num, Lib.hid ⟨HTF.out, HKF.out⟩, HFIN, HF3⟩
            case measure => simp [intOf]; omega
    · have hend : ¬ i < N ∨ ¬ i < 100 := by omega
      go_wp2_with fail
      all_goals
        refine (LV.out _).mono ?_
        rintro r w9 ⟨rfl, hc9⟩
        have HFIN := Lib.hid (HC.out.trans hc9)
        clear hc9
        go_wp2_with fail
        go_ret
        exact ⟨rfl, HFIN.out⟩
end Go.Proofs.YtldgdpekhjignaaGreat.Ft
