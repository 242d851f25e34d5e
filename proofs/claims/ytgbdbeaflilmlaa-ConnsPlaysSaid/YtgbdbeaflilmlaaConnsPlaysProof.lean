/-
  PROVED: ConnsPlays returns true for every input, and its arguments read as before. No condition.
-/
import Derived.Test.YtgbdbeaflilmlaaConnSw
import Derived.Test.YtgbdbeaflilmlaaFrame
import Derived.Test.YtgbdbeaflilmlaaOpen30
set_option linter.unusedVariables false
set_option linter.unusedSimpArgs false
namespace Go.Proofs.Ytgbdbeaflilmlaa
open Go.RowKit Go.Maps

set_option maxRecDepth 100000 in
set_option maxHeartbeats 8000000 in
theorem plays30 {n : Int} {A : Option Addr} {cap : Nat} {l : List Op3} {w : World} (hnw : (Lit.int .i64 n).wf = true) (hs : SlO3 w 0 (.slice A l.length cap) l) (hm : l.length ≤ maxLen) (hk : ∀ x ∈ l, okO3 x) :
    Calls Try.prog 9 #[.int .i64 n, .slice A l.length cap] w fun r w' => r = .returned (.bool true) ∧ Chg [] w w' := by
  have HLV := Lib.hid lives30
  have HS := Lib.hid (fun W (hc : Chg [] w W) i (x : Op3) (hx : l[i]? = some x) => (hs.chg0 hc).one hx)
  have HX : Hid (∀ i, i < l.length → ∃ x, l[i]? = some x ∧ okO3 x) := Lib.hid fun i hi => ⟨_, List.getElem?_eq_getElem hi, hk _ (List.getElem_mem hi)⟩
  clear hs hk hnw
  generalize hN : l.length = N at *
  by_cases hbad : n < 1 ∨ 64 < n
  · have F0 := Lib.hid (fun W => cnew_no (n := n) hbad W)
    have hcase : ∃ b1 b2, decide (n < 1) = b1 ∧ decide (64 < n) = b2 ∧ (b1 = true ∨ (b1 = false ∧ b2 = true)) := ⟨_, _, rfl, rfl, by
      rcases hbad with h | h
      · exact .inl (by simpa using h)
      · by_cases h2 : n < 1
        · exact .inl (by simpa using h2)
        · exact .inr ⟨by simpa using h2, by simpa using h⟩⟩
    obtain ⟨b1, b2, hb1, hb2, hbc⟩ := hcase
    clear hbad HS HX
    go_enter Try.func9, Try.ntmps9
    rcases hbc with rfl | ⟨rfl, rfl⟩
    all_goals
      go_wp2_with fail
      refine (F0.out _).mono ?_
      rintro r w2 ⟨rfl, rfl⟩
      go_wp2_with fail
      refine (HLV.out _).mono ?_
      rintro r w3 ⟨rfl, hc3⟩
      go_wp2_with fail
      go_ret
      exact ⟨rfl, hc3⟩
  · have hn1 : 1 ≤ n := by omega
    have hn2 : n ≤ 64 := by omega
    have F0 := Lib.hid (cnew_any hn1 hn2 w)
    have hb1 : decide (n < 1) = false := decide_eq_false (by omega)
    have hb2 : decide (64 < n) = false := decide_eq_false (by omega)
    clear hbad
    go_enter Try.func9, Try.ntmps9
    go_wp2_with fail
    refine F0.out.mono ?_
    rintro r w2 ⟨tb, S, rfl, hS, hc2⟩
    have hA2 := (Chg.refl [] w2).alloc (.cells (arrT 0 0 (.slice none 0 0)) 110)
    have hB2 : Blk (w2.alloc (.cells (arrT 0 0 (.slice none 0 0)) 110)) w2.heap.size 110 (arrT 0 0 (.slice none 0 0)) := Blk.new _ _ _
    have HSS := Lib.hid (And.intro hS hc2)
    clear hS hc2 F0
    go_upto_region 7 with (first
      | (refine wpList_store_blk rfl 110 _ _ rfl rfl hB2 rfl rfl rfl (infT (n := n) (now := 0) (v := .slice none 0 0)) rfl ?_; intro w3 hB3 hc3)
      | fail)
    have HJ0 : Hid (∃ c S' v L, JC w w3 tb w2.heap.size (0 + 0) n c S' v L) := Lib.hid ⟨_, S, _, [], JC.fin (HSS.out.1) (fun hm => by have := HSS.out.1.lt _ hm; omega) HSS.out.2.size hA2 hc3 hB3 (RowS.nil _ _) (RC.new n) rfl (by simp)⟩
    generalize w2.heap.size = gw at *
    clear HSS hA2 hB2 hB3 hc3
    go_wp2_with fail
    go_loopw [7] (fun iv wr => ∃ k : Nat, k ≤ N ∧ k ≤ 100 ∧ iv = .int .i64 k ∧ Hid (∃ c S' v L, JC w wr tb gw (k + 0) n c S' v L)) (fun iv _ => N - (intOf iv).toNat)
    case atStart => exact ⟨0, by omega, by omega, rfl, HJ0⟩
    case round =>
      obtain ⟨k, hkN, hk1, rfl, HJ⟩ := hrel
      obtain ⟨c, S', v, L, hJ⟩ := HJ.out
      have hcw := hJ.ct.chg
      by_cases hlt : k < N ∧ k < 100
      · obtain ⟨hlt1, hlt2⟩ := id hlt
        have hb100 : ((k : Int) < 100) := by omega
        obtain ⟨x, hx, hxo⟩ := HX.out k hlt.1
        obtain ⟨b, o, rfl, kc, rg⟩ := HS.out _ hcw k x hx
        have hA := (Chg.refl [] wr).alloc (.cells arrN0 96)
        have hB : Blk (wr.alloc (.cells arrN0 96)) wr.heap.size 96 arrN0 := Blk.new _ _ _
        have HJJ := Lib.hid hJ
        have HXO := Lib.hid hxo.2
        have HLT := Lib.hid hlt
        have RG := Lib.hid rg
        have KC := Lib.hid kc
        have HCW := Lib.hid hcw
        clear HJ hJ hx hxo HX HS hlt rg kc hcw
        go_upto_region 11 with (first
          | (refine wpList_row 96 (.tmp 50) rfl rfl b _ rfl (arrN x.e) _ RG.out Try.underlying96 rfl infN ?_)
          | (refine wpList_store_blk rfl 96 _ _ rfl rfl hB rfl rfl rfl (infN (e := x.e)) (arrN_one x.e) ?_; intro w5 hB5 hc5)
          | fail)
        have hc5' := hA.trans' hc5 (by intro y hy; simp at hy; subst hy; exact .inr (Nat.le_refl _))
        have hJ5 := HJJ.out.chg0 hc5'
        have kc5 := hc5'.cell KC.out (by simp)
        have HB5 := Lib.hid hB5
        have HJ5 := Lib.hid hJ5
        have HGX : Hid (wr.heap.size ∉ S' ∧ wr.heap.size ≠ gw ∧ wr.heap.size < w5.heap.size) := Lib.hid ⟨fun hm => by have := HJJ.out.ct.lt _ hm; omega, fun e => by have := HJJ.out.bl.lt; omega, hB5.lt⟩
        clear hA hB hB5 hc5 hc5' hJ5 RG KC HCW HJJ
        generalize wr.heap.size = gx at *
        go_upto_block 2 with fail
        rename_i K2 hK2
        clear kc5
        generalize x.kind.tmod 7 = r at *
        change Code.wp Try.prog ((Try.f9.body.bind (blkOf 2)).getD .skip) _ _ _
        refine sw30 HJ5 HB5 HXO HGX hk1 ?_
        intros
        rename_i wc0 hcut
        refine hK2 _ _ ?_
        clear hK2
        obtain ⟨⟨q, F, c6, S6, v6, L6, rfl, rfl, hl6, hm6, hF6, hFl, hJ6⟩, hBx6⟩ := hcut.out
        obtain ⟨Al, cl, rfl⟩ := Sl.form hl6
        obtain ⟨Am, cm, rfl⟩ := Sl.form hm6
        obtain ⟨Av, cv, rfl⟩ := Sl.form hJ6.row.sl
        obtain ⟨⟨m1, m2, m3, qq, nn, vs, sq, its, hr6, hrr⟩, hci6, _, _⟩ := id hJ6.ct
        have FA := Lib.hid (call_any hr6 hci6)
        have HJ6 := Lib.hid (And.intro hJ6 (And.intro hr6 (And.intro hci6 hBx6)))
        have HF := Lib.hid (And.intro hl6 (And.intro hm6 hF6))
        clear hcut hl6 hm6 hF6 hJ6 hr6 hrr hci6 hBx6 HJ5 HB5 HGX
        go_upto_region 23 with (first
          | (go_at_call 47; refine FA.out.mono ?_; rintro q1 w7 ⟨va, A7, rfl, hsA, hpA, hslA, hc7⟩)
          | fail)
        obtain rfl : A7 = L6 := HJ6.out.1.rc.busy hsA hpA
        obtain ⟨Aa, ca, rfl⟩ := Sl.form hslA
        have HA7 := Lib.hid (And.intro hslA hc7)
        have hself : (q != q) = false := by simp
        clear hsA hpA hslA hc7 FA
        go_cut [143] (fun t wx => t = .bool false ∧ Hid (Chg [] w7 wx))
        case first =>
          have hlen : c6.l.length = A7.length := HJ6.out.1.rc.len.symm
          have hbz : ((c6.l.map (·.1)).filter busyE).length = (A7.filter busyE).length := ((HJ6.out.1.rc.pm.filter busyE).length_eq).symm
          have hL64 := HJ6.out.1.len.2
          have C1 : Hid (∀ W, Chg [] w7 W → W.cell? ⟨gw, 2, none⟩ = some (.slice Av A7.length cv)) := Lib.hid fun W hc => (HJ6.out.1.bl.chg (HA7.out.2.trans hc) (by simp)).cell 2
          have C2 : Hid (∀ W, Chg [] w7 W → W.cell? ⟨gw, 1, none⟩ = some (.int .i64 c6.now)) := Lib.hid fun W hc => (HJ6.out.1.bl.chg (HA7.out.2.trans hc) (by simp)).cell 1
          have C3 : Hid (∀ W, Chg [] w7 W → W.rangeAt gw 0 (arrT n c6.now (.slice Av A7.length cv)).toList) := Lib.hid fun W hc => (HJ6.out.1.bl.chg (HA7.out.2.trans hc) (by simp)).rangeQ
          have F1 : Hid (∀ W, Chg [] w7 W → Calls Try.prog 42 #[.pointer (some ⟨tb, 0, none⟩)] W fun r w'' => r = .returned (.int .i64 (A7.length : Nat)) ∧ Chg [] w7 w'') := Lib.hid fun W hc => (clen_any (HJ6.out.2.1.chg0 (HA7.out.2.trans hc))).mono fun (r : Ending) w'' ⟨h1, h2⟩ => ⟨by rw [h1, hlen], h2 ▸ hc⟩
          have F2 : Hid (∀ W, Chg [] w7 W → Calls Try.prog 41 #[.pointer (some ⟨tb, 0, none⟩)] W fun r w'' => r = .returned (.int .i64 c6.now) ∧ Chg [] w7 w'') := Lib.hid fun W hc => (cnow_any (HJ6.out.2.1.chg0 (HA7.out.2.trans hc))).mono fun (r : Ending) w'' ⟨h1, h2⟩ => ⟨h1, h2 ▸ hc⟩
          have F3 : Hid (∀ W, Chg [] w7 W → Calls Try.prog 48 #[.pointer (some ⟨tb, 0, none⟩)] W fun r w'' => r = .returned (.int .i64 n) ∧ Chg [] w7 w'') := Lib.hid fun W hc => (ccap_any (HJ6.out.2.1.chg0 (HA7.out.2.trans hc))).mono fun (r : Ending) w'' ⟨h1, h2⟩ => ⟨by rw [h1, HJ6.out.1.n], h2 ▸ hc⟩
          have F4 : Hid (∀ W, Chg [] w7 W → Calls Try.prog 49 #[.pointer (some ⟨tb, 0, none⟩)] W fun r w'' => r = .returned (.int .i64 ((A7.filter busyE).length : Nat)) ∧ Chg [] w7 w'') := Lib.hid fun W hc => (cbusy_any (HJ6.out.2.1.chg0 (HA7.out.2.trans hc)) HJ6.out.2.2.1).mono fun (r : Ending) w'' ⟨h1, h2⟩ => ⟨by rw [h1, hbz], hc.trans h2⟩
          have F5 : Hid (∀ W, Chg [] w7 W → Calls Try.prog 50 #[.agg (arrT n c6.now (.slice Av A7.length cv))] W fun r w'' => r = .returned (.int .i64 ((A7.filter busyE).length : Nat)) ∧ Chg [] w7 w'') := Lib.hid fun W hc => (rbusy30 (n := n) (now := c6.now) (HJ6.out.1.row.sl.chg0 (HA7.out.2.trans hc)) hL64).mono fun (r : Ending) w'' ⟨h1, h2⟩ => ⟨h1, hc.trans h2⟩
          clear hlen hbz hL64
          generalize (A7.filter busyE).length = bz at *
          generalize A7.length = NA at *
          generalize F.length = NF at *
          refine wp_region_chg (by kernel_rfl) (by kernel_rfl) ?_
          (with_reducible refine wpQuiet_pure (v := ?_) ?_ (fun w => ?_) ?_); rotate_left; (focus rfl); (focus (go_simp <;> with_reducible rfl)); (try simp only [List.getElem_toArray, List.getElem_cons_succ, List.getElem_cons_zero, Act.put, List.setIfInBounds_toArray, List.set_cons_zero, List.set_cons_succ])
          (with_reducible refine wpQuiet_pure (v := ?_) ?_ (fun w => ?_) ?_); rotate_left; (focus rfl); (focus (go_simp <;> with_reducible rfl)); (try simp only [List.getElem_toArray, List.getElem_cons_succ, List.getElem_cons_zero, Act.put, List.setIfInBounds_toArray, List.set_cons_zero, List.set_cons_succ])
          (with_reducible refine wpQuiet_pure (v := ?_) ?_ (fun w => ?_) ?_); rotate_left; (focus rfl); (focus (go_simp <;> with_reducible rfl)); (try simp only [List.getElem_toArray, List.getElem_cons_succ, List.getElem_cons_zero, Act.put, List.setIfInBounds_toArray, List.set_cons_zero, List.set_cons_succ])
          (try simp only [hself])
          (with_reducible refine wpQuiet_pure (v := ?_) ?_ (fun w => ?_) ?_); rotate_left; (focus rfl); (focus (go_simp <;> with_reducible rfl)); (try simp only [List.getElem_toArray, List.getElem_cons_succ, List.getElem_cons_zero, Act.put, List.setIfInBounds_toArray, List.set_cons_zero, List.set_cons_succ])
          (with_reducible refine wpQuiet_pure (v := ?_) ?_ (fun w => ?_) ?_); rotate_left; (focus rfl); (focus (go_simp <;> with_reducible rfl)); (try simp only [List.getElem_toArray, List.getElem_cons_succ, List.getElem_cons_zero, Act.put, List.setIfInBounds_toArray, List.set_cons_zero, List.set_cons_succ])
          (with_reducible refine wpQuiet_pure (v := ?_) ?_ (fun w => ?_) ?_); rotate_left; (focus rfl); (focus (go_simp <;> with_reducible rfl)); (try simp only [List.getElem_toArray, List.getElem_cons_succ, List.getElem_cons_zero, Act.put, List.setIfInBounds_toArray, List.set_cons_zero, List.set_cons_succ])
          (with_reducible refine wpQuiet_pure (v := ?_) ?_ (fun w => ?_) ?_); rotate_left; (focus rfl); (focus (go_simp <;> with_reducible rfl)); (try simp only [List.getElem_toArray, List.getElem_cons_succ, List.getElem_cons_zero, Act.put, List.setIfInBounds_toArray, List.set_cons_zero, List.set_cons_succ])
          (with_reducible refine wpQuiet_pure (v := ?_) ?_ (fun w => ?_) ?_); rotate_left; (focus rfl); (focus (go_simp <;> with_reducible rfl)); (try simp only [List.getElem_toArray, List.getElem_cons_succ, List.getElem_cons_zero, Act.put, List.setIfInBounds_toArray, List.set_cons_zero, List.set_cons_succ])
          (with_reducible refine wpQuiet_pure (v := ?_) ?_ (fun w => ?_) ?_); rotate_left; (focus rfl); (focus (go_simp <;> with_reducible rfl)); (try simp only [List.getElem_toArray, List.getElem_cons_succ, List.getElem_cons_zero, Act.put, List.setIfInBounds_toArray, List.set_cons_zero, List.set_cons_succ])
          (with_reducible refine wpQuiet_pure (v := ?_) ?_ (fun w => ?_) ?_); rotate_left; (focus rfl); (focus (go_simp <;> with_reducible rfl)); (try simp only [List.getElem_toArray, List.getElem_cons_succ, List.getElem_cons_zero, Act.put, List.setIfInBounds_toArray, List.set_cons_zero, List.set_cons_succ])
          (with_reducible refine wpQuiet_pure (v := ?_) ?_ (fun w => ?_) ?_); rotate_left; (focus rfl); (focus (go_simp <;> with_reducible rfl)); (try simp only [List.getElem_toArray, List.getElem_cons_succ, List.getElem_cons_zero, Act.put, List.setIfInBounds_toArray, List.set_cons_zero, List.set_cons_succ])
          (with_reducible refine wpQuiet_pure (v := ?_) ?_ (fun w => ?_) ?_); rotate_left; (focus rfl); (focus (go_simp <;> with_reducible rfl)); (try simp only [List.getElem_toArray, List.getElem_cons_succ, List.getElem_cons_zero, Act.put, List.setIfInBounds_toArray, List.set_cons_zero, List.set_cons_succ])
          (with_reducible refine wpQuiet_pure (v := ?_) ?_ (fun w => ?_) ?_); rotate_left; (focus rfl); (focus (go_simp <;> with_reducible rfl)); (try simp only [List.getElem_toArray, List.getElem_cons_succ, List.getElem_cons_zero, Act.put, List.setIfInBounds_toArray, List.set_cons_zero, List.set_cons_succ])
          (with_reducible refine wpQuiet_pure (v := ?_) ?_ (fun w => ?_) ?_); rotate_left; (focus rfl); (focus (go_simp <;> with_reducible rfl)); (try simp only [List.getElem_toArray, List.getElem_cons_succ, List.getElem_cons_zero, Act.put, List.setIfInBounds_toArray, List.set_cons_zero, List.set_cons_succ])
          (with_reducible refine wpQuiet_cellC 108 (.tmp 111) ?_ ?_ gw 2 ?_ (.slice Av NA cv) _ C1.out Try.underlying108 ?_ ?_); (focus rfl); (focus rfl); (focus rfl); (focus rfl); (try simp only [List.getElem_toArray, List.getElem_cons_succ, List.getElem_cons_zero, Act.put, List.setIfInBounds_toArray, List.set_cons_zero, List.set_cons_succ])
          (with_reducible refine wpQuiet_pure (v := ?_) ?_ (fun w => ?_) ?_); rotate_left; (focus rfl); (focus (go_simp <;> with_reducible rfl)); (try simp only [List.getElem_toArray, List.getElem_cons_succ, List.getElem_cons_zero, Act.put, List.setIfInBounds_toArray, List.set_cons_zero, List.set_cons_succ])
          (with_reducible refine wpQuiet_pure (v := ?_) ?_ (fun w => ?_) ?_); rotate_left; (focus rfl); (focus (go_simp <;> with_reducible rfl)); (try simp only [List.getElem_toArray, List.getElem_cons_succ, List.getElem_cons_zero, Act.put, List.setIfInBounds_toArray, List.set_cons_zero, List.set_cons_succ])
          (with_reducible refine wpQuiet_pure (v := ?_) ?_ (fun w => ?_) ?_); rotate_left; (focus rfl); (focus (go_simp <;> with_reducible rfl)); (try simp only [List.getElem_toArray, List.getElem_cons_succ, List.getElem_cons_zero, Act.put, List.setIfInBounds_toArray, List.set_cons_zero, List.set_cons_succ])
          (with_reducible refine wpQuiet_pure (v := ?_) ?_ (fun w => ?_) ?_); rotate_left; (focus rfl); (focus (go_simp <;> with_reducible rfl)); (try simp only [List.getElem_toArray, List.getElem_cons_succ, List.getElem_cons_zero, Act.put, List.setIfInBounds_toArray, List.set_cons_zero, List.set_cons_succ])
          (with_reducible refine wpQuiet_pure (v := ?_) ?_ (fun w => ?_) ?_); rotate_left; (focus rfl); (focus (go_simp <;> with_reducible rfl)); (try simp only [List.getElem_toArray, List.getElem_cons_succ, List.getElem_cons_zero, Act.put, List.setIfInBounds_toArray, List.set_cons_zero, List.set_cons_succ])
          (with_reducible refine wpQuiet_do ?_ (fun K hK => ?_)); (focus rfl); go_simp; (apply Exists.intro); (refine ⟨fun W hW => F1.out W hW, hK _ ?_⟩); (clear hK K); (try simp only [List.getElem_toArray, List.getElem_cons_succ, List.getElem_cons_zero, Act.put, List.setIfInBounds_toArray, List.set_cons_zero, List.set_cons_succ])
          (with_reducible refine wpQuiet_pure (v := ?_) ?_ (fun w => ?_) ?_); rotate_left; (focus rfl); (focus (go_simp <;> with_reducible rfl)); (try simp only [List.getElem_toArray, List.getElem_cons_succ, List.getElem_cons_zero, Act.put, List.setIfInBounds_toArray, List.set_cons_zero, List.set_cons_succ])
          (with_reducible refine wpQuiet_cellC 108 (.tmp 119) ?_ ?_ gw 2 ?_ (.slice Av NA cv) _ C1.out Try.underlying108 ?_ ?_); (focus rfl); (focus rfl); (focus rfl); (focus rfl); (try simp only [List.getElem_toArray, List.getElem_cons_succ, List.getElem_cons_zero, Act.put, List.setIfInBounds_toArray, List.set_cons_zero, List.set_cons_succ])
          (with_reducible refine wpQuiet_pure (v := ?_) ?_ (fun w => ?_) ?_); rotate_left; (focus rfl); (focus (go_simp <;> with_reducible rfl)); (try simp only [List.getElem_toArray, List.getElem_cons_succ, List.getElem_cons_zero, Act.put, List.setIfInBounds_toArray, List.set_cons_zero, List.set_cons_succ])
          (with_reducible refine wpQuiet_pure (v := ?_) ?_ (fun w => ?_) ?_); rotate_left; (focus rfl); (focus (go_simp <;> with_reducible rfl)); (try simp only [List.getElem_toArray, List.getElem_cons_succ, List.getElem_cons_zero, Act.put, List.setIfInBounds_toArray, List.set_cons_zero, List.set_cons_succ])
          (with_reducible refine wpQuiet_pure (v := ?_) ?_ (fun w => ?_) ?_); rotate_left; (focus rfl); (focus (go_simp <;> with_reducible rfl)); (try simp only [List.getElem_toArray, List.getElem_cons_succ, List.getElem_cons_zero, Act.put, List.setIfInBounds_toArray, List.set_cons_zero, List.set_cons_succ])
          (with_reducible refine wpQuiet_pure (v := ?_) ?_ (fun w => ?_) ?_); rotate_left; (focus rfl); (focus (go_simp <;> with_reducible rfl)); (try simp only [List.getElem_toArray, List.getElem_cons_succ, List.getElem_cons_zero, Act.put, List.setIfInBounds_toArray, List.set_cons_zero, List.set_cons_succ])
          (with_reducible refine wpQuiet_pure (v := ?_) ?_ (fun w => ?_) ?_); rotate_left; (focus rfl); (focus (go_simp <;> with_reducible rfl)); (try simp only [List.getElem_toArray, List.getElem_cons_succ, List.getElem_cons_zero, Act.put, List.setIfInBounds_toArray, List.set_cons_zero, List.set_cons_succ])
          (with_reducible refine wpQuiet_do ?_ (fun K hK => ?_)); (focus rfl); go_simp; (apply Exists.intro); (refine ⟨fun W hW => F2.out W hW, hK _ ?_⟩); (clear hK K); (try simp only [List.getElem_toArray, List.getElem_cons_succ, List.getElem_cons_zero, Act.put, List.setIfInBounds_toArray, List.set_cons_zero, List.set_cons_succ])
          (with_reducible refine wpQuiet_pure (v := ?_) ?_ (fun w => ?_) ?_); rotate_left; (focus rfl); (focus (go_simp <;> with_reducible rfl)); (try simp only [List.getElem_toArray, List.getElem_cons_succ, List.getElem_cons_zero, Act.put, List.setIfInBounds_toArray, List.set_cons_zero, List.set_cons_succ])
          (with_reducible refine wpQuiet_cellC 3 (.tmp 127) ?_ ?_ gw 1 ?_ (.int .i64 c6.now) _ C2.out Try.underlying3 ?_ ?_); (focus rfl); (focus rfl); (focus rfl); (focus rfl); (try simp only [List.getElem_toArray, List.getElem_cons_succ, List.getElem_cons_zero, Act.put, List.setIfInBounds_toArray, List.set_cons_zero, List.set_cons_succ])
          (with_reducible refine wpQuiet_pure (v := ?_) ?_ (fun w => ?_) ?_); rotate_left; (focus rfl); (focus (go_simp <;> with_reducible rfl)); (try simp only [List.getElem_toArray, List.getElem_cons_succ, List.getElem_cons_zero, Act.put, List.setIfInBounds_toArray, List.set_cons_zero, List.set_cons_succ])
          (with_reducible refine wpQuiet_pure (v := ?_) ?_ (fun w => ?_) ?_); rotate_left; (focus rfl); (focus (go_simp <;> with_reducible rfl)); (try simp only [List.getElem_toArray, List.getElem_cons_succ, List.getElem_cons_zero, Act.put, List.setIfInBounds_toArray, List.set_cons_zero, List.set_cons_succ])
          (with_reducible refine wpQuiet_pure (v := ?_) ?_ (fun w => ?_) ?_); rotate_left; (focus rfl); (focus (go_simp <;> with_reducible rfl)); (try simp only [List.getElem_toArray, List.getElem_cons_succ, List.getElem_cons_zero, Act.put, List.setIfInBounds_toArray, List.set_cons_zero, List.set_cons_succ])
          (with_reducible refine wpQuiet_pure (v := ?_) ?_ (fun w => ?_) ?_); rotate_left; (focus rfl); (focus (go_simp <;> with_reducible rfl)); (try simp only [List.getElem_toArray, List.getElem_cons_succ, List.getElem_cons_zero, Act.put, List.setIfInBounds_toArray, List.set_cons_zero, List.set_cons_succ])
          (with_reducible refine wpQuiet_do ?_ (fun K hK => ?_)); (focus rfl); go_simp; (apply Exists.intro); (refine ⟨fun W hW => F3.out W hW, hK _ ?_⟩); (clear hK K); (try simp only [List.getElem_toArray, List.getElem_cons_succ, List.getElem_cons_zero, Act.put, List.setIfInBounds_toArray, List.set_cons_zero, List.set_cons_succ])
          (with_reducible refine wpQuiet_pure (v := ?_) ?_ (fun w => ?_) ?_); rotate_left; (focus rfl); (focus (go_simp <;> with_reducible rfl)); (try simp only [List.getElem_toArray, List.getElem_cons_succ, List.getElem_cons_zero, Act.put, List.setIfInBounds_toArray, List.set_cons_zero, List.set_cons_succ])
          (with_reducible refine wpQuiet_pure (v := ?_) ?_ (fun w => ?_) ?_); rotate_left; (focus rfl); (focus (go_simp <;> with_reducible rfl)); (try simp only [List.getElem_toArray, List.getElem_cons_succ, List.getElem_cons_zero, Act.put, List.setIfInBounds_toArray, List.set_cons_zero, List.set_cons_succ])
          (with_reducible refine wpQuiet_pure (v := ?_) ?_ (fun w => ?_) ?_); rotate_left; (focus rfl); (focus (go_simp <;> with_reducible rfl)); (try simp only [List.getElem_toArray, List.getElem_cons_succ, List.getElem_cons_zero, Act.put, List.setIfInBounds_toArray, List.set_cons_zero, List.set_cons_succ])
          (with_reducible refine wpQuiet_pure (v := ?_) ?_ (fun w => ?_) ?_); rotate_left; (focus rfl); (focus (go_simp <;> with_reducible rfl)); (try simp only [List.getElem_toArray, List.getElem_cons_succ, List.getElem_cons_zero, Act.put, List.setIfInBounds_toArray, List.set_cons_zero, List.set_cons_succ])
          (with_reducible refine wpQuiet_pure (v := ?_) ?_ (fun w => ?_) ?_); rotate_left; (focus rfl); (focus (go_simp <;> with_reducible rfl)); (try simp only [List.getElem_toArray, List.getElem_cons_succ, List.getElem_cons_zero, Act.put, List.setIfInBounds_toArray, List.set_cons_zero, List.set_cons_succ])
          (with_reducible refine wpQuiet_do ?_ (fun K hK => ?_)); (focus rfl); go_simp; (apply Exists.intro); (refine ⟨fun W hW => F4.out W hW, hK _ ?_⟩); (clear hK K); (try simp only [List.getElem_toArray, List.getElem_cons_succ, List.getElem_cons_zero, Act.put, List.setIfInBounds_toArray, List.set_cons_zero, List.set_cons_succ])
          (with_reducible refine wpQuiet_rowC 110 (.tmp 6) ?_ ?_ gw 0 ?_ (arrT n c6.now (.slice Av NA cv)) _ C3.out Try.underlying110 ?_ infT ?_); (focus rfl); (focus rfl); (focus rfl); (focus rfl); (try simp only [List.getElem_toArray, List.getElem_cons_succ, List.getElem_cons_zero, Act.put, List.setIfInBounds_toArray, List.set_cons_zero, List.set_cons_succ])
          (with_reducible refine wpQuiet_do ?_ (fun K hK => ?_)); (focus rfl); go_simp; (apply Exists.intro); (refine ⟨fun W hW => F5.out W hW, hK _ ?_⟩); (clear hK K); (try simp only [List.getElem_toArray, List.getElem_cons_succ, List.getElem_cons_zero, Act.put, List.setIfInBounds_toArray, List.set_cons_zero, List.set_cons_succ])
          (with_reducible refine wpQuiet_pure (v := ?_) ?_ (fun w => ?_) ?_); rotate_left; (focus rfl); (focus (go_simp <;> with_reducible rfl)); (try simp only [List.getElem_toArray, List.getElem_cons_succ, List.getElem_cons_zero, Act.put, List.setIfInBounds_toArray, List.set_cons_zero, List.set_cons_succ])
          (with_reducible refine wpQuiet_pure (v := ?_) ?_ (fun w => ?_) ?_); rotate_left; (focus rfl); (focus (go_simp <;> with_reducible rfl)); (try simp only [List.getElem_toArray, List.getElem_cons_succ, List.getElem_cons_zero, Act.put, List.setIfInBounds_toArray, List.set_cons_zero, List.set_cons_succ])
          refine wpQuiet_nil ?_
          intro w9 hc9
          have HC9 := Lib.hid hc9
          clear hc9 C1 C2 C3 F1 F2 F3 F4 F5
          go_wp2_with fail
          go_meet
          exact ⟨rfl, HC9⟩
        case rest =>
        obtain ⟨rfl, HC8⟩ := hcut
        generalize hNF : F.length = NF at *
        generalize hNA : A7.length = NA at *
        have HNF := Lib.hid (And.intro hNF hNA)
        have hNF64 : NF ≤ 64 := hFl
        clear hNF hNA hself hFl
        have hNA64 : NA ≤ 64 := by have := HJ6.out.1.len.2; have := HNF.out.2; omega
        go_upto_block 3 with fail
        go_cut [] (fun wx => Hid (Chg [] w7 wx))
        case first =>
          go_wp2_with fail
          go_loopw [15] (fun iv wr => ∃ j : Nat, j ≤ NF ∧ iv = .int .i64 j ∧ Hid (Chg [] w7 wr)) (fun iv _ => NF - (intOf iv).toNat)
          case atStart => exact ⟨0, by omega, rfl, HC8⟩
          case round =>
            obtain ⟨j, hj, rfl, HCj⟩ := hrel
            by_cases hjl : j < NF
            · obtain ⟨f, hf⟩ : ∃ f, F[j]? = some f := ⟨_, List.getElem?_eq_getElem (by rw [HNF.out.1]; exact hjl)⟩
              obtain ⟨bl, ol, rfl, rgl⟩ := SlF.one (SlF.chg0 HF.out.1 (HA7.out.2.trans HCj.out)) HNF.out.1 hf
              obtain ⟨bm, om, rfl, rgm⟩ := SlF.one (SlF.chg0 HF.out.2.1 (HA7.out.2.trans HCj.out)) HNF.out.1 hf
              have R1 := Lib.hid (fun W (hc : Chg [] wr W) => rangeAt_chg rgl hc (by simp))
              have R2 := Lib.hid (fun W (hc : Chg [] wr W) => rangeAt_chg rgm hc (by simp))
              have hfo := HF.out.2.2 f (List.mem_of_getElem? hf)
              have hE := fun W => eq_fl W hfo hfo
              rw [show decide (f = f) = true from decide_eq_true rfl] at hE
              clear rgl rgm hf hfo
              go_upto_region 28 with fail
              refine wp_region_chg (by kernel_rfl) (by kernel_rfl) ?_
              (with_reducible refine wpQuiet_pure (v := ?_) ?_ (fun w => ?_) ?_); rotate_left; (focus rfl); (focus (go_simp <;> with_reducible rfl)); (try simp only [List.getElem_toArray, List.getElem_cons_succ, List.getElem_cons_zero, Act.put, List.setIfInBounds_toArray, List.set_cons_zero, List.set_cons_succ])
              (with_reducible refine wpQuiet_pure (v := ?_) ?_ (fun w => ?_) ?_); rotate_left; (focus rfl); (focus (go_simp <;> with_reducible rfl)); (try simp only [List.getElem_toArray, List.getElem_cons_succ, List.getElem_cons_zero, Act.put, List.setIfInBounds_toArray, List.set_cons_zero, List.set_cons_succ])
              (with_reducible refine wpQuiet_pure (v := ?_) ?_ (fun w => ?_) ?_); rotate_left; (focus rfl); (focus (go_simp <;> with_reducible rfl)); (try simp only [List.getElem_toArray, List.getElem_cons_succ, List.getElem_cons_zero, Act.put, List.setIfInBounds_toArray, List.set_cons_zero, List.set_cons_succ])
              (with_reducible refine wpQuiet_rowC 73 (.tmp 152) ?_ ?_ bl _ ?_ (arrF f) _ R1.out Try.underlying73 ?_ infF ?_); (focus rfl); (focus rfl); (focus rfl); (focus rfl); (try simp only [List.getElem_toArray, List.getElem_cons_succ, List.getElem_cons_zero, Act.put, List.setIfInBounds_toArray, List.set_cons_zero, List.set_cons_succ])
              (with_reducible refine wpQuiet_pure (v := ?_) ?_ (fun w => ?_) ?_); rotate_left; (focus rfl); (focus (go_simp <;> with_reducible rfl)); (try simp only [List.getElem_toArray, List.getElem_cons_succ, List.getElem_cons_zero, Act.put, List.setIfInBounds_toArray, List.set_cons_zero, List.set_cons_succ])
              (with_reducible refine wpQuiet_pure (v := ?_) ?_ (fun w => ?_) ?_); rotate_left; (focus rfl); (focus (go_simp <;> with_reducible rfl)); (try simp only [List.getElem_toArray, List.getElem_cons_succ, List.getElem_cons_zero, Act.put, List.setIfInBounds_toArray, List.set_cons_zero, List.set_cons_succ])
              (with_reducible refine wpQuiet_pure (v := ?_) ?_ (fun w => ?_) ?_); rotate_left; (focus rfl); (focus (go_simp <;> with_reducible rfl)); (try simp only [List.getElem_toArray, List.getElem_cons_succ, List.getElem_cons_zero, Act.put, List.setIfInBounds_toArray, List.set_cons_zero, List.set_cons_succ])
              (with_reducible refine wpQuiet_rowC 73 (.tmp 156) ?_ ?_ bm _ ?_ (arrF f) _ R2.out Try.underlying73 ?_ infF ?_); (focus rfl); (focus rfl); (focus rfl); (focus rfl); (try simp only [List.getElem_toArray, List.getElem_cons_succ, List.getElem_cons_zero, Act.put, List.setIfInBounds_toArray, List.set_cons_zero, List.set_cons_succ])
              (with_reducible refine wpQuiet_pure (v := ?_) ?_ (fun w => ?_) ?_); rotate_left; (focus rfl); (focus (go_simp <;> with_reducible rfl)); (try simp only [List.getElem_toArray, List.getElem_cons_succ, List.getElem_cons_zero, Act.put, List.setIfInBounds_toArray, List.set_cons_zero, List.set_cons_succ])
              refine wpQuiet_nil ?_
              intro w10 hc10
              have HC10 := Lib.hid (HCj.out.trans hc10)
              clear hc10 R1 R2 hE
              go_wp2_with fail
              go_roundw
              case rel => exact ⟨j + 1, by omega, by go_num, HC10⟩
              case measure => simp [intOf]; omega
            · obtain rfl : j = NF := by omega
              go_wp2_with fail
              go_meet
              exact HCj
        case rest =>
        have HC9 := hcut
        clear hcut HC8
        go_upto_block 5 with fail
        go_cut [] (fun wx => Hid (Chg [] w7 wx))
        case first =>
          go_wp2_with fail
          go_loopw [16] (fun iv wr => ∃ j : Nat, j ≤ NA ∧ iv = .int .i64 j ∧ Hid (Chg [] w7 wr)) (fun iv _ => NA - (intOf iv).toNat)
          case atStart => exact ⟨0, by omega, rfl, HC9⟩
          case round =>
            obtain ⟨j, hj, rfl, HCj⟩ := hrel
            by_cases hjl : j < NA
            · obtain ⟨y, hy⟩ : ∃ y, A7[j]? = some y := ⟨_, List.getElem?_eq_getElem (by rw [HNF.out.2]; exact hjl)⟩
              obtain ⟨ba, oa, rfl, rga⟩ := SlN.one (HA7.out.1.chg0 HCj.out) hy
              obtain ⟨bv, ov, rfl, rgv⟩ := SlN.one (HJ6.out.1.row.sl.chg0 (HA7.out.2.trans HCj.out)) hy
              have R1 := Lib.hid (fun W (hc : Chg [] wr W) => rangeAt_chg rga hc (by simp))
              have R2 := Lib.hid (fun W (hc : Chg [] wr W) => rangeAt_chg rgv hc (by simp))
              have C1 : Hid (∀ W, Chg [] wr W → W.cell? ⟨gw, 2, none⟩ = some (.slice (some ⟨bv, ov, none⟩) NA cv)) := Lib.hid fun W hc => (HJ6.out.1.bl.chg ((HA7.out.2.trans HCj.out).trans hc) (by simp)).cell 2
              have FRf : Hid (∀ W, Chg [] wr W → Calls Try.prog 44 #[.agg (arrN y)] W fun r w'' => r = .returned (.agg (arrN y)) ∧ Chg [] wr w'') := Lib.hid fun W hc => (rref30 y W).mono fun (r : Ending) w'' ⟨h1, h2⟩ => ⟨h1, hc.trans h2⟩
              have hyo := HJ6.out.1.ok y (List.mem_of_getElem? hy)
              have hE := fun W => eq_en2 W hyo hyo
              rw [show decide (y = y) = true from decide_eq_true rfl] at hE
              clear rga rgv hy hyo
              go_upto_region 33 with fail
              refine wp_region_chg (by kernel_rfl) (by kernel_rfl) ?_
              (with_reducible refine wpQuiet_pure (v := ?_) ?_ (fun w => ?_) ?_); rotate_left; (focus rfl); (focus (go_simp <;> with_reducible rfl)); (try simp only [List.getElem_toArray, List.getElem_cons_succ, List.getElem_cons_zero, Act.put, List.setIfInBounds_toArray, List.set_cons_zero, List.set_cons_succ])
              (with_reducible refine wpQuiet_pure (v := ?_) ?_ (fun w => ?_) ?_); rotate_left; (focus rfl); (focus (go_simp <;> with_reducible rfl)); (try simp only [List.getElem_toArray, List.getElem_cons_succ, List.getElem_cons_zero, Act.put, List.setIfInBounds_toArray, List.set_cons_zero, List.set_cons_succ])
              (with_reducible refine wpQuiet_pure (v := ?_) ?_ (fun w => ?_) ?_); rotate_left; (focus rfl); (focus (go_simp <;> with_reducible rfl)); (try simp only [List.getElem_toArray, List.getElem_cons_succ, List.getElem_cons_zero, Act.put, List.setIfInBounds_toArray, List.set_cons_zero, List.set_cons_succ])
              (with_reducible refine wpQuiet_rowC 96 (.tmp 167) ?_ ?_ ba _ ?_ (arrN y) _ R1.out Try.underlying96 ?_ infN ?_); (focus rfl); (focus rfl); (focus rfl); (focus rfl); (try simp only [List.getElem_toArray, List.getElem_cons_succ, List.getElem_cons_zero, Act.put, List.setIfInBounds_toArray, List.set_cons_zero, List.set_cons_succ])
              (with_reducible refine wpQuiet_do ?_ (fun K hK => ?_)); (focus rfl); go_simp; (apply Exists.intro); (refine ⟨fun W hW => FRf.out W hW, hK _ ?_⟩); (clear hK K); (try simp only [List.getElem_toArray, List.getElem_cons_succ, List.getElem_cons_zero, Act.put, List.setIfInBounds_toArray, List.set_cons_zero, List.set_cons_succ])
              (with_reducible refine wpQuiet_pure (v := ?_) ?_ (fun w => ?_) ?_); rotate_left; (focus rfl); (focus (go_simp <;> with_reducible rfl)); (try simp only [List.getElem_toArray, List.getElem_cons_succ, List.getElem_cons_zero, Act.put, List.setIfInBounds_toArray, List.set_cons_zero, List.set_cons_succ])
              (with_reducible refine wpQuiet_cellC 108 (.tmp 170) ?_ ?_ gw 2 ?_ (.slice (some ⟨bv, ov, none⟩) NA cv) _ C1.out Try.underlying108 ?_ ?_); (focus rfl); (focus rfl); (focus rfl); (focus rfl); (try simp only [List.getElem_toArray, List.getElem_cons_succ, List.getElem_cons_zero, Act.put, List.setIfInBounds_toArray, List.set_cons_zero, List.set_cons_succ])
              (with_reducible refine wpQuiet_pure (v := ?_) ?_ (fun w => ?_) ?_); rotate_left; (focus rfl); (focus (go_simp <;> with_reducible rfl)); (try simp only [List.getElem_toArray, List.getElem_cons_succ, List.getElem_cons_zero, Act.put, List.setIfInBounds_toArray, List.set_cons_zero, List.set_cons_succ])
              (with_reducible refine wpQuiet_pure (v := ?_) ?_ (fun w => ?_) ?_); rotate_left; (focus rfl); (focus (go_simp <;> with_reducible rfl)); (try simp only [List.getElem_toArray, List.getElem_cons_succ, List.getElem_cons_zero, Act.put, List.setIfInBounds_toArray, List.set_cons_zero, List.set_cons_succ])
              (with_reducible refine wpQuiet_rowC 115 (.tmp 173) ?_ ?_ bv _ ?_ (arrN y) _ R2.out Try.underlying115 ?_ infN2 ?_); (focus rfl); (focus rfl); (focus rfl); (focus rfl); (try simp only [List.getElem_toArray, List.getElem_cons_succ, List.getElem_cons_zero, Act.put, List.setIfInBounds_toArray, List.set_cons_zero, List.set_cons_succ])
              (with_reducible refine wpQuiet_pure (v := ?_) ?_ (fun w => ?_) ?_); rotate_left; (focus rfl); (focus (go_simp <;> with_reducible rfl)); (try simp only [List.getElem_toArray, List.getElem_cons_succ, List.getElem_cons_zero, Act.put, List.setIfInBounds_toArray, List.set_cons_zero, List.set_cons_succ])
              refine wpQuiet_nil ?_
              intro w10 hc10
              have HC10 := Lib.hid (HCj.out.trans hc10)
              clear hc10 R1 R2 C1 FRf hE
              go_wp2_with fail
              go_roundw
              case rel => exact ⟨j + 1, by omega, by go_num, HC10⟩
              case measure => simp [intOf]; omega
            · obtain rfl : j = NA := by omega
              go_wp2_with fail
              go_meet
              exact HCj
        case rest =>
        have HCA := Lib.hid (HA7.out.2.trans hcut.out)
        clear hcut HC9
        have hL64 := HJ6.out.1.len.2
        have FD := Lib.hid (cfind_any (HJ6.out.2.1.chg0 HCA.out) HXO.out.fl)
        have RX := Lib.hid (fun W (hc : Chg [] wc W) => rgN_fl (HJ6.out.2.2.2.chg (HCA.out.trans hc) (by simp)).rangeQ)
        have rx0 := RX.out wc (Chg.refl _ _)
        go_wp2_with (first
          | (refine wpList_row 73 (.tmp 178) rfl rfl gx 0 rfl (arrF x.e.fl) _ rx0 Try.underlying73 rfl infF ?_)
          | fail)
        refine FD.out.mono ?_
        rintro q1 w11 ⟨rfl, hc11⟩
        have hA11 := (Chg.refl [] w11).alloc (.cells arrN0 96)
        have hB11 : Blk (w11.alloc (.cells arrN0 96)) w11.heap.size 96 arrN0 := Blk.new _ _ _
        have hfi : (idxV (idxE A7 x.e.fl) = -1 ∧ hasC c6 x.e.fl = false) ∨ ∃ (i : Nat) (y : En), idxV (idxE A7 x.e.fl) = (i : Int) ∧ hasC c6 x.e.fl = true ∧ A7[i]? = some y ∧ ((getC c6 x.e.fl).map (·.1)).getD eN0 = y := by
          have h1 := HJ6.out.1.rc.has x.e.fl
          cases hi : idxE A7 x.e.fl with
          | none => rw [hi] at h1; exact .inl ⟨rfl, h1⟩
          | some i =>
            rw [hi] at h1
            obtain ⟨y, hy, hyf⟩ := idx_some hi
            obtain ⟨n', hn'⟩ := HJ6.out.1.rc.get HJ6.out.2.2.1 hi
            refine .inr ⟨i, y, rfl, h1, hy, ?_⟩
            rw [hn', List.getD_eq_getElem?_getD, hy]; rfl
        have HC11 := Lib.hid (HCA.out.trans hc11)
        have HFI := Lib.hid hfi
        generalize ((getC c6 x.e.fl).map (·.1)).getD eN0 = g at *
        generalize hasC c6 x.e.fl = ok at *
        clear hc11 rx0 FD RX hfi
        go_upto_region 36 with (first
          | (refine wpList_store_blk rfl 96 _ _ rfl rfl hB11 rfl rfl rfl (infN (e := g)) (arrN_one g) ?_; intro w12 hB12 hc12)
          | fail)
        have hc112 := hA11.trans' hc12 (by intro y hy; simp at hy; subst hy; exact .inr (Nat.le_refl _))
        have HC12 := Lib.hid (HC11.out.trans hc112)
        have HB12 := Lib.hid hB12
        have r12 := Lib.hid (HJ6.out.1.bl.chg HC12.out (by simp)).rangeQ
        have rx12 := Lib.hid (rgN_fl (HJ6.out.2.2.2.chg HC12.out (by simp)).rangeQ)
        have FR := Lib.hid (rfind30 (n := n) (now := c6.now) (HJ6.out.1.row.sl.chg0 HC12.out) HJ6.out.1.okL hL64 HXO.out.fl)
        clear hA11 hB11 hB12 hc12 hc112
        generalize w11.heap.size = gg at *
        generalize idxV (idxE A7 x.e.fl) = ai at *
        go_upto_region 37 with (first
          | (refine wpList_row 110 (.tmp 6) rfl rfl gw 0 rfl _ _ r12.out Try.underlying110 rfl infT ?_)
          | (refine wpList_row 73 (.tmp 184) rfl rfl gx 0 rfl (arrF x.e.fl) _ rx12.out Try.underlying73 rfl infF ?_)
          | (go_at_call 51; refine FR.out.mono ?_; rintro q1 w13 ⟨rfl, hc13⟩)
          | fail)
        have HC13 := Lib.hid hc13
        clear hc13 FR r12 rx12
        go_cut [203] (fun t wx => t = .bool false ∧ Hid (Chg [] w13 wx))
        case first =>
          rcases HFI.out with ⟨rfl, rfl⟩ | ⟨i, y, rfl, rfl, hy, rfl⟩
          · have hz : decide ((0 : Int) ≤ -1) = false := rfl
            refine wp_region_chg (by kernel_rfl) (by kernel_rfl) ?_
            (with_reducible refine wpQuiet_pure (v := ?_) ?_ (fun w => ?_) ?_); rotate_left; (focus rfl); (focus (go_simp <;> with_reducible rfl)); (try simp only [List.getElem_toArray, List.getElem_cons_succ, List.getElem_cons_zero, Act.put, List.setIfInBounds_toArray, List.set_cons_zero, List.set_cons_succ])
            (with_reducible refine wpQuiet_pure (v := ?_) ?_ (fun w => ?_) ?_); rotate_left; (focus rfl); (focus (go_simp <;> with_reducible rfl)); (try simp only [List.getElem_toArray, List.getElem_cons_succ, List.getElem_cons_zero, Act.put, List.setIfInBounds_toArray, List.set_cons_zero, List.set_cons_succ])
            (with_reducible refine wpQuiet_pure (v := ?_) ?_ (fun w => ?_) ?_); rotate_left; (focus rfl); (focus (go_simp <;> with_reducible rfl)); (try simp only [List.getElem_toArray, List.getElem_cons_succ, List.getElem_cons_zero, Act.put, List.setIfInBounds_toArray, List.set_cons_zero, List.set_cons_succ])
            (try simp only [hz])
            (with_reducible refine wpQuiet_pure (v := ?_) ?_ (fun w => ?_) ?_); rotate_left; (focus rfl); (focus (go_simp <;> with_reducible rfl)); (try simp only [List.getElem_toArray, List.getElem_cons_succ, List.getElem_cons_zero, Act.put, List.setIfInBounds_toArray, List.set_cons_zero, List.set_cons_succ])
            (with_reducible refine wpQuiet_pure (v := ?_) ?_ (fun w => ?_) ?_); rotate_left; (focus rfl); (focus (go_simp <;> with_reducible rfl)); (try simp only [List.getElem_toArray, List.getElem_cons_succ, List.getElem_cons_zero, Act.put, List.setIfInBounds_toArray, List.set_cons_zero, List.set_cons_succ])
            (with_reducible refine wpQuiet_pure (v := ?_) ?_ (fun w => ?_) ?_); rotate_left; (focus rfl); (focus (go_simp <;> with_reducible rfl)); (try simp only [List.getElem_toArray, List.getElem_cons_succ, List.getElem_cons_zero, Act.put, List.setIfInBounds_toArray, List.set_cons_zero, List.set_cons_succ])
            (with_reducible refine wpQuiet_pure (v := ?_) ?_ (fun w => ?_) ?_); rotate_left; (focus rfl); (focus (go_simp <;> with_reducible rfl)); (try simp only [List.getElem_toArray, List.getElem_cons_succ, List.getElem_cons_zero, Act.put, List.setIfInBounds_toArray, List.set_cons_zero, List.set_cons_succ])
            (with_reducible refine wpQuiet_skip ?_ ?_); (focus rfl); (try simp only [List.getElem_toArray, List.getElem_cons_succ, List.getElem_cons_zero, Act.put, List.setIfInBounds_toArray, List.set_cons_zero, List.set_cons_succ])
            (with_reducible refine wpQuiet_skip ?_ ?_); (focus rfl); (try simp only [List.getElem_toArray, List.getElem_cons_succ, List.getElem_cons_zero, Act.put, List.setIfInBounds_toArray, List.set_cons_zero, List.set_cons_succ])
            (with_reducible refine wpQuiet_skip ?_ ?_); (focus rfl); (try simp only [List.getElem_toArray, List.getElem_cons_succ, List.getElem_cons_zero, Act.put, List.setIfInBounds_toArray, List.set_cons_zero, List.set_cons_succ])
            (with_reducible refine wpQuiet_skip ?_ ?_); (focus rfl); (try simp only [List.getElem_toArray, List.getElem_cons_succ, List.getElem_cons_zero, Act.put, List.setIfInBounds_toArray, List.set_cons_zero, List.set_cons_succ])
            (with_reducible refine wpQuiet_skip ?_ ?_); (focus rfl); (try simp only [List.getElem_toArray, List.getElem_cons_succ, List.getElem_cons_zero, Act.put, List.setIfInBounds_toArray, List.set_cons_zero, List.set_cons_succ])
            (with_reducible refine wpQuiet_skip ?_ ?_); (focus rfl); (try simp only [List.getElem_toArray, List.getElem_cons_succ, List.getElem_cons_zero, Act.put, List.setIfInBounds_toArray, List.set_cons_zero, List.set_cons_succ])
            (with_reducible refine wpQuiet_skip ?_ ?_); (focus rfl); (try simp only [List.getElem_toArray, List.getElem_cons_succ, List.getElem_cons_zero, Act.put, List.setIfInBounds_toArray, List.set_cons_zero, List.set_cons_succ])
            (with_reducible refine wpQuiet_skip ?_ ?_); (focus rfl); (try simp only [List.getElem_toArray, List.getElem_cons_succ, List.getElem_cons_zero, Act.put, List.setIfInBounds_toArray, List.set_cons_zero, List.set_cons_succ])
            (with_reducible refine wpQuiet_pure (v := ?_) ?_ (fun w => ?_) ?_); rotate_left; (focus rfl); (focus (go_simp <;> with_reducible rfl)); (try simp only [List.getElem_toArray, List.getElem_cons_succ, List.getElem_cons_zero, Act.put, List.setIfInBounds_toArray, List.set_cons_zero, List.set_cons_succ])
            (with_reducible refine wpQuiet_pure (v := ?_) ?_ (fun w => ?_) ?_); rotate_left; (focus rfl); (focus (go_simp <;> with_reducible rfl)); (try simp only [List.getElem_toArray, List.getElem_cons_succ, List.getElem_cons_zero, Act.put, List.setIfInBounds_toArray, List.set_cons_zero, List.set_cons_succ])
            refine wpQuiet_nil ?_
            intro w14 hc14
            have HC14 := Lib.hid hc14
            clear hc14
            go_wp2_with fail
            go_meet
            exact ⟨rfl, HC14⟩
          · have hz : decide (0 ≤ (i : Int)) = true := decide_eq_true (by omega)
            have hiN : i < NA := by have := (List.getElem?_eq_some_iff.1 hy).1; have := HNF.out.2; omega
            obtain ⟨bv, ov, rfl, rgv⟩ := SlN.one (HJ6.out.1.row.sl.chg0 (HC12.out.trans HC13.out)) hy
            have R1 := Lib.hid (fun W (hc : Chg [] w13 W) => (HB12.out.chg (HC13.out.trans hc) (by simp)).rangeQ)
            have R2 := Lib.hid (fun W (hc : Chg [] w13 W) => rangeAt_chg rgv hc (by simp))
            have C1 : Hid (∀ W, Chg [] w13 W → W.cell? ⟨gw, 2, none⟩ = some (.slice (some ⟨bv, ov, none⟩) NA cv)) := Lib.hid fun W hc => (HJ6.out.1.bl.chg ((HC12.out.trans HC13.out).trans hc) (by simp)).cell 2
            have FRf : Hid (∀ W, Chg [] w13 W → Calls Try.prog 44 #[.agg (arrN g)] W fun r w'' => r = .returned (.agg (arrN g)) ∧ Chg [] w13 w'') := Lib.hid fun W hc => (rref30 g W).mono fun (r : Ending) w'' ⟨h1, h2⟩ => ⟨h1, hc.trans h2⟩
            have hyo := HJ6.out.1.ok g (List.mem_of_getElem? hy)
            have hE := fun W => eq_en2 W hyo hyo
            rw [show decide (g = g) = true from decide_eq_true rfl] at hE
            clear rgv hy hyo
            refine wp_region_chg (by kernel_rfl) (by kernel_rfl) ?_
            (with_reducible refine wpQuiet_pure (v := ?_) ?_ (fun w => ?_) ?_); rotate_left; (focus rfl); (focus (go_simp <;> with_reducible rfl)); (try simp only [List.getElem_toArray, List.getElem_cons_succ, List.getElem_cons_zero, Act.put, List.setIfInBounds_toArray, List.set_cons_zero, List.set_cons_succ])
            (with_reducible refine wpQuiet_pure (v := ?_) ?_ (fun w => ?_) ?_); rotate_left; (focus rfl); (focus (go_simp <;> with_reducible rfl)); (try simp only [List.getElem_toArray, List.getElem_cons_succ, List.getElem_cons_zero, Act.put, List.setIfInBounds_toArray, List.set_cons_zero, List.set_cons_succ])
            (with_reducible refine wpQuiet_pure (v := ?_) ?_ (fun w => ?_) ?_); rotate_left; (focus rfl); (focus (go_simp <;> with_reducible rfl)); (try simp only [List.getElem_toArray, List.getElem_cons_succ, List.getElem_cons_zero, Act.put, List.setIfInBounds_toArray, List.set_cons_zero, List.set_cons_succ])
            (try simp only [hz])
            (with_reducible refine wpQuiet_pure (v := ?_) ?_ (fun w => ?_) ?_); rotate_left; (focus rfl); (focus (go_simp <;> with_reducible rfl)); (try simp only [List.getElem_toArray, List.getElem_cons_succ, List.getElem_cons_zero, Act.put, List.setIfInBounds_toArray, List.set_cons_zero, List.set_cons_succ])
            (with_reducible refine wpQuiet_pure (v := ?_) ?_ (fun w => ?_) ?_); rotate_left; (focus rfl); (focus (go_simp <;> with_reducible rfl)); (try simp only [List.getElem_toArray, List.getElem_cons_succ, List.getElem_cons_zero, Act.put, List.setIfInBounds_toArray, List.set_cons_zero, List.set_cons_succ])
            (with_reducible refine wpQuiet_pure (v := ?_) ?_ (fun w => ?_) ?_); rotate_left; (focus rfl); (focus (go_simp <;> with_reducible rfl)); (try simp only [List.getElem_toArray, List.getElem_cons_succ, List.getElem_cons_zero, Act.put, List.setIfInBounds_toArray, List.set_cons_zero, List.set_cons_succ])
            (with_reducible refine wpQuiet_pure (v := ?_) ?_ (fun w => ?_) ?_); rotate_left; (focus rfl); (focus (go_simp <;> with_reducible rfl)); (try simp only [List.getElem_toArray, List.getElem_cons_succ, List.getElem_cons_zero, Act.put, List.setIfInBounds_toArray, List.set_cons_zero, List.set_cons_succ])
            (with_reducible refine wpQuiet_rowC 96 (.tmp 17) ?_ ?_ gg 0 ?_ (arrN g) _ R1.out Try.underlying96 ?_ infN ?_); (focus rfl); (focus rfl); (focus rfl); (focus rfl); (try simp only [List.getElem_toArray, List.getElem_cons_succ, List.getElem_cons_zero, Act.put, List.setIfInBounds_toArray, List.set_cons_zero, List.set_cons_succ])
            (with_reducible refine wpQuiet_do ?_ (fun K hK => ?_)); (focus rfl); go_simp; (apply Exists.intro); (refine ⟨fun W hW => FRf.out W hW, hK _ ?_⟩); (clear hK K); (try simp only [List.getElem_toArray, List.getElem_cons_succ, List.getElem_cons_zero, Act.put, List.setIfInBounds_toArray, List.set_cons_zero, List.set_cons_succ])
            (with_reducible refine wpQuiet_pure (v := ?_) ?_ (fun w => ?_) ?_); rotate_left; (focus rfl); (focus (go_simp <;> with_reducible rfl)); (try simp only [List.getElem_toArray, List.getElem_cons_succ, List.getElem_cons_zero, Act.put, List.setIfInBounds_toArray, List.set_cons_zero, List.set_cons_succ])
            (with_reducible refine wpQuiet_cellC 108 (.tmp 196) ?_ ?_ gw 2 ?_ (.slice (some ⟨bv, ov, none⟩) NA cv) _ C1.out Try.underlying108 ?_ ?_); (focus rfl); (focus rfl); (focus rfl); (focus rfl); (try simp only [List.getElem_toArray, List.getElem_cons_succ, List.getElem_cons_zero, Act.put, List.setIfInBounds_toArray, List.set_cons_zero, List.set_cons_succ])
            (with_reducible refine wpQuiet_pure (v := ?_) ?_ (fun w => ?_) ?_); rotate_left; (focus rfl); (focus (go_simp <;> with_reducible rfl)); (try simp only [List.getElem_toArray, List.getElem_cons_succ, List.getElem_cons_zero, Act.put, List.setIfInBounds_toArray, List.set_cons_zero, List.set_cons_succ])
            (with_reducible refine wpQuiet_pure (v := ?_) ?_ (fun w => ?_) ?_); rotate_left; (focus rfl); (focus (go_simp <;> with_reducible rfl)); (try simp only [List.getElem_toArray, List.getElem_cons_succ, List.getElem_cons_zero, Act.put, List.setIfInBounds_toArray, List.set_cons_zero, List.set_cons_succ])
            (with_reducible refine wpQuiet_rowC 115 (.tmp 199) ?_ ?_ bv _ ?_ (arrN g) _ R2.out Try.underlying115 ?_ infN2 ?_); (focus rfl); (focus rfl); (focus rfl); (focus rfl); (try simp only [List.getElem_toArray, List.getElem_cons_succ, List.getElem_cons_zero, Act.put, List.setIfInBounds_toArray, List.set_cons_zero, List.set_cons_succ])
            (with_reducible refine wpQuiet_pure (v := ?_) ?_ (fun w => ?_) ?_); rotate_left; (focus rfl); (focus (go_simp <;> with_reducible rfl)); (try simp only [List.getElem_toArray, List.getElem_cons_succ, List.getElem_cons_zero, Act.put, List.setIfInBounds_toArray, List.set_cons_zero, List.set_cons_succ])
            (with_reducible refine wpQuiet_pure (v := ?_) ?_ (fun w => ?_) ?_); rotate_left; (focus rfl); (focus (go_simp <;> with_reducible rfl)); (try simp only [List.getElem_toArray, List.getElem_cons_succ, List.getElem_cons_zero, Act.put, List.setIfInBounds_toArray, List.set_cons_zero, List.set_cons_succ])
            (with_reducible refine wpQuiet_pure (v := ?_) ?_ (fun w => ?_) ?_); rotate_left; (focus rfl); (focus (go_simp <;> with_reducible rfl)); (try simp only [List.getElem_toArray, List.getElem_cons_succ, List.getElem_cons_zero, Act.put, List.setIfInBounds_toArray, List.set_cons_zero, List.set_cons_succ])
            refine wpQuiet_nil ?_
            intro w14 hc14
            have HC14 := Lib.hid hc14
            clear hc14
            go_wp2_with fail
            go_meet
            exact ⟨rfl, HC14⟩
        case rest =>
        obtain ⟨rfl, HC14⟩ := hcut
        have HZ : Hid (∃ c S' v L, JC w wc tb gw (k + 1 + 0) n c S' v L) := Lib.hid ⟨c6, S6, _, A7, HJ6.out.1.chg0 ((HC12.out.trans HC13.out).trans HC14.out)⟩
        clear HFI HC11 HC12 HC13 HC14
        go_wp2_with fail
        go_roundw
        case rel => exact ⟨k + 1, HLT.out.1, HLT.out.2, by go_num, HZ⟩
        case measure => have := HLT.out.1; simp [intOf]; omega
      · have HC := Lib.hid hcw
        clear HJ hJ HX HS hcw
        rcases (show k = N ∨ (k < N ∧ k = 100) by omega) with rfl | ⟨hl1, rfl⟩
        all_goals
          clear hlt
          go_wp2_with fail
          refine (HLV.out _).mono ?_
          rintro q w4 ⟨rfl, hc4⟩
          go_wp2_with fail
          go_ret
          exact ⟨rfl, HC.out.trans hc4⟩
end Go.Proofs.Ytgbdbeaflilmlaa
namespace Go.Proofs.Ytgbdbeaflilmlaa.connsPlays
open Go.ChangeShapes Go.WideShapes Go.ChangeAt Go.RowKit Go.Deep

set_option maxRecDepth 100000 in
theorem lifted (os : Os) (started : os.Started) (H : Type) (enc : TypeId × Value → H) :
    ReturnsInHanded {} Try.checked os 9 .any (Rows.connsPlaysSpec.pre6 enc Try.prog Try.f9 Rows.connsPlaysRow.domain false) (Rows.connsPlaysSpec.post enc Try.prog Try.f9 false true false false) := by
  refine returnsInHanded_of_change (C := Try.checked) own started (by kernel_rfl) Try.func9
    (ChangeSpec.witness6 (enc := enc) (C := Try.checked) false ⟨#[], #[.int .i64 0, .slice none 0 0], []⟩ 8 (by kernel_rfl) (by kernel_rfl) (by kernel_rfl) (by kernel_rfl)) ?_
  intro W base args ds gs before hval0 hW hcnd _
  have hval : ∀ (j : Nat) t v, Try.f9.params[j]? = some t → args[j]? = some v → Value.okWide Try.prog W .any base t v := hval0
  have hW' := hW
  obtain ⟨p, q, hA0, hV, rfl, hfz, hnd⟩ := hW
  have hA : DataW.TrodAll enc Try.prog W 0 (fun _ => true) true Try.f9.params.toList args.toList ds p := hA0
  rw [Try.params9] at hA hval
  obtain ⟨v0, vs0, d0, ds0, p0, q0, hargs, rfl, rfl, h0, r0⟩ := trodAll_cons hA
  obtain ⟨v1, vs1, d1, ds1, p1, q1, rfl, rfl, rfl, h1, r1⟩ := trodAll_cons r0
  obtain ⟨rfl, rfl, rfl⟩ := trodAll_nil r1
  obtain rfl : args = #[v0, v1] := by cases args; simp_all
  obtain ⟨rfl, rfl⟩ := trodVars_none hV
  obtain ⟨a0, rfl, rfl, rfl, w0⟩ := open_int Try.underlying3 (hval 0 3 v0 rfl rfl) h0
  obtain ⟨A1, cap1, op1, rfl, hs1, hm1, hk1⟩ := ops3_of (hval 1 97 v1 rfl rfl) h1
  refine (plays30 w0 hs1 hm1 hk1).mono fun e W' ⟨he, hg⟩ => ?_
  subst he
  exact ⟨_, rfl, law_post laidOut rfl Try.underlying4 (by kernel_rfl) rfl hW' rfl hg⟩

theorem over : Rows.connsPlaysRow.holds Try.pinned (OpenSpec.ofChange Rows.connsPlaysSpec) :=
  OpenClaim.holds_of_wide 9 Try.f9 rfl rfl rfl rfl rfl rfl rfl ⟨rfl, rfl, rfl, rfl, rfl⟩ rfl rfl rfl rfl rfl (by kernel_rfl) Try.func9 (by kernel_rfl)
    (of_decide_eq_true (by kernel_rfl)) (by unfold Func.isWrapper; first | (rw [if_pos (by decide +kernel)]; kernel_rfl) | (rw [if_neg (by decide +kernel)]; exact ⟨rfl, rfl⟩))
    (fun os started H enc _ => lifted os started H enc)

/-- The statement. -/
theorem proved : Rows.ConnsPlaysSaid :=
  over
#print axioms proved
end Go.Proofs.Ytgbdbeaflilmlaa.connsPlays
