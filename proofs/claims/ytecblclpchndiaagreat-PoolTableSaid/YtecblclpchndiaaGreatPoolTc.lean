/-
  WALK: PoolTable. Condition: the arguments read as data.
-/
import Derived.Test.YtecblclpchndiaaGreatPool5
set_option linter.unusedVariables false
set_option linter.unusedSimpArgs false
namespace Go.Proofs.YtecblclpchndiaaGreat
open Go.RowKit

/-- A state and the table's law. -/
def StT (w wr : World) (p hp : Nat) (ka kb : Int) (k : Nat) (now : Int) : Prop := ∃ s, StP w wr p hp ka kb k now s ∧ TInv ka kb s

set_option maxRecDepth 100000 in
set_option maxHeartbeats 4000000 in
theorem table35_any (ka kb : Int) {w : World} {B : Nat} {v : Value} {cl : List PO} (h : SlO w B v cl) (ho : ∀ o ∈ cl, I64 o.node ∧ I64 o.later) :
    Calls Tryz.prog 3 #[.agg #[.int .u64 ka, .int .u64 kb], v] w fun e w' => e = .returned (.bool true) ∧ Chg [] w w' := by
  obtain ⟨Ac, cc, ev⟩ := Sl.form h
  subst ev
  have HX : Hid (∀ i, i < cl.length → ∃ x, cl[i]? = some x ∧ I64 x.node ∧ I64 x.later) := Lib.hid fun i hi => ⟨_, List.getElem?_eq_getElem hi, ho _ (List.getElem_mem _)⟩
  have hA := (Chg.refl [] w).alloc (.cells #[.int .u64 ka, .int .u64 kb] 24)
  have hb := Blk.new w 24 #[.int .u64 ka, .int .u64 kb]
  have h := h.chg0 hA
  have k0 := hb.cell 0
  have k1 := hb.cell 1
  simp only [List.getElem?_toArray, List.getElem?_cons_succ, List.getElem?_cons_zero] at k0 k1
  have HI := Lib.hid (And.intro hA (And.intro hb h))
  clear ho hA hb h
  go_enter Tryz.func3, Tryz.ntmps3
  go_wp2_with fail
  obtain ⟨hA, hb, h⟩ := HI.out
  generalize w.alloc (.cells #[.int .u64 ka, .int .u64 kb] 24) = wb at *
  have HS := Lib.hid (fun W (hW : Chg [] wb W) i x hx => (h.chg0 hW).at_ (i := i) (x := x) hx)
  have HBW := Lib.hid (fun W (hW : Chg [] wb W) => hb.chg hW (by simp))
  have HA := Lib.hid hA
  refine (new_st ka kb wb wb (Chg.refl _ _)).mono ?_
  rintro e w1 ⟨p, hp, rfl, hst, hc1⟩
  have HST : Hid (StT wb w1 p hp ka kb 0 0) := Lib.hid ⟨_, hst, fun _ => rfl, by simp⟩
  clear hst hc1 k0 k1 hA hb h HI
  go_wp2_with fail
  go_loopw [6, 7] (fun nv iv wr => ∃ (k : Nat) (now : Int), k ≤ cl.length ∧ k ≤ 30 ∧ iv = .int .i64 k ∧ nv = .int .i64 now ∧ Hid (StT wb wr p hp ka kb k now)) (fun _ iv _ => 30 - (intOf iv).toNat)
  case atStart => exact ⟨0, 0, by omega, by omega, rfl, rfl, HST⟩
  case round =>
    obtain ⟨k, now, hkl, hk30, rfl, rfl, HT⟩ := hrel
    clear HST
    by_cases hlt : k < cl.length ∧ k < 30
    · obtain ⟨hlt, hlt30⟩ := hlt
      have hcn : (k : Int) < (cl.length : Int) := by omega
      have hcn30 : (k : Int) < 30 := by omega
      obtain ⟨s, hs, hti⟩ := HT.out
      obtain ⟨x, hx, hxn, hxl⟩ := HX.out k hlt
      obtain ⟨b, o, c', hv, hcap, c0, c1, c2, c3⟩ := HS.out wr hs.chg k x hx
      simp only [Value.slice.injEq, true_and] at hv
      obtain ⟨rfl, rfl⟩ := hv
      obtain ⟨kd, lt, nd, wt⟩ := x
      simp only at c0 c1 c2 c3 hxn hxl
      have hxl2 : -9223372036854775808 ≤ lt ∧ lt ≤ 9223372036854775807 := hxl
      have hnow := hs.tick
      have FA := Lib.hid (all_st hs)
      have FD := Lib.hid (fun W (hW : Chg [] wr W) => do_st hs hW (by omega) ⟨kd, lt, nd, wt⟩ hxn)
      have HSS := Lib.hid hs
      have HTI := Lib.hid hti
      clear HX HS hx hs hti HT hxl
      go_upto_region 8 with fail
      go_cut [6] (fun sv wx => sv = .int .i64 (now + laterF lt) ∧ wr = wx)
      case first =>
        have HL : Hid (laterF lt = min (max lt 0) 1000) := Lib.hid rfl
        have hw64 : ∀ y : Int, 0 ≤ y → y ≤ 1000 → IntKind.i64.wrap (now + y) = now + y := fun y h1 h2 => by rw [IntKind.wrap_i64]; omega
        have hlw := hw64 (laterF lt) (laterF_le lt).1 (laterF_le lt).2
        clear FA FD HSS HTI hw64
        generalize laterF lt = q at *
        go_wp2_with fail
        go_meet
        exact ⟨by rw [HL.out], rfl⟩
      case rest =>
        obtain ⟨rfl, rfl⟩ := hcut
        go_wp2_with fail
        refine FA.out.mono ?_
        rintro e w2 ⟨v2, rfl, hl2, hc2⟩
        have FD2 := Lib.hid (FD.out w2 hc2)
        have HL2 := Lib.hid hl2
        have HC2 := Lib.hid hc2
        have c0 := hc2.cell c0 (by simp)
        have c1 := hc2.cell c1 (by simp)
        have c2 := hc2.cell c2 (by simp)
        have c3 := hc2.cell c3 (by simp)
        clear FA FD hl2 hc2
        generalize laterF lt = q at *
        go_wp2_with fail
        refine FD2.out.mono ?_
        rintro e w3 ⟨⟨rfl, hs3⟩, T, hcT, hT⟩
        have HL3 := Lib.hid (Sl.chg HL2.out hcT hT)
        have HB3 := Lib.hid (chP_t (now := now + q) (r := howO ⟨kd, lt, nd, wt⟩ s.L) HTI.out)
        generalize hr : chP ka kb (now + q) s (howO ⟨kd, lt, nd, wt⟩ s.L) = r at *
        obtain ⟨er, s'⟩ := r
        simp only at hs3 HB3
        have HS3 := Lib.hid hs3
        have FA3 := Lib.hid (all_st hs3)
        have h3c := hs3.chg
        clear hr FD2 c0 c1 c2 c3 hs3 hxn hcT hT HL2
        go_wp2_with fail
        refine FA3.out.mono ?_
        rintro e w4 ⟨v4, rfl, hl4, hc4⟩
        have FV := Lib.hid (versions_st (HS3.out.chg0 hc4))
        have HL4 := Lib.hid hl4
        have HC4 := Lib.hid hc4
        clear hl4 hc4 FA3
        go_wp2_with fail
        refine FV.out.mono ?_
        rintro e w5 ⟨v5, es5, rfl, hl5, hv5, hc5⟩
        have HC5 := Lib.hid (HC4.out.trans hc5)
        have HL5 := Lib.hid (And.intro hl5 hv5)
        have HL4' := Lib.hid (HL4.out.chg0 hc5)
        have HL3' := Lib.hid (Sl.chg0 HL3.out HC5.out)
        clear hl5 hv5 hc5 FV HL4 HC4 h3c HL3
        obtain ⟨A2, c2, e2⟩ := Sl.form HL3'.out
        obtain ⟨A4, c4, e4⟩ := Sl.form HL4'.out
        obtain ⟨A5, c5, e5⟩ := Sl.form HL5.out.1
        subst e2 e4 e5
        go_upto_if 52 with fail
        go_cut [] (fun wx => Hid (Chg [] w5 wx))
        case first =>
          by_cases her : er = 0
          · subst her
            go_wp2_with fail
            go_meet
            exact Lib.hid (Chg.refl _ _)
          · obtain rfl := HB3.out.2 her
            have HSA := Lib.hid (fun W (hW : Chg [] w5 W) i x hx => SlB.at_ (SlB.chg0 HL3'.out hW) (i := i) (x := x) hx)
            have HSB := Lib.hid (fun W (hW : Chg [] w5 W) i x hx => SlB.at_ (SlB.chg0 HL4'.out hW) (i := i) (x := x) hx)
            have HXX : Hid (∀ i, i < s'.L.length → ∃ x, s'.L[i]? = some x ∧ okBk x) := Lib.hid fun i hi => ⟨_, List.getElem?_eq_getElem hi, okB_bk HS3.out.ok.bk _ (List.getElem_mem _)⟩
            clear HB3 HTI HSS
            have hn16 : s'.L.length ≤ 16 := HS3.out.ok.bk.len
            generalize hn : s'.L.length = n at *
            go_wp2_with fail
            go_loopw [12] (fun jv wx => ∃ (j : Nat), j ≤ n ∧ jv = .int .i64 j ∧ Hid (Chg [] w5 wx)) (fun jv _ => n - (intOf jv).toNat)
            case atStart => exact ⟨0, by omega, rfl, Lib.hid (Chg.refl _ _)⟩
            case round =>
              obtain ⟨j, hj, rfl, HCj⟩ := hrel
              by_cases hjl : j < n
              · have hcj : (j : Int) < (n : Int) := by omega
                obtain ⟨y, hy, hyo⟩ := HXX.out j hjl
                obtain ⟨b2, o2, cc2, hv2, hcap2, d0, d1, d2, d3⟩ := HSA.out _ HCj.out j y hy
                obtain ⟨b4, o4, cc4, hv4, hcap4, g0, g1, g2, g3⟩ := HSB.out _ HCj.out j y hy
                simp only [hn, Value.slice.injEq, true_and] at hv2 hv4
                obtain ⟨rfl, rfl⟩ := hv2
                obtain ⟨rfl, rfl⟩ := hv4
                obtain ⟨y1, y2, y3, y4⟩ := y
                have hEq := fun W => eq_bk W hyo hyo
                simp only [decide_true] at hEq d0 d1 d2 d3 g0 g1 g2 g3
                clear hy hyo HXX HSA HSB hn
                go_upto_region 18 with fail
                go_region
                go_wp2_with fail
                go_roundw
                case rel => exact ⟨j + 1, by omega, by go_num, Lib.hid (Chg.drew HCj.out)⟩
                case measure => simp [intOf] <;> omega
              · obtain rfl : j = n := by omega
                have hcj : ¬ (j : Int) < (j : Int) := by omega
                clear HXX HSA HSB
                go_wp2_with fail
                go_meet
                exact HCj
        case rest =>
          have HS6 := Lib.hid (HS3.out.chg0 (HC5.out.trans hcut.out))
          have HTS := Lib.hid HB3.out.1
          have HV6 := Lib.hid (Sl.chg0 HL5.out.1 hcut.out)
          have HE6 := Lib.hid (HL5.out.2.step (hcut.out.more (T := []) (by simp)) (S' := []) (by simp))
          have HK6 : Hid (Blk wc w.heap.size 24 #[.int .u64 ka, .int .u64 kb]) := Lib.hid (HBW.out wc HS6.out.chg)
          have hle : es5.length = s'.V.length := HL5.out.2.1
          clear HB3 HL5 HL4' HL3' HC5 HS3 hcut HTI HSS
          rcases Nat.eq_zero_or_pos es5.length with h0 | h0
          · have hV : s'.V = [] := List.eq_nil_of_length_eq_zero (by omega)
            have hL : s'.L.length = 0 := by rw [HTS.out.1 hV]; rfl
            have HST2 : Hid (StT wb wc p hp ka kb (k + 1) (now + q)) := Lib.hid ⟨s', HS6.out, HTS.out⟩
            rw [h0, hL]
            clear hV hL hle HE6 HV6
            go_wp2_with fail
            go_roundw
            case rel => exact ⟨k + 1, now + q, by omega, by omega, by go_num, rfl, HST2⟩
            case measure => simp [intOf] <;> omega
          · obtain ⟨m, hm⟩ : ∃ m, es5.length = m + 1 := ⟨es5.length - 1, by omega⟩
            obtain ⟨y, hy⟩ : ∃ y, s'.V[m]? = some y := ⟨_, List.getElem?_eq_getElem (by omega)⟩
            obtain ⟨e5, he5⟩ : ∃ e, es5[m]? = some e := ⟨_, List.getElem?_eq_getElem (by omega)⟩
            have hvr := HE6.out.2 m e5 y he5 hy
            have hty : y.tab = tabP ka kb s'.L := HTS.out.2 y (by rw [← hle, hm, Nat.add_sub_cancel]; exact hy)
            obtain ⟨b5, o5, cc5, hv5, _, hcap5, hq5⟩ := Sl.rec encV_len (by omega) HV6.out he5
            have g3 := hq5 3 (by omega)
            rw [← Nat.add_assoc] at g3
            have g3 : wc.cell? ⟨b5, o5 + m * 4 + 3, none⟩ = some e5.tv := g3
            simp only [Value.slice.injEq, true_and] at hv5
            obtain ⟨rfl, rfl⟩ := hv5
            obtain ⟨TA, tcc, et⟩ := Sl.form hvr.tab.1
            rw [et] at g3
            have HTAB : Hid (SlZ wc 0 (.slice TA y.tab.length tcc) y.tab) := Lib.hid (by rw [← et]; exact hvr.tab.1)
            have HTY := Lib.hid hty
            have HOKL : Hid (s'.L.length ≤ 1000 ∧ (membersP s'.L).length ≤ 1000 ∧ y.tab.length ≤ 1000) := Lib.hid (by
              have h1 := HS6.out.ok.bk.len
              refine ⟨by omega, by rw [membersP_len]; omega, by rw [hty, tabP_len]; omega⟩)
            have hm2 : m ≤ 1000 := by have := HS6.out.ok.vs.len; omega
            rw [hm] at hcap5 ⊢
            clear hvr hty hq5 hy he5 et HE6 HV6 h0 hm hle
            go_upto_region 23 with fail
            refine wp_region_noPanic ?_
            have hS0 : (fun W : World => Blk W w.heap.size 24 #[.int .u64 ka, .int .u64 kb]) wc.drew := HK6.out.drew
            have HSC0 : ∀ W : World, (fun W : World => Blk W w.heap.size 24 #[.int .u64 ka, .int .u64 kb]) W → W.cell? ⟨w.heap.size, 0, none⟩ = some (.int .u64 ka) := fun W h => h.cell 0
            have HSC1 : ∀ W : World, (fun W : World => Blk W w.heap.size 24 #[.int .u64 ka, .int .u64 kb]) W → W.cell? ⟨w.heap.size, 1, none⟩ = some (.int .u64 kb) := fun W h => h.cell 1
            refine wp_region_held_drew (S := fun W : World => Blk W w.heap.size 24 #[.int .u64 ka, .int .u64 kb]) (by kernel_rfl) hS0 (fun _ => ?_)
            refine wpAnyH_take (i := 0) (v := ?_) rfl (by kernel_rfl) (by kernel_rfl) (by kernel_rfl) (fun _ _ _ h => h) (yields_pure (by rfl) (fun w => ?_)) (by with_reducible assumption) ?_
            rotate_left
            · (go_simp <;> with_reducible rfl)
            try simp only [List.getElem_toArray, List.getElem_cons_succ, List.getElem_cons_zero, Act.put, List.setIfInBounds_toArray, List.set_cons_zero, List.set_cons_succ]
            refine wpAnyH_take (i := 1) rfl (by kernel_rfl) (by kernel_rfl) (by kernel_rfl) (fun _ _ _ h => h) (yields_cell (by rfl) 22 (.tmp 80) rfl w.heap.size 0 rfl (.int .u64 ka) _ HSC0 Tryz.underlying22 rfl) (by with_reducible assumption) ?_
            try simp only [List.getElem_toArray, List.getElem_cons_succ, List.getElem_cons_zero, Act.put, List.setIfInBounds_toArray, List.set_cons_zero, List.set_cons_succ]
            refine wpAnyH_take (i := 2) (v := ?_) rfl (by kernel_rfl) (by kernel_rfl) (by kernel_rfl) (fun _ _ _ h => h) (yields_pure (by rfl) (fun w => ?_)) (by with_reducible assumption) ?_
            rotate_left
            · (go_simp <;> with_reducible rfl)
            try simp only [List.getElem_toArray, List.getElem_cons_succ, List.getElem_cons_zero, Act.put, List.setIfInBounds_toArray, List.set_cons_zero, List.set_cons_succ]
            refine wpAnyH_take (i := 3) rfl (by kernel_rfl) (by kernel_rfl) (by kernel_rfl) (fun _ _ _ h => h) (yields_cell (by rfl) 22 (.tmp 82) rfl w.heap.size 1 rfl (.int .u64 kb) _ HSC1 Tryz.underlying22 rfl) (by with_reducible assumption) ?_
            try simp only [List.getElem_toArray, List.getElem_cons_succ, List.getElem_cons_zero, Act.put, List.setIfInBounds_toArray, List.set_cons_zero, List.set_cons_succ]
            refine wpAnyH_take (i := 4) (v := ?_) rfl (by kernel_rfl) (by kernel_rfl) (by kernel_rfl) (fun _ _ _ h => h) (yields_pure (by rfl) (fun w => ?_)) (by with_reducible assumption) ?_
            rotate_left
            · (go_simp <;> with_reducible rfl)
            try simp only [List.getElem_toArray, List.getElem_cons_succ, List.getElem_cons_zero, Act.put, List.setIfInBounds_toArray, List.set_cons_zero, List.set_cons_succ]
            refine wpAnyH_take (i := 5) (v := ?_) rfl (by kernel_rfl) (by kernel_rfl) (by kernel_rfl) (fun _ _ _ h => h) (yields_pure (by rfl) (fun w => ?_)) (by with_reducible assumption) ?_
            rotate_left
            · (go_simp <;> with_reducible rfl)
            try simp only [List.getElem_toArray, List.getElem_cons_succ, List.getElem_cons_zero, Act.put, List.setIfInBounds_toArray, List.set_cons_zero, List.set_cons_succ]
            refine wpAnyH_ready (rs := [6]) (by kernel_rfl) (by simp) (AllReadyH.cons rfl (fun K hK => ?_) AllReadyH.nil)
            go_simp
            refine (members_st (HS6.out.chg0 ((Chg.refl [] wc).drew))).mono ?_
            rintro e w7 ⟨v7, rfl, hm7, hc7⟩
            have hS7 : (fun W : World => Blk W w.heap.size 24 #[.int .u64 ka, .int .u64 kb]) w7 := hS0.chg hc7 (by simp)
            refine hK.out _ _ (by with_reducible assumption) (fun _ => ?_)
            clear hK K
            try simp only [List.getElem_toArray, List.getElem_cons_succ, List.getElem_cons_zero, Act.put, List.setIfInBounds_toArray, List.set_cons_zero, List.set_cons_succ]
            refine wpAnyH_ready (rs := [7]) (by kernel_rfl) (by simp) (AllReadyH.cons rfl (fun K hK => ?_) AllReadyH.nil)
            go_simp
            refine (build17_any ka kb 61 hm7 HOKL.out.2.1).mono ?_
            rintro e w8 ⟨v8, q8, rfl, hb8, hc8⟩
            have hS8 : (fun W : World => Blk W w.heap.size 24 #[.int .u64 ka, .int .u64 kb]) w8 := hS7.chg hc8 (by simp)
            obtain ⟨tl, ht8, htb⟩ := hb8.tb
            obtain ⟨rfl, rfl⟩ := tabP_of HS6.out.ok.bk htb
            refine hK.out _ _ (by with_reducible assumption) (fun _ => ?_)
            clear hK K
            try simp only [List.getElem_toArray, List.getElem_cons_succ, List.getElem_cons_zero, Act.put, List.setIfInBounds_toArray, List.set_cons_zero, List.set_cons_succ]
            refine wpAnyH_take (i := 8) (v := ?_) rfl (by kernel_rfl) (by kernel_rfl) (by kernel_rfl) (fun _ _ _ h => h) (yields_pure (by rfl) (fun w => ?_)) (by with_reducible assumption) ?_
            rotate_left
            · (go_simp <;> with_reducible rfl)
            try simp only [List.getElem_toArray, List.getElem_cons_succ, List.getElem_cons_zero, Act.put, List.setIfInBounds_toArray, List.set_cons_zero, List.set_cons_succ]
            refine wpAnyH_take (i := 9) (v := ?_) rfl (by kernel_rfl) (by kernel_rfl) (by kernel_rfl) (fun _ _ _ h => h) (yields_pure (by rfl) (fun w => ?_)) (by with_reducible assumption) ?_
            rotate_left
            · (go_simp <;> with_reducible rfl)
            try simp only [List.getElem_toArray, List.getElem_cons_succ, List.getElem_cons_zero, Act.put, List.setIfInBounds_toArray, List.set_cons_zero, List.set_cons_succ]
            refine wpAnyH_take (i := 10) (v := ?_) rfl (by kernel_rfl) (by kernel_rfl) (by kernel_rfl) (fun _ _ _ h => h) (yields_pure (by rfl) (fun w => ?_)) (by with_reducible assumption) ?_
            rotate_left
            · (go_simp <;> with_reducible rfl)
            try simp only [List.getElem_toArray, List.getElem_cons_succ, List.getElem_cons_zero, Act.put, List.setIfInBounds_toArray, List.set_cons_zero, List.set_cons_succ]
            refine wpAnyH_take (i := 11) (v := ?_) rfl (by kernel_rfl) (by kernel_rfl) (by kernel_rfl) (fun _ _ _ h => h) (yields_pure (by rfl) (fun w => ?_)) (by with_reducible assumption) ?_
            rotate_left
            · (go_simp <;> with_reducible rfl)
            try simp only [List.getElem_toArray, List.getElem_cons_succ, List.getElem_cons_zero, Act.put, List.setIfInBounds_toArray, List.set_cons_zero, List.set_cons_succ]
            refine wpAnyH_take (i := 12) (v := ?_) rfl (by kernel_rfl) (by kernel_rfl) (by kernel_rfl) (fun _ _ _ h => h) (yields_pure (by rfl) (fun w => ?_)) (by with_reducible assumption) ?_
            rotate_left
            · (go_simp <;> with_reducible rfl)
            try simp only [List.getElem_toArray, List.getElem_cons_succ, List.getElem_cons_zero, Act.put, List.setIfInBounds_toArray, List.set_cons_zero, List.set_cons_succ]
            refine wpAnyH_done (by kernel_rfl) ?_ _
            refine NoPanic.normal ?_
            have hC8 : Chg [] wc w8 := ((Chg.refl [] wc).drew.trans hc7).trans hc8
            have g3 := hC8.cell g3 (by simp)
            have FI := ints20_any (HTAB.out.chg0 hC8) ht8 HOKL.out.2.2
            rw [decide_eq_true HTY.out] at FI
            have FI := Lib.hid FI
            have HST2 : Hid (∀ W, Chg [] w8 W → StT wb W p hp ka kb (k + 1) (now + q)) := Lib.hid fun W hW => ⟨s', HS6.out.chg0 (hC8.trans hW), HTS.out⟩
            have hml : (m : Int) < (m : Int) + 1 := by omega
            have hmw : IntKind.i64.wrap (m : Int) = (m : Int) := by rw [IntKind.wrap_i64]; omega
            have hm1 : (m : Int) + 1 - 1 = (m : Int) := by omega
            clear hS0 hS7 hS8 HSC0 HSC1 hb8 htb hc7 hc8 hm7 ht8 hC8 HTAB HTY HOKL HS6 HTS HK6
            go_wp2_with fail
            refine FI.out.mono ?_
            rintro e w9 ⟨rfl, hc9⟩
            have HF9 := Lib.hid (HST2.out w9 hc9)
            clear hc9 HST2 FI g3
            go_wp2_with fail
            go_roundw
            case rel => exact ⟨k + 1, now + q, by omega, by omega, by go_num, rfl, HF9⟩
            case measure => simp [intOf] <;> omega
    · have hcn : ¬ ((k : Int) < (cl.length : Int) ∧ (k : Int) < 30) := by omega
      obtain ⟨s, hs, hti⟩ := HT.out
      have HC := Lib.hid (HA.out.trans hs.chg)
      clear hs hti HT HX HS HBW
      by_cases hlt0 : k < cl.length
      · have hk : k = 30 := by omega
        have hcn0 : (k : Int) < (cl.length : Int) := by omega
        have hcn30 : ¬ (k : Int) < 30 := by omega
        clear hcn hlt
        go_wp2_with fail
        refine (lives35_any _).mono ?_
        rintro e w9 ⟨rfl, hc9⟩
        have HC9 := Lib.hid (HC.out.trans hc9)
        clear hc9
        go_wp2_with fail
        go_ret
        exact ⟨rfl, HC9.out⟩
      · have hcn0 : ¬ (k : Int) < (cl.length : Int) := by omega
        clear hcn hlt
        go_wp2_with fail
        refine (lives35_any _).mono ?_
        rintro e w9 ⟨rfl, hc9⟩
        have HC9 := Lib.hid (HC.out.trans hc9)
        clear hc9
        go_wp2_with fail
        go_ret
        exact ⟨rfl, HC9.out⟩
end Go.Proofs.YtecblclpchndiaaGreat
