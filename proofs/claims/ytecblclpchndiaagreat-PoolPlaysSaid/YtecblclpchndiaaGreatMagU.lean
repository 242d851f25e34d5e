/-
  WALK: maglev.Build. Condition: at most 1000 members.
-/
import Derived.Test.YtecblclpchndiaaGreatMagL
set_option linter.unusedVariables false
set_option linter.unusedSimpArgs false
namespace Go.Proofs.YtecblclpchndiaaGreat
open Go.RowKit

/-- A round of members; the table. -/
def roundM (ka kb : Int) (m : Nat) (L : List Mb) : List (Int × List Nat) := roundOf (ordN ka kb m) (memsM L)
def tableS (ka kb : Int) (m : Nat) (L : List Mb) : List Int := roundS (turnsS (roundM ka kb m L) m) (List.replicate m 0)
/-- What Build says. -/
def BuildR (ka kb m : Int) (L : List Mb) (w' : World) (base : Nat) (v' : Value) (e : Int) : Prop :=
  (¬ (m ≤ 251 ∧ IsPr m) ∧ e = 2 ∧ v' = .slice none 0 0) ∨ ((m ≤ 251 ∧ IsPr m) ∧ rightM L ≠ 0 ∧ e = rightM L ∧ v' = .slice none 0 0) ∨
    ((m ≤ 251 ∧ IsPr m) ∧ rightM L = 0 ∧ e = 0 ∧ ∃ L', L'.Perm L ∧ SrtM L' ∧ SlZ w' base v' (tableS ka kb m.toNat L'))
theorem ordS_of {ka kb : Int} {m : Nat} (h : IsPr (m : Int)) (n : Int) : OrdS m (ordN ka kb m n) := by
  obtain ⟨h1, h2, h3⟩ := IsPr.nat.1 h
  obtain ⟨s1, s2⟩ := skpN_lt (ka := ka) (kb := kb) (node := n) h1
  exact ⟨stepsS_len _ _ _, fun x hx => stepsS_lt (by omega) x hx, fun j hj => stepsS_all h3 s1 s2 hj⟩
theorem made_tab (m : Nat) : madeCells (Value.int .i64 0).cells (m * 1) = tabA (List.replicate m 0) := by
  apply Array.ext_getElem?
  intro j
  by_cases h : j < m
  · rw [madeCells_at _ _ _ (by omega), tabA_at]
    simp [h, Value.cells, Nat.mod_one]
  · rw [tabA_at, List.getElem?_eq_none (by simp; omega), Array.getElem?_eq_none]
    · rfl
    · simp [madeCells]; omega
theorem roundS_okS {m : Nat} {ka kb : Int} {L : List Mb} (hp : IsPr (m : Int)) (hL : ∀ x ∈ L, 1 ≤ x.node) : okS m (roundM ka kb m L) := fun y hy => by
  obtain ⟨h1, h2⟩ := roundOf_mem hy
  rw [h2]
  refine ⟨?_, (ordS_of hp _).all⟩
  simp only [memsM, List.map_map] at h1
  obtain ⟨x, hx, e⟩ := List.mem_map.1 h1
  have := hL x hx
  simp at e
  omega

theorem round_take {R : List (Int × List Nat)} {j : Nat} {x : Int × List Nat} (h : R[j]? = some x) (t : List Int) : roundS (R.take (j + 1)) t = claimS x.2 x.1 (roundS (R.take j) t) := by
  rw [List.take_add_one, h, roundS_app]
  rfl
theorem round_left {R : List (Int × List Nat)} {j : Nat} {t : List Int} (h : okS t.length R) (hj : j ≤ R.length) (hf : j ≤ freeN t) : freeN (roundS (R.take j) t) + j = freeN t := by
  have := roundS_free (R.take j) t (h.sub fun x hx => List.mem_of_mem_take hx) (by rw [List.length_take]; omega)
  rw [List.length_take] at this
  omega
theorem slz_of_blk {w : World} {T B : Nat} {ty : TypeId} {l : List Int} {M : Nat} (h : Blk w T ty (tabA l)) (hB : B ≤ T) (hl : l.length = M) : SlZ w B (.slice (some ⟨T, 0, none⟩) M M) l := by
  subst hl
  refine ⟨by simp, _, _, rfl, Nat.le_refl _, fun _ => ⟨T, 0, rfl, hB, fun j u hu => ?_⟩⟩
  rw [Nat.zero_add, h.cell, tabA_at]
  rw [List.getElem?_map] at hu
  exact hu
theorem freeN_made (m : Nat) : freeN (List.replicate m 0) = m := by simp [freeN]
theorem turnsS_none (m : Nat) : turnsS [] m = [] := by simp [turnsS]
set_option maxRecDepth 100000 in
set_option maxHeartbeats 4000000 in
theorem build_any (ka kb m : Int) {w : World} {B : Nat} {v : Value} {L : List Mb} (h : SlM w B v L) (hlen : L.length ≤ 1000) :
    Calls Tryz.prog 61 #[.agg #[.int .u64 ka, .int .u64 kb], .int .i64 m, v] w fun e w' => ∃ (v' : Value) (c : Int), e = .returned (.tuple #[v', .int .i64 c]) ∧ BuildR ka kb m L w' w.heap.size v' c ∧ Chg [] w w' := by
  have hA := (Chg.refl [] w).alloc (.cells #[.int .u64 ka, .int .u64 kb] 24)
  have hB1 : Blk (w.alloc (.cells #[.int .u64 ka, .int .u64 kb] 24)) w.heap.size 24 #[.int .u64 ka, .int .u64 kb] := Blk.new _ _ _
  have hzz : (w.alloc (.cells #[.int .u64 ka, .int .u64 kb] 24)).heap.size = w.heap.size + 1 := by simp
  have HA := Lib.hid (And.intro hA (And.intro hB1 (And.intro hzz (h.chg0 hA))))
  have HP := Lib.hid (fun W => prime_any m W)
  have HRT := Lib.hid (fun W (hW : Chg [] w W) => right_any (h.chg0 hW) hlen)
  clear h hA hB1 hzz
  by_cases hm : 251 < m
  · have HQ : Hid (¬ (m ≤ 251 ∧ IsPr m)) := Lib.hid (fun hh => by omega)
    go_enter Tryz.func61, Tryz.ntmps61
    go_wp2_with fail
    refine wp_scope_fwd 0 rfl ?_
    go_wp2_with fail
    rw [jump_ret]
    go_ret2
    exact ⟨_, _, rfl, .inl ⟨HQ.out, rfl, rfl⟩, HA.out.1⟩
  go_enter Tryz.func61, Tryz.ntmps61
  go_wp2_with fail
  refine wp_scope_fwd 0 rfl ?_
  obtain ⟨hA, hB1, hzz, hsm⟩ := HA.out
  generalize (w.alloc (.cells #[.int .u64 ka, .int .u64 kb] 24)) = w1 at *
  go_wp2_with fail
  have hmd : decide (251 < m) = false := by simp; omega
  simp only [hmd]
  refine (HP.out _).mono ?_
  rintro e w2 ⟨vb, rfl, ⟨b, rfl, hb⟩, rfl⟩
  cases b with
  | false =>
    have HQ : Hid (¬ (m ≤ 251 ∧ IsPr m)) := Lib.hid (fun hh => by simp [hh.2] at hb)
    go_wp2_with fail
    rw [jump_ret]
    go_ret2
    exact ⟨_, _, rfl, .inl ⟨HQ.out, rfl, rfl⟩, hA⟩
  | true =>
    have hpr : IsPr m := by simpa using hb
    have HQ : Hid (m ≤ 251 ∧ IsPr m) := Lib.hid ⟨by omega, hpr⟩
    have F1 := Lib.hid (HRT.out _ hA)
    clear hb
    go_wp2_with fail
    refine F1.out.mono ?_
    rintro e w3 ⟨rfl, hc3⟩
    have HC3 := Lib.hid (hA.trans hc3)
    have hB3 := hB1.chg hc3 (by simp)
    have hs3 := hsm.chg0 hc3
    obtain ⟨M, rfl⟩ : ∃ M : Nat, m = M := ⟨m.toNat, by have := hpr.1; omega⟩
    have hM2 : 2 ≤ M ∧ M ≤ 251 := by have := hpr.1; omega
    by_cases hr : rightM L = 0
    · have HOK := Lib.hid (OkM.of hr)
      have HRO := Lib.hid hr
      have hL16 := HOK.out.len
      obtain ⟨i0, hi, hz0, hz1, hz2⟩ := info_parts elZ.info
      have hmk : ∀ W : World, (Instr.makeSlice 38 (.int .i64 (M : Int)) (.int .i64 (M : Int))).run Tryz.prog W = .ok (.slice (some ⟨W.heap.size, 0, none⟩) M M) (W.alloc (.cells (tabA (List.replicate M 0)) 3)) := fun W => by
        rw [make_run 38 3 i0 (.int .i64 0) elZ.ht hi hz0 M M (Nat.le_refl _) (by rw [hz2]; omega) (by omega) W, hz1, made_tab]
      have hAT := (Chg.refl [] w3).alloc (.cells (tabA (List.replicate M 0)) 3)
      have hBT : Blk (w3.alloc (.cells (tabA (List.replicate M 0)) 3)) w3.heap.size 3 (tabA (List.replicate M 0)) := Blk.new _ _ _
      have hzT : (w3.alloc (.cells (tabA (List.replicate M 0)) 3)).heap.size = w3.heap.size + 1 := by simp
      have HT := Lib.hid (And.intro hAT (And.intro hBT (And.intro hzT (And.intro (hB3.chg hAT (by simp)) (hs3.chg0 hAT)))))
      clear hAT hBT hzT hB3 hs3 hc3 hi hz0 hz1 hz2 HRT HP F1 hB1 hsm hA
      rw [hr]
      clear hr
      go_upto_region 7 with fail
      obtain ⟨hAT, hBT, hzT, hB4, hs4⟩ := HT.out
      generalize (w3.alloc (.cells (tabA (List.replicate M 0)) 3)) = w4 at *
      have hz3 : w.heap.size ≤ w3.heap.size := HC3.out.size
      generalize hTw : w3.heap.size = T at *
      have HTW := Lib.hid hTw
      clear hTw
      have HSR : ∀ W : World, Blk W w.heap.size 24 #[.int .u64 ka, .int .u64 kb] → W.rangeAt w.heap.size 0 (#[.int .u64 ka, .int .u64 kb] : Array Value).toList := fun W h => h.rangeQ
      have hS0 := hB4.drew
      have hA4 : Chg [] w4 w4.drew := (Chg.refl [] w4).drew
      refine wp_region_noPanic ?_
      refine wp_region_held_drew (S := fun W : World => Blk W w.heap.size 24 #[.int .u64 ka, .int .u64 kb]) (by kernel_rfl) hS0 (fun _ => ?_)
      generalize w4.drew = w5 at *
      refine wpAnyH_take (i := 0) rfl (by kernel_rfl) (by kernel_rfl) (by kernel_rfl) (fun _ _ _ h => h) (yields_row (by rfl) 24 (.tmp 3) rfl w.heap.size 0 rfl (#[.int .u64 ka, .int .u64 kb]) _ HSR Tryz.underlying24 rfl (by kernel_rfl)) (by with_reducible assumption) ?_
      try simp only [List.getElem_toArray, List.getElem_cons_succ, List.getElem_cons_zero, Act.put, List.setIfInBounds_toArray, List.set_cons_zero, List.set_cons_succ]
      refine wpAnyH_take (i := 1) (v := ?_) rfl (by kernel_rfl) (by kernel_rfl) (by kernel_rfl) (fun _ _ _ h => h) (yields_pure (by rfl) (fun w => ?_)) (by with_reducible assumption) ?_
      rotate_left
      · (go_simp <;> with_reducible rfl)
      try simp only [List.getElem_toArray, List.getElem_cons_succ, List.getElem_cons_zero, Act.put, List.setIfInBounds_toArray, List.set_cons_zero, List.set_cons_succ]
      refine wpAnyH_take (i := 2) (v := ?_) rfl (by kernel_rfl) (by kernel_rfl) (by kernel_rfl) (fun _ _ _ h => h) (yields_pure (by rfl) (fun w => ?_)) (by with_reducible assumption) ?_
      rotate_left
      · (go_simp <;> with_reducible rfl)
      try simp only [List.getElem_toArray, List.getElem_cons_succ, List.getElem_cons_zero, Act.put, List.setIfInBounds_toArray, List.set_cons_zero, List.set_cons_succ]
      refine wpAnyH_ready (rs := [3]) (by kernel_rfl) (by simp) (AllReadyH.cons rfl (fun K hK => ?_) AllReadyH.nil)
      have F2 := Lib.hid (byNode_any (hs4.chg0 hA4) HOK.out)
      go_simp
      refine F2.out.mono ?_
      rintro e w6 ⟨v6, L', rfl, hperm, hsrt, hs6, hc6⟩
      have hS6 : (fun W : World => Blk W w.heap.size 24 #[.int .u64 ka, .int .u64 kb]) w6 := hS0.chg hc6 (by simp)
      refine hK.out _ _ (by with_reducible assumption) (fun _ => ?_)
      clear hK K
      try simp only [List.getElem_toArray, List.getElem_cons_succ, List.getElem_cons_zero, Act.put, List.setIfInBounds_toArray, List.set_cons_zero, List.set_cons_succ]
      refine wpAnyH_ready (rs := [4]) (by kernel_rfl) (by simp) (AllReadyH.cons rfl (fun K hK => ?_) AllReadyH.nil)
      have F3 := Lib.hid (turns_any ka kb T M hM2.1 (by omega) (List.replicate M 0) hs6 (by rw [hperm.length_eq]; exact hL16) (fun x hx => by have := HOK.out.ok x (hperm.mem_iff.1 hx); omega))
      go_simp
      refine F3.out.mono ?_
      rintro e w7 ⟨v7, ts, outs, rfl, hown, hR, hin, htk, hft, hnd, hc7⟩
      have hS7 : (fun W : World => Blk W w.heap.size 24 #[.int .u64 ka, .int .u64 kb]) w7 := hS6.chg hc7 (by simp)
      refine hK.out _ _ (by with_reducible assumption) (fun _ => ?_)
      clear hK K
      try simp only [List.getElem_toArray, List.getElem_cons_succ, List.getElem_cons_zero, Act.put, List.setIfInBounds_toArray, List.set_cons_zero, List.set_cons_succ]
      refine wpAnyH_take (i := 5) (v := ?_) rfl (by kernel_rfl) (by kernel_rfl) (by kernel_rfl) (fun _ _ _ h => h) (yields_pure (by rfl) (fun w => ?_)) (by with_reducible assumption) ?_
      rotate_left
      · (go_simp <;> with_reducible rfl)
      try simp only [List.getElem_toArray, List.getElem_cons_succ, List.getElem_cons_zero, Act.put, List.setIfInBounds_toArray, List.set_cons_zero, List.set_cons_succ]
      refine wpAnyH_done (by kernel_rfl) ?_ _
      refine NoPanic.normal ?_
      have hC47 : Chg [] w4 w7 := (hA4.trans hc6).trans hc7
      have hTlt : T < w6.heap.size := by have := (hA4.trans hc6).size; omega
      have HF := Lib.hid (And.intro (hBT.chg hC47 (by simp)) (And.intro (hAT.trans hC47) htk))
      have hpos : ∀ k ∈ outs, 1 ≤ k.node := fun k hk => by
        have hmem : (k.node, ordN ka kb M k.node) ∈ outs.map (fun k => (k.node, ordN ka kb M k.node)) := List.mem_map.2 ⟨k, hk, rfl⟩
        rw [hR] at hmem
        obtain ⟨h1, _⟩ := roundOf_mem hmem
        simp only [memsM, List.map_map] at h1
        obtain ⟨x, hx, e⟩ := List.mem_map.1 h1
        have := (HOK.out.ok x (hperm.mem_iff.1 hx)).1
        simp at e
        omega
      have HD := Lib.hid (And.intro hpos (And.intro hin (And.intro hnd (And.intro hft hR))))
      have HOW := Lib.hid (own_lt hown)
      have HPS := Lib.hid (And.intro hperm hsrt)
      have HRK := Lib.hid (roundS_okS (m := M) (ka := ka) (kb := kb) (L := L') hpr (fun x hx => (HOK.out.ok x (hperm.mem_iff.1 hx)).1))
      have HORD := Lib.hid (fun n => ordS_of (ka := ka) (kb := kb) hpr n)
      clear hS0 hS6 hS7 HSR hB4 hs4 hs6 hA4 hc6 hc7 hC47 htk hft hnd hpos hin hR F2 F3 hBT hAT HT HOK hperm hsrt hmk
      go_wp2_with fail
      refine wp_label ?_
      obtain ⟨A7, c7, rfl⟩ := Sl.form (Sl.of_own hown)
      have hRL : (roundM ka kb M L').length = outs.length := by
        have := HD.out.2.2.2.2
        unfold roundM
        rw [← this, List.length_map]
      have HRX : Hid (∀ (j : Nat) (k : Tk), outs[j]? = some k → (roundM ka kb M L')[j]? = some (k.node, ordN ka kb M k.node)) := Lib.hid fun j k hk => by
        unfold roundM
        rw [← HD.out.2.2.2.2, List.getElem?_map, hk]; rfl
      have HTS : Hid (tableS ka kb M L' = roundS (turnsS (roundM ka kb M L') M) (List.replicate M 0)) := Lib.hid rfl
      generalize roundM ka kb M L' = R at *
      generalize hord : ordN ka kb M = ord at *
      clear hord
      have HFN := Lib.hid (freeN_made M)
      generalize hNo : outs.length = N at *
      have HNo := Lib.hid hNo
      have HRL := Lib.hid hRL
      have HOWN := Lib.hid hown
      clear hown hRL hNo
      have hww : IntKind.i64.wrap (M : Int) = (M : Int) := by rw [IntKind.wrap_i64]; omega
      have HT3 := Lib.hid (show T + 1 ≤ w6.heap.size by omega)
      go_wp2_with fail
      go_loopw [11, 13] (fun fv tv wr => ∃ (f : Nat) (t : List Int), f ≤ M ∧ fv = .int .i64 f ∧ Hid (t.length = M) ∧ Hid (freeN t = f) ∧ Hid (Blk wr T 3 (tabA t)) ∧ Hid (Tks wr T M ord ts t) ∧ Hid (roundS (turnsS R M) (List.replicate M 0) = roundS (turnsS R f) t) ∧
        wr.ownsRow w6.heap.size 1 1 (.slice A7 N c7) N (outs.map Tk.fv) ∧ Hid (Chg [] w3 wr)) (fun fv _ _ => (intOf fv).toNat)
      case atStart => exact ⟨M, List.replicate M 0, by omega, rfl, Lib.hid (by simp), HFN, Lib.hid HF.out.1, Lib.hid HF.out.2.2, Lib.hid rfl, HOWN.out, Lib.hid HF.out.2.1⟩
      case round =>
        clear HF HOWN
        obtain ⟨f, t, hfM, rfl, HTL, HFR, HBT, HTK, HE, hrow, HC⟩ := hrel
        by_cases hN0 : 0 < N
        · have hN0' : (0 : Int) < (N : Int) := by omega
          obtain ⟨wo, rfl⟩ : ∃ wo, wo = wr := ⟨_, rfl⟩
          have HT0 : Hid (roundS (R.take 0) t = t) := Lib.hid (by rw [List.take_zero]; rfl)
          go_wp2_with fail
          go_loopw [11, 13, 39] (fun fv tv iv wx => ∃ (j : Nat), j ≤ N ∧ j ≤ f ∧ iv = .int .i64 j ∧ fv = .int .i64 ((f - j : Nat) : Int) ∧ Hid (Blk wx T 3 (tabA (roundS (R.take j) t))) ∧ Hid (Tks wx T M ord ts (roundS (R.take j) t)) ∧
            wx.ownsRow w6.heap.size 1 1 (.slice A7 N c7) N (outs.map Tk.fv) ∧ Hid (Chg [] w3 wx)) (fun _ _ iv _ => N - (intOf iv).toNat)
          case atStart => exact ⟨0, by omega, by omega, rfl, rfl, Lib.hid (by rw [HT0.out]; exact HBT.out), Lib.hid (by rw [HT0.out]; exact HTK.out), hrow, HC⟩
          case round =>
            clear HBT HTK HC HT0 hrow
            obtain ⟨j, hj, hjf, rfl, rfl, HBT, HTK, hrow, HC⟩ := hrel
            by_cases hjN : j < N
            · have hjn : (j : Int) < (N : Int) := by omega
              have hk : outs[j]? = some (outs[j]'(by have := HNo.out; omega)) := List.getElem?_eq_getElem _
              obtain ⟨b, o, c9, hv, _, _, hc⟩ := Sl.at_ (Sl.of_own hrow) hjN (by omega)
              simp only [Value.slice.injEq, true_and] at hv
              obtain ⟨rfl, rfl⟩ := hv
              have c0 := hc 0 (by omega)
              simp only [Nat.mul_one, Nat.add_zero, List.getElem?_map, hk, Option.map_some] at c0
              have HXk := Lib.hid (HRX.out j _ hk)
              have HKin := Lib.hid (HD.out.2.1 _ (List.mem_of_getElem? hk))
              have HKpos := Lib.hid (HD.out.1 _ (List.mem_of_getElem? hk))
              generalize outs[j]'(by have := HNo.out; omega) = k at *
              clear hc hk
              by_cases hfj : j < f
              · have hln : (roundS (R.take j) t).length = M := by rw [roundS_len]; exact HTL.out
                have hfn : freeN (roundS (R.take j) t) + j = f := by
                  have := round_left (R := R) (j := j) (t := t) (by rw [HTL.out]; exact HRK.out) (by rw [HRL.out]; omega) (by rw [HFR.out]; omega)
                  rw [HFR.out] at this; exact this
                have hTn : ∀ a ∈ ts, T ∉ a.foot := fun a ha hm => by have := (HD.out.2.2.2.1 a ha T hm).1; have := HT3.out; omega
                have htr := HTK.out.r k HKin.out
                have F4 := Lib.hid (take1_any htr HBT.out (HORD.out k.node) hln (not_full (by omega)) (by have := HKpos.out; omega) (hTn k HKin.out) (by omega))
                have HST := Lib.hid (round_take HXk.out t)
                have HTA := Lib.hid (fun W' t' (hc : Chg [T, k.bo] wr W') hkr ht => HTK.out.take (t' := t') HKin.out hc hTn hkr ht)
                have hkp : k.node ≠ 0 := by have := HKpos.out; omega
                have HKE := Lib.hid (fun i h => claimS_keep (o := ord k.node) (t := roundS (R.take j) t) hkp (j := i) h)
                have hbo : w6.heap.size ≤ k.bo := (HD.out.2.2.2.1 k HKin.out k.bo (by simp [Tk.foot])).1
                have HNB : Hid (k.bo ∉ (Value.slice (some ⟨b, o, none⟩) N c7).ownBlock.toList) := Lib.hid fun hm => HD.out.2.2.1 _ hm k HKin.out (by simp [Tk.foot])
                have HTB : Hid (T ∉ (Value.slice (some ⟨b, o, none⟩) N c7).ownBlock.toList) := Lib.hid fun hm => by have := (HOW.out _ hm).1; have := HT3.out; omega
                have hfj0 : ¬ ((f - j : Nat) : Int) = 0 := by omega
                have hfb : (((f - j : Nat) : Int) == 0) = false := by simp; omega
                have hwf : IntKind.i64.wrap (((f - j : Nat) : Int) - 1) = ((f - (j + 1) : Nat) : Int) := by rw [IntKind.wrap_i64]; omega
                have hT3 := HT3.out
                clear hln hfn hTn htr HBT HTK HXk HKin HKpos HE HFR
                generalize f - j = fj at *
                go_wp2_with fail
                refine F4.out.mono ?_
                rintro e w8 ⟨rfl, hb8, ht8, hc8⟩
                have HBT8 : Hid (Blk w8 T 3 (tabA (roundS (R.take (j + 1)) t))) := Lib.hid (by rw [HST.out]; exact hb8)
                have HTK8 : Hid (Tks w8 T M ord ts (roundS (R.take (j + 1)) t)) := Lib.hid (by rw [HST.out]; exact HTA.out w8 _ hc8 ht8 HKE.out)
                have hrow8 := own_chg hrow hc8 (fun x hx hm => by
                  simp at hm
                  rcases hm with rfl | rfl
                  · exact HTB.out hx
                  · exact HNB.out hx)
                have HC8 := Lib.hid (HC.out.trans' hc8 (fun x hx => .inr (by
                  simp at hx
                  have := HTW.out
                  omega)))
                clear F4 hb8 ht8 hc8 HST HTA HKE HNB HTB HC hrow
                go_wp2_with fail
                go_roundw
                case rel => exact ⟨j + 1, by omega, by omega, by go_num, rfl, HBT8, HTK8, hrow8, HC8⟩
                case measure => simp [intOf] <;> omega
              · obtain rfl : j = f := by omega
                have HQ2 : Hid (tableS ka kb M L' = roundS (R.take j) t) := Lib.hid (by
                  rw [HTS.out, HE.out, turnsS_less (by rw [HRL.out]; exact hjN)])
                have hff : ((j - j : Nat) : Int) = 0 := by omega
                rw [hff]
                clear HTK HE HFR
                go_wp2_with fail
                rw [jump_ret]
                go_ret2
                exact ⟨_, _, rfl, .inr (.inr ⟨HQ.out, HRO.out, rfl, L', HPS.out.1, HPS.out.2, by rw [Int.toNat_natCast, HQ2.out]; exact slz_of_blk HBT.out (by omega) (by rw [roundS_len]; exact HTL.out)⟩), HC3.out.trans HC.out⟩
            · obtain rfl : j = N := by omega
              have hjn : ¬ (j : Int) < (j : Int) := by omega
              have hRT : R.take j = R := List.take_of_length_le (by rw [HRL.out]; exact Nat.le_refl _)
              rw [hRT] at HBT HTK
              have HE2 : Hid (roundS (turnsS R M) (List.replicate M 0) = roundS (turnsS R (f - j)) (roundS R t)) := Lib.hid (by
                rw [HE.out, turnsS_more (by rw [HRL.out]; exact hN0) (by rw [HRL.out]; exact hjf), HRL.out, roundS_app])
              have HFR2 : Hid (freeN (roundS R t) = f - j) := Lib.hid (by
                have := roundS_free R t (by rw [HTL.out]; exact HRK.out) (by rw [HRL.out, HFR.out]; exact hjf)
                rw [HRL.out, HFR.out] at this
                omega)
              have HTL2 : Hid ((roundS R t).length = M) := Lib.hid (by rw [roundS_len]; exact HTL.out)
              clear HE HFR HTL hRT
              go_wp2_with fail
              go_roundw
              case rel => exact ⟨f - j, roundS R t, by omega, rfl, HTL2, HFR2, HBT, HTK, HE2, hrow, HC⟩
              case measure => simp [intOf] <;> omega
        · have hN0' : ¬ (0 : Int) < (N : Int) := by omega
          have hR0 : R = [] := List.eq_nil_of_length_eq_zero (by rw [HRL.out]; omega)
          have HQ2 : Hid (tableS ka kb M L' = t) := Lib.hid (by
            rw [HTS.out, HE.out, hR0, turnsS_none]; rfl)
          clear HE HTK hR0
          go_wp2_with fail
          rw [jump_ret]
          go_ret2
          exact ⟨_, _, rfl, .inr (.inr ⟨HQ.out, HRO.out, rfl, L', HPS.out.1, HPS.out.2, by rw [Int.toNat_natCast, HQ2.out]; exact slz_of_blk HBT.out (by omega) HTL.out⟩), HC3.out.trans HC.out⟩
    · have HR0 := Lib.hid hr
      have hrb : (rightM L == 0) = false := by simp [hr]
      generalize hrr : rightM L = r at *
      have HRR := Lib.hid hrr
      clear hrr HP HRT hc3
      go_wp2_with fail
      rw [jump_ret]
      go_ret2
      exact ⟨_, _, rfl, .inr (.inl ⟨HQ.out, by rw [HRR.out]; exact HR0.out, HRR.out.symm, rfl⟩), HC3.out⟩
end Go.Proofs.YtecblclpchndiaaGreat
