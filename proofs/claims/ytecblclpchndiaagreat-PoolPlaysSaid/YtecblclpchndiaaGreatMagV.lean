/-
  WALK: harrierref17.Build. Condition: at most 1000 members.
-/
import Derived.Test.YtecblclpchndiaaGreatMagU
import Derived.Test.YtecblclpchndiaaGreatMagQ
import Derived.Test.YtecblclpchndiaaGreatMagT0
import Derived.Test.YtecblclpchndiaaGreatPermR
set_option linter.unusedVariables false
set_option linter.unusedSimpArgs false
namespace Go.Proofs.YtecblclpchndiaaGreat
open Go.RowKit

def isZ : Value → Bool
  | .int _ x => x == 0
  | _ => false
/-- How many slots are free, as memory has it. -/
def zerosW (w : World) (T : Nat) : Nat := match w.heap[T]? with
  | some (.cells cs _ _) => cs.toList.countP isZ
  | _ => 0
theorem zerosW_of {w : World} {T : Nat} {ty : TypeId} {t : List Int} (h : Blk w T ty (tabA t)) : zerosW w T = freeN t := by
  unfold zerosW freeN
  unfold Blk at h
  rw [h]
  simp only [tabA]
  rw [List.countP_map]
  unfold List.count
  congr 1
theorem claim_none {o : List Nat} {t : List Int} {n : Int} (h : ∀ (j x : Nat), o[j]? = some x → freeS t x = false) : claimS o n t = t := by
  unfold claimS
  have : o.find? (freeS t) = none := by
    rw [List.find?_eq_none]
    intro x hx
    obtain ⟨j, hj⟩ := List.getElem?_of_mem hx
    rw [h j x hj]; simp
  rw [this]

theorem round_step {R : List (Int × List Nat)} {t : List Int} (h0 : 0 < R.length) (h : okS t.length R) (hf : fullS t = false) : roundS (turnsS R (freeN t)) t = roundS (turnsS R (freeN (roundS R t))) (roundS R t) ∧ freeN (roundS R t) < freeN t := by
  have hpos : 0 < freeN t := by
    rcases Nat.eq_zero_or_pos (freeN t) with e | e
    · rw [freeN_full.1 e] at hf; cases hf
    · exact e
  rcases Nat.lt_or_ge (freeN t) R.length with hlt | hge
  · obtain ⟨e1, e2⟩ := roundS_over h (by omega : freeN t ≤ R.length)
    have e3 := freeN_full.2 e2
    rw [e3, turnsS_less hlt, turnsS_less h0, ← e1]
    exact ⟨rfl, hpos⟩
  · have e1 := roundS_free R t h hge
    rw [turnsS_more h0 hge, roundS_app, show freeN t - R.length = freeN (roundS R t) by omega]
    exact ⟨rfl, by omega⟩
theorem round_done {R : List (Int × List Nat)} {t : List Int} (h0 : 0 < R.length) (hf : fullS t = true) : roundS (turnsS R (freeN t)) t = t := by
  rw [freeN_full.2 hf, turnsS_less h0]
  rfl
theorem exists_srt : ∀ (L : List Mb), (nodesM L).Nodup → ∃ L' : List Mb, L'.Perm L ∧ SrtM L'
  | [], _ => ⟨[], List.Perm.refl _, by simp [SrtM, nodesM]⟩
  | x :: l, h => by
    unfold nodesM at h
    rw [List.map_cons, List.nodup_cons] at h
    obtain ⟨L', h1, h2⟩ := exists_srt l h.2
    refine ⟨insM L' x, ?_, insM_srt h2 (fun hm => h.1 ((h1.map _).mem_iff.1 hm))⟩
    exact (insM_perm L' x).trans ((h1.append_right [x]).trans List.perm_append_comm)
theorem sum_zero : ∀ {L : List Mb}, (∀ x ∈ L, 0 ≤ x.w) → sumW L = 0 → ∀ x ∈ L, x.w = 0
  | [], _, _ => by simp
  | x :: l, h, hs => by
    have h1 : 0 ≤ sumW l := by
      have : ∀ {l : List Mb}, (∀ x ∈ l, 0 ≤ x.w) → 0 ≤ sumW l := by
        intro l
        induction l with
        | nil => intro _; simp [sumW]
        | cons y l ih =>
          intro hy
          have := ih fun z hz => hy z (List.mem_cons_of_mem _ hz)
          have := hy y (List.mem_cons_self ..)
          unfold sumW at *
          rw [List.map_cons, List.sum_cons]
          omega
      exact this fun z hz => h z (List.mem_cons_of_mem _ hz)
    have h2 := h x (List.mem_cons_self ..)
    have h3 : sumW (x :: l) = x.w + sumW l := by unfold sumW; rw [List.map_cons, List.sum_cons]
    rw [h3] at hs
    intro y hy
    rcases List.mem_cons.1 hy with rfl | hy
    · omega
    · exact sum_zero (fun z hz => h z (List.mem_cons_of_mem _ hz)) (by omega) y hy
theorem round_nil {ka kb : Int} {m : Nat} : ∀ {L : List Mb}, (∀ x ∈ L, x.w = 0) → roundM ka kb m L = []
  | [], _ => rfl
  | x :: l, h => by
    have e : roundM ka kb m (x :: l) = List.replicate x.w.toNat (x.node, ordN ka kb m x.node) ++ roundM ka kb m l := rfl
    rw [e, h x (List.mem_cons_self ..), round_nil fun y hy => h y (List.mem_cons_of_mem _ hy)]
    rfl
theorem round_pos {ka kb : Int} {m : Nat} : ∀ {L : List Mb}, (∀ x ∈ L, 0 ≤ x.w) → roundM ka kb m L = [] → ∀ x ∈ L, x.w = 0
  | [], _, _ => by simp
  | x :: l, h, hr => by
    have e : roundM ka kb m (x :: l) = List.replicate x.w.toNat (x.node, ordN ka kb m x.node) ++ roundM ka kb m l := rfl
    rw [e, List.append_eq_nil_iff] at hr
    intro y hy
    rcases List.mem_cons.1 hy with rfl | hy
    · have h1 := congrArg List.length hr.1
      have h2 := h y (List.mem_cons_self ..)
      simp at h1
      omega
    · exact round_pos (fun z hz => h z (List.mem_cons_of_mem _ hz)) hr.2 y hy
theorem sum_of_zero {L : List Mb} (h : ∀ x ∈ L, x.w = 0) : sumW L = 0 := by
  induction L with
  | nil => rfl
  | cons x l ih =>
    unfold sumW at *
    rw [List.map_cons, List.sum_cons, h x (List.mem_cons_self ..), ih fun y hy => h y (List.mem_cons_of_mem _ hy)]
    rfl
set_option maxRecDepth 100000 in
set_option maxHeartbeats 4000000 in
theorem build17_any (ka kb m : Int) {w : World} {B : Nat} {v : Value} {L : List Mb} (h : SlM w B v L) (hlen : L.length ≤ 1000) :
    Calls Tryz.prog 9 #[.agg #[.int .u64 ka, .int .u64 kb], .int .i64 m, v] w fun e w' => ∃ (v' : Value) (c : Int), e = .returned (.tuple #[v', .int .i64 c]) ∧ BuildR ka kb m L w' w.heap.size v' c ∧ Chg [] w w' := by
  have hA := (Chg.refl [] w).alloc (.cells #[.int .u64 ka, .int .u64 kb] 41)
  have hB1 : Blk (w.alloc (.cells #[.int .u64 ka, .int .u64 kb] 41)) w.heap.size 41 #[.int .u64 ka, .int .u64 kb] := Blk.new _ _ _
  have hzz : (w.alloc (.cells #[.int .u64 ka, .int .u64 kb] 41)).heap.size = w.heap.size + 1 := by simp
  have HA := Lib.hid (And.intro hA (And.intro hB1 (And.intro hzz (h.chg0 hA))))
  have HP := Lib.hid (fun W => prime16_any m W)
  have HRT := Lib.hid (fun W (hW : Chg [] w W) => right17_any (h.chg0 hW) hlen)
  have HTT := Lib.hid (fun W (hW : Chg [] w W) => total17_any (h.chg0 hW) hlen)
  clear h hA hB1 hzz
  by_cases hm : 251 < m
  · have HQ : Hid (¬ (m ≤ 251 ∧ IsPr m)) := Lib.hid (fun hh => by omega)
    go_enter Tryz.func9, Tryz.ntmps9
    go_wp2_with fail
    go_ret2
    exact ⟨_, _, rfl, .inl ⟨HQ.out, rfl, rfl⟩, HA.out.1⟩
  go_enter Tryz.func9, Tryz.ntmps9
  go_wp2_with fail
  obtain ⟨hA, hB1, hzz, hsm⟩ := HA.out
  generalize (w.alloc (.cells #[.int .u64 ka, .int .u64 kb] 41)) = w1 at *
  have hmd : decide (251 < m) = false := by simp; omega
  try simp only [hmd]
  refine (HP.out _).mono ?_
  rintro e w2 ⟨vb, rfl, ⟨b, rfl, hb⟩, rfl⟩
  cases b with
  | false =>
    have HQ : Hid (¬ (m ≤ 251 ∧ IsPr m)) := Lib.hid (fun hh => by simp [hh.2] at hb)
    go_wp2_with fail
    go_ret2
    exact ⟨_, _, rfl, .inl ⟨HQ.out, rfl, rfl⟩, hA⟩
  | true =>
    have hpr : IsPr m := by simpa using hb
    have HQ : Hid (m ≤ 251 ∧ IsPr m) := Lib.hid ⟨by omega, hpr⟩
    have F1 := Lib.hid (HRT.out _ hA)
    clear hb
    go_wp2_with fail
    refine F1.out.mono ?_
    rintro e w3 ⟨rfl, hc3⟩
    have HC3 := Lib.hid (hA.trans hc3)
    have hz13 := hc3.size
    have hB3 := hB1.chg hc3 (by simp)
    have hs3 := hsm.chg0 hc3
    obtain ⟨M, rfl⟩ : ∃ M : Nat, m = M := ⟨m.toNat, by have := hpr.1; omega⟩
    have hM2 : 2 ≤ M ∧ M ≤ 251 := by have := hpr.1; omega
    by_cases hr : rightM L = 0
    · have HOK := Lib.hid (OkM.of hr)
      have HRO := Lib.hid hr
      have hL16 := HOK.out.len
      have HTO : Hid (totalM L = sumW L) := Lib.hid (by unfold totalM; rw [if_pos hr])
      obtain ⟨i0, hi, hz0, hz1, hz2⟩ := info_parts elZ.info
      have hmk : ∀ W : World, (Instr.makeSlice 38 (.int .i64 (M : Int)) (.int .i64 (M : Int))).run Tryz.prog W = .ok (.slice (some ⟨W.heap.size, 0, none⟩) M M) (W.alloc (.cells (tabA (List.replicate M 0)) 3)) := fun W => by
        rw [make_run 38 3 i0 (.int .i64 0) elZ.ht hi hz0 M M (Nat.le_refl _) (by rw [hz2]; omega) (by omega) W, hz1, made_tab]
      have hAT := (Chg.refl [] w3).alloc (.cells (tabA (List.replicate M 0)) 3)
      have hBT : Blk (w3.alloc (.cells (tabA (List.replicate M 0)) 3)) w3.heap.size 3 (tabA (List.replicate M 0)) := Blk.new _ _ _
      have hzT : (w3.alloc (.cells (tabA (List.replicate M 0)) 3)).heap.size = w3.heap.size + 1 := by simp
      have HT := Lib.hid (And.intro hAT (And.intro hBT (And.intro hzT (And.intro (hB3.chg hAT (by simp)) (hs3.chg0 hAT)))))
      clear hAT hBT hzT hB3 hs3 hc3 hi hz0 hz1 hz2 HRT HP F1 hB1 hsm hA
      rw [hr]
      clear hr
      go_upto_region 7 with fail
      obtain ⟨hAT, hBT, hzT, hB4, hs4⟩ := HT.out
      have F2 := Lib.hid (HTT.out _ (HC3.out.trans hAT))
      generalize (w3.alloc (.cells (tabA (List.replicate M 0)) 3)) = w4 at *
      have hz3 : w.heap.size < w3.heap.size := by omega
      generalize hTw : w3.heap.size = T at *
      have HTW := Lib.hid hTw
      clear hTw HTT
      go_wp2_with fail
      refine F2.out.mono ?_
      rintro e w5 ⟨rfl, hc5⟩
      have HC5 := Lib.hid (hAT.trans hc5)
      have HB5 := Lib.hid (And.intro (hBT.chg hc5 (by simp)) (And.intro (hB4.chg hc5 (by simp)) (hs4.chg0 hc5)))
      clear hAT hBT hB4 hs4 hc5 F2 HT hmk
      rw [HTO.out]
      by_cases ht0 : sumW L = 0
      · obtain ⟨L', hp', hs'⟩ := exists_srt L HOK.out.nd
        have HQ2 : Hid (tableS ka kb M L' = List.replicate M 0) := Lib.hid (by
          have hz := sum_zero (fun x hx => (HOK.out.ok x hx).2.2.1) ht0
          unfold tableS
          rw [round_nil (fun x hx => hz x (hp'.mem_iff.1 hx)), turnsS_none]
          rfl)
        have HPS := Lib.hid (And.intro hp' hs')
        clear hp' hs'
        rw [ht0]
        go_wp2_with fail
        go_ret2
        exact ⟨_, _, rfl, .inr (.inr ⟨HQ.out, HRO.out, rfl, L', HPS.out.1, HPS.out.2, by rw [Int.toNat_natCast, HQ2.out]; exact slz_of_blk HB5.out.1 (by omega) (by simp)⟩), HC3.out.trans HC5.out⟩
      · have hb0 : (sumW L == 0) = false := by simp [ht0]
        have HT0 := Lib.hid ht0
        generalize hsw : sumW L = sw at *
        have HSW := Lib.hid hsw
        have F3 := Lib.hid (sorted17_any HB5.out.2.2 HOK.out)
        clear hsw
        go_wp2_with fail
        refine F3.out.mono ?_
        rintro e w6 ⟨v6, L', rfl, hperm, hsrt, hs6, hc6⟩
        have hok' : ∀ x ∈ L', 1 ≤ x.node ∧ x.node ≤ 65535 ∧ 0 ≤ x.w ∧ x.w ≤ 4 := fun x hx => HOK.out.ok x (hperm.mem_iff.1 hx)
        have hRpos : 0 < (roundM ka kb M L').length := by
          rcases Nat.eq_zero_or_pos (roundM ka kb M L').length with e | e
          · exfalso
            have h1 := round_pos (fun x hx => (hok' x hx).2.2.1) (List.eq_nil_of_length_eq_zero e)
            have h2 := sum_of_zero (L := L) (fun x hx => h1 x (hperm.mem_iff.2 hx))
            rw [HSW.out] at h2
            exact HT0.out h2
          · exact e
        have HTS : Hid (tableS ka kb M L' = roundS (turnsS (roundM ka kb M L') M) (List.replicate M 0)) := Lib.hid rfl
        have HRK := Lib.hid (roundS_okS (m := M) (ka := ka) (kb := kb) (L := L') hpr (fun x hx => (hok' x hx).1))
        have HORD := Lib.hid (fun n => ordS_of (ka := ka) (kb := kb) hpr n)
        have HRD : Hid (roundM ka kb M L' = roundOf (ordN ka kb M) (memsM L')) := Lib.hid rfl
        have HF16 := Lib.hid (fun node W => of16_any ka kb node M hM2.1 (by omega) W)
        generalize roundM ka kb M L' = R at *
        generalize hord : ordN ka kb M = ord at *
        have HPS := Lib.hid (And.intro hperm (And.intro hsrt hok'))
        have hlen6 := hperm.length_eq
        have HW6 := Lib.hid (And.intro (HB5.out.1.chg hc6 (by simp)) (And.intro (HB5.out.2.1.chg hc6 (by simp)) (And.intro hs6 (HC5.out.trans hc6))))
        have hTl : T < w5.heap.size := HB5.out.1.lt
        have HRP := Lib.hid hRpos
        have HMK := Lib.hid (freeN_made M)
        obtain ⟨A6, c6, rfl⟩ := Sl.form hs6
        generalize hn6 : L'.length = N at *
        have HN6 := Lib.hid hn6
        have hN16 : N ≤ 16 := by omega
        clear hord hperm hsrt hok' hs6 hc6 hRpos HB5 HC5 F3 hn6 hlen6 HOK HT0 HSW HTO
        go_wp2_with fail
        have HSM := Lib.hid (fun W (hW : Chg [T] w6 W) i x hx => SlM.at_ (w := W) (B := w5.heap.size) (Sl.chg HW6.out.2.2.1 hW (by simp; exact hTl)) (i := i) (x := x) hx)
        have HKB := Lib.hid (fun W (hW : Chg [T] w6 W) => HW6.out.2.1.chg hW (by simp; omega))
        have HX : Hid (∀ i, i < N → ∃ x, L'[i]? = some x ∧ 0 ≤ x.w ∧ x.w ≤ 4) := Lib.hid fun i hi => by
          refine ⟨_, List.getElem?_eq_getElem (by rw [HN6.out]; exact hi), ?_⟩
          have := HPS.out.2.2 _ (List.getElem_mem (by rw [HN6.out]; exact hi))
          omega
        go_loopw [] (fun wr => ∃ t : List Int, Hid (t.length = M) ∧ Hid (Blk wr T 3 (tabA t)) ∧ Hid (roundS (turnsS R M) (List.replicate M 0) = roundS (turnsS R (freeN t)) t) ∧ Hid (Chg [T] w6 wr)) (fun wr => zerosW wr T)
        case atStart => exact ⟨List.replicate M 0, Lib.hid (by simp), Lib.hid HW6.out.1, Lib.hid (by rw [HMK.out]), Lib.hid (Chg.refl _ _)⟩
        case round =>
          obtain ⟨t, HTL, HBT, HE, HC⟩ := hrel
          have F4 := Lib.hid (full17_any (slz_of_blk HBT.out (Nat.le_refl _) HTL.out) (by rw [HTL.out]; omega))
          cases hfull : fullS t with
          | true =>
            have HQ2 : Hid (tableS ka kb M L' = t) := Lib.hid (by rw [HTS.out, HE.out, round_done HRP.out hfull])
            rw [hfull] at F4
            clear hfull
            go_wp2_with fail
            refine F4.out.mono ?_
            rintro e w7 ⟨rfl, rfl⟩
            go_wp2_with fail
            go_ret2
            exact ⟨_, _, rfl, .inr (.inr ⟨HQ.out, HRO.out, rfl, L', HPS.out.1, HPS.out.2.1, by rw [Int.toNat_natCast, HQ2.out]; exact slz_of_blk HBT.out (by omega) HTL.out⟩), HC3.out.trans (HW6.out.2.2.2.trans' HC.out (by intro y hy; simp at hy; subst hy; exact .inr (by rw [HTW.out]; exact Nat.le_refl _)))⟩
          | false =>
            have HRS := Lib.hid (round_step (R := R) (t := t) HRP.out (by rw [HTL.out]; exact HRK.out) hfull)
            rw [hfull] at F4
            clear hfull
            have HZ0 := Lib.hid (zerosW_of HBT.out)
            go_wp2_with fail
            refine F4.out.mono ?_
            rintro e w7 ⟨rfl, rfl⟩
            clear F4
            obtain ⟨wo, rfl⟩ : ∃ wo, wo = wr := ⟨_, rfl⟩
            go_wp2_with fail
            go_loopw [10] (fun iv wr => ∃ i : Nat, i ≤ N ∧ iv = .int .i64 i ∧ Hid (Blk wr T 3 (tabA (roundS (roundOf ord (memsM (L'.take i))) t))) ∧ Hid (Chg [T] w6 wr)) (fun iv _ => N - (intOf iv).toNat)
            case atStart => exact ⟨0, by omega, rfl, HBT, HC⟩
            case round =>
              clear HBT HC
              obtain ⟨i, hi, rfl, HBT, HC⟩ := hrel
              by_cases hiN : i < N
              · have hin : (i : Int) < (N : Int) := by omega
                obtain ⟨x, hx, hx1, hx2⟩ := HX.out i hiN
                obtain ⟨b6, o6, c6', hv, _, _, _⟩ := HSM.out wr HC.out i x hx
                rw [HN6.out] at hv
                simp only [Value.slice.injEq, true_and] at hv
                obtain ⟨rfl, rfl⟩ := hv
                have HSX : Hid (∀ W, Chg [T] w6 W → W.cell? ⟨b6, o6 + i * 2, none⟩ = some (.int .i64 x.node) ∧ W.cell? ⟨b6, o6 + i * 2 + 1, none⟩ = some (.int .i64 x.w)) := Lib.hid fun W hW => by
                  obtain ⟨b, o, c, hv, _, d0, d1⟩ := HSM.out W hW i x hx
                  rw [HN6.out] at hv
                  simp only [Value.slice.injEq, true_and, Option.some.injEq, Addr.mk.injEq, and_true] at hv
                  obtain ⟨⟨rfl, rfl⟩, rfl⟩ := hv
                  exact ⟨d0, d1⟩
                have HTK : Hid (roundOf ord (memsM (L'.take (i + 1))) = roundOf ord (memsM (L'.take i)) ++ List.replicate x.w.toNat (x.node, ord x.node)) := Lib.hid (by
                  rw [List.take_add_one, hx]
                  have := roundOf_snoc ord (memsM (L'.take i)) (x.node, x.w.toNat)
                  rw [← this]; simp [memsM])
                obtain ⟨nd, wt⟩ := x
                simp only at hx1 hx2 HTK HSX
                obtain ⟨W, hW⟩ : ∃ W : Nat, W = wt.toNat := ⟨_, rfl⟩
                have hWI : wt = (W : Int) := by omega
                subst hWI
                have hW4 : W ≤ 4 := by omega
                rw [Int.toNat_natCast] at HTK
                clear hx hW hx1 hx2
                go_upto_region 14 with fail
                have hC0 : Chg [T] w6 wr.drew := HC.out.drew
                have hHR : ∀ Wx, Chg [T] w6 Wx → Wx.rangeAt w.heap.size 0 (#[.int .u64 ka, .int .u64 kb] : Array Value).toList := fun Wx h => (HKB.out Wx h).rangeQ
                have hHC : ∀ Wx, Chg [T] w6 Wx → Wx.cell? ⟨b6, o6 + i * 2, none⟩ = some (.int .i64 nd) := fun Wx h => (HSX.out Wx h).1
                have HB8 := Lib.hid HBT.out.drew
                refine wp_region_noPanic ?_
                refine wp_region_held_drew (S := fun Wx : World => Chg [T] w6 Wx) (by kernel_rfl) hC0 (fun _ => ?_)
                generalize wr.drew = w8 at *
                refine wpAnyH_take (i := 0) rfl (by kernel_rfl) (by kernel_rfl) (by kernel_rfl) (fun _ _ _ h => h) (yields_row (by rfl) 41 (.tmp 3) rfl w.heap.size 0 rfl (#[.int .u64 ka, .int .u64 kb]) _ hHR Tryz.underlying41 rfl (by kernel_rfl)) (by with_reducible assumption) ?_
                try simp only [List.getElem_toArray, List.getElem_cons_succ, List.getElem_cons_zero, Act.put, List.setIfInBounds_toArray, List.set_cons_zero, List.set_cons_succ]
                refine wpAnyH_take (i := 1) (v := ?_) rfl (by kernel_rfl) (by kernel_rfl) (by kernel_rfl) (fun _ _ _ h => h) (yields_pure (by rfl) (fun w => ?_)) (by with_reducible assumption) ?_
                rotate_left
                · (go_simp <;> with_reducible rfl)
                try simp only [List.getElem_toArray, List.getElem_cons_succ, List.getElem_cons_zero, Act.put, List.setIfInBounds_toArray, List.set_cons_zero, List.set_cons_succ]
                refine wpAnyH_take (i := 2) (v := ?_) rfl (by kernel_rfl) (by kernel_rfl) (by kernel_rfl) (fun _ _ _ h => h) (yields_pure (by rfl) (fun w => ?_)) (by with_reducible assumption) ?_
                rotate_left
                · (go_simp <;> with_reducible rfl)
                try simp only [List.getElem_toArray, List.getElem_cons_succ, List.getElem_cons_zero, Act.put, List.setIfInBounds_toArray, List.set_cons_zero, List.set_cons_succ]
                refine wpAnyH_take (i := 3) (v := ?_) rfl (by kernel_rfl) (by kernel_rfl) (by kernel_rfl) (fun _ _ _ h => h) (yields_pure (by rfl) (fun w => ?_)) (by with_reducible assumption) ?_
                rotate_left
                · (go_simp <;> with_reducible rfl)
                try simp only [List.getElem_toArray, List.getElem_cons_succ, List.getElem_cons_zero, Act.put, List.setIfInBounds_toArray, List.set_cons_zero, List.set_cons_succ]
                refine wpAnyH_take (i := 4) (v := ?_) rfl (by kernel_rfl) (by kernel_rfl) (by kernel_rfl) (fun _ _ _ h => h) (yields_pure (by rfl) (fun w => ?_)) (by with_reducible assumption) ?_
                rotate_left
                · (go_simp <;> with_reducible rfl)
                try simp only [List.getElem_toArray, List.getElem_cons_succ, List.getElem_cons_zero, Act.put, List.setIfInBounds_toArray, List.set_cons_zero, List.set_cons_succ]
                refine wpAnyH_take (i := 5) rfl (by kernel_rfl) (by kernel_rfl) (by kernel_rfl) (fun _ _ _ h => h) (yields_cell (by rfl) 3 (.tmp 48) rfl b6 (o6 + i * 2) rfl (.int .i64 nd) _ hHC Tryz.underlying3 rfl) (by with_reducible assumption) ?_
                try simp only [List.getElem_toArray, List.getElem_cons_succ, List.getElem_cons_zero, Act.put, List.setIfInBounds_toArray, List.set_cons_zero, List.set_cons_succ]
                refine wpAnyH_take (i := 6) (v := ?_) rfl (by kernel_rfl) (by kernel_rfl) (by kernel_rfl) (fun _ _ _ h => h) (yields_pure (by rfl) (fun w => ?_)) (by with_reducible assumption) ?_
                rotate_left
                · (go_simp <;> with_reducible rfl)
                try simp only [List.getElem_toArray, List.getElem_cons_succ, List.getElem_cons_zero, Act.put, List.setIfInBounds_toArray, List.set_cons_zero, List.set_cons_succ]
                refine wpAnyH_ready (rs := [7]) (by kernel_rfl) (by simp) (AllReadyH.cons rfl (fun K hK => ?_) AllReadyH.nil)
                go_simp
                refine (HF16.out nd w8).mono ?_
                rintro e w9 ⟨v9, rfl, hown9, hc9⟩
                have hC9 : Chg [T] w6 w9 := hC0.trans (hc9.more (by simp))
                refine hK.out _ _ (by with_reducible assumption) (fun _ => ?_)
                clear hK K
                try simp only [List.getElem_toArray, List.getElem_cons_succ, List.getElem_cons_zero, Act.put, List.setIfInBounds_toArray, List.set_cons_zero, List.set_cons_succ]
                refine wpAnyH_take (i := 8) (v := ?_) rfl (by kernel_rfl) (by kernel_rfl) (by kernel_rfl) (fun _ _ _ h => h) (yields_pure (by rfl) (fun w => ?_)) (by with_reducible assumption) ?_
                rotate_left
                · (go_simp <;> with_reducible rfl)
                try simp only [List.getElem_toArray, List.getElem_cons_succ, List.getElem_cons_zero, Act.put, List.setIfInBounds_toArray, List.set_cons_zero, List.set_cons_succ]
                refine wpAnyH_done (by kernel_rfl) ?_ _
                refine NoPanic.normal ?_
                have hT8 : T < w8.heap.size := HB8.out.lt
                obtain ⟨g, cap, rfl, hg1, hg2⟩ := own_form hown9 (by omega)
                have hORD := HORD.out nd
                generalize ord nd = o at *
                have HOC : Hid (∀ Wx, Chg [T] w9 Wx → ∀ j y, o[j]? = some y → Wx.cell? ⟨g, j, none⟩ = some (.int .i64 (y : Nat))) := Lib.hid fun Wx hWx j y hy => by
                  have hjm : j < M := by have := (List.getElem?_eq_some_iff.1 hy).1; have := hORD.len; omega
                  obtain ⟨b, of_, c9, hv, _, _, hc⟩ := Sl.at_ (Sl.chg (Sl.of_own hown9) hWx (by simp; exact hT8)) hjm (by omega)
                  simp only [Value.slice.injEq, true_and, Option.some.injEq, Addr.mk.injEq, and_true] at hv
                  obtain ⟨⟨rfl, rfl⟩, rfl⟩ := hv
                  have := hc 0 (by omega)
                  simp only [Nat.mul_one, Nat.add_zero, Nat.zero_add, List.getElem?_map, hy, Option.map_some] at this
                  exact this
                have HOX : Hid (∀ j, j < M → ∃ y, o[j]? = some y ∧ y < M) := Lib.hid fun j hj => by
                  have hy : o[j]? = some (o[j]'(by have := hORD.len; omega)) := List.getElem?_eq_getElem _
                  exact ⟨_, hy, hORD.lt _ (List.mem_of_getElem? hy)⟩
                have HOL : Hid (o.length = M) := Lib.hid hORD.len
                have HB9 : Hid (Blk w9 T 3 (tabA (roundS (roundOf ord (memsM (L'.take i))) t))) := Lib.hid (HB8.out.chg hc9 (by simp))
                have HL9 : Hid ((roundS (roundOf ord (memsM (L'.take i))) t).length = M) := Lib.hid (by rw [roundS_len]; exact HTL.out)
                have HC9 := Lib.hid hC9
                have HTK2 : Hid (roundS (roundOf ord (memsM (L'.take (i + 1)))) t = roundS (List.replicate W (nd, o)) (roundS (roundOf ord (memsM (L'.take i))) t)) := Lib.hid (by rw [HTK.out, roundS_app])
                generalize hti : roundS (roundOf ord (memsM (L'.take i))) t = ti at *
                clear hti hown9 hORD hc9 hC0 hC9 hHR hHC HBT HC HTK HB8
                go_wp2_with fail
                have HS0 : Hid (roundS (List.replicate 0 (nd, o)) ti = ti) := Lib.hid rfl
                go_loopw [12] (fun qv wx => ∃ q : Nat, q ≤ W ∧ qv = .int .i64 q ∧ Hid (Blk wx T 3 (tabA (roundS (List.replicate q (nd, o)) ti))) ∧ Hid (Chg [T] w9 wx)) (fun qv _ => W - (intOf qv).toNat)
                case atStart => exact ⟨0, by omega, rfl, Lib.hid (by rw [HS0.out]; exact HB9.out), Lib.hid (Chg.refl _ _)⟩
                case round =>
                  clear HB9 HS0
                  obtain ⟨q, hq, rfl, HBT, HCx⟩ := hrel
                  have HCW := Lib.hid (HC9.out.trans HCx.out)
                  obtain ⟨d0, d1⟩ := HSX.out wr HCW.out
                  by_cases hqW : q < W
                  · have hqn : (q : Int) < (W : Int) := by omega
                    have HQS : Hid (roundS (List.replicate (q + 1) (nd, o)) ti = claimS o nd (roundS (List.replicate q (nd, o)) ti)) := Lib.hid (by rw [List.replicate_succ', roundS_app]; rfl)
                    have HQL : Hid ((roundS (List.replicate q (nd, o)) ti).length = M) := Lib.hid (by rw [roundS_len]; exact HL9.out)
                    generalize roundS (List.replicate q (nd, o)) ti = sq at *
                    obtain ⟨wp_, hwp⟩ : ∃ wp_, wp_ = wr := ⟨_, rfl⟩
                    have HCP : Hid (Chg [T] w9 wp_) := Lib.hid (by rw [hwp]; exact HCx.out)
                    have HBP : Hid (Blk wp_ T 3 (tabA sq)) := Lib.hid (by rw [hwp]; exact HBT.out)
                    subst hwp
                    go_wp2_with fail
                    go_loopw [13, 14] (fun bv jv wx => ∃ j : Nat, j ≤ M ∧ jv = .int .i64 j ∧ ((bv = .bool false ∧ Hid (∀ i' y, i' < j → o[i']? = some y → freeS sq y = false) ∧ wx = wp_) ∨ (bv = .bool true ∧ Hid (Blk wx T 3 (tabA (claimS o nd sq))) ∧ Hid (Chg [T] w9 wx)))) (fun _ jv _ => M - (intOf jv).toNat)
                    case atStart => exact ⟨0, by omega, rfl, .inl ⟨rfl, Lib.hid (fun i' y h => by omega), rfl⟩⟩
                    case round =>
                      obtain ⟨j, hj, rfl, ⟨rfl, HPJ, rfl⟩ | ⟨rfl, HBJ, HCJ⟩⟩ := hrel
                      · by_cases hjM : j < M
                        · have hjn : (j : Int) < (M : Int) := by omega
                          obtain ⟨y, hy, hyM⟩ := HOX.out j hjM
                          have c0 := HOC.out wr HCP.out j y hy
                          obtain ⟨z, hz⟩ : ∃ z, sq[y]? = some z := ⟨_, List.getElem?_eq_getElem (by rw [HQL.out]; exact hyM)⟩
                          have c1 : wr.cell? ⟨T, y, none⟩ = some (.int .i64 z) := by rw [HBP.out.cell, tabA_at, hz]; rfl
                          have hfz : freeS sq y = (z == 0) := by
                            obtain ⟨h1, h2⟩ := List.getElem?_eq_some_iff.1 hz
                            rw [freeS_at h1, h2]
                          have f1 := HBP.out.frozen y
                          have hyI : (y : Int) < (M : Int) := by omega
                          have HY := Lib.hid (And.intro hy hfz)
                          clear hy hfz hz
                          by_cases hz0 : z = 0
                          · subst hz0
                            have HCL : Hid (claimS o nd sq = sq.set y nd) := Lib.hid (claim_at (fun j' x' h1 h2 => HPJ.out j' x' h1 h2) HY.out.1 (by rw [HY.out.2]; rfl))
                            have hwc : (Chg [T] wr ((wr.setCell ⟨T, y, none⟩ (.int .i64 nd)).drew)) := ((Chg.refl [T] wr).setCell (p := ⟨T, y, none⟩) (.inl (by simp)) _).drew
                            have HBJ : Hid (Blk ((wr.setCell ⟨T, y, none⟩ (.int .i64 nd)).drew) T 3 (tabA (claimS o nd sq))) := Lib.hid (by
                              rw [HCL.out, ← tabA_set]; exact (HBP.out.set_ y _).drew)
                            have HCJ := Lib.hid (HCP.out.trans hwc)
                            clear HPJ HY HCL hwc
                            go_upto_region 23 with fail
                            go_region
                            generalize (wr.setCell ⟨T, y, none⟩ (.int .i64 nd)).drew = wj at *
                            go_wp2_with fail
                            go_roundw
                            case rel => exact ⟨j + 1, by omega, by go_num, .inr ⟨rfl, HBJ, HCJ⟩⟩
                            case measure => simp [intOf] <;> omega
                          · have hzb : (z == 0) = false := by simp [hz0]
                            have HPJ2 : Hid (∀ i' y', i' < j + 1 → o[i']? = some y' → freeS sq y' = false) := Lib.hid fun i' y' h1 h2 => by
                              by_cases e : i' = j
                              · subst e
                                rw [HY.out.1] at h2
                                cases h2
                                rw [HY.out.2]; exact hzb
                              · exact HPJ.out i' y' (by omega) h2
                            clear HPJ HY
                            go_wp2_with fail
                            go_roundw
                            case rel => exact ⟨j + 1, by omega, by go_num, .inl ⟨rfl, HPJ2, trivial⟩⟩
                            case measure => simp [intOf] <;> omega
                        · obtain rfl : j = M := by omega
                          have hjn : ¬ (j : Int) < (j : Int) := by omega
                          have HBQ : Hid (Blk wr T 3 (tabA (roundS (List.replicate (q + 1) (nd, o)) ti))) := Lib.hid (by
                            rw [HQS.out, claim_none (fun i' y' h => HPJ.out i' y' (by have := (List.getElem?_eq_some_iff.1 h).1; have := HOL.out; omega) h)]
                            exact HBP.out)
                          have HCQ := HCP
                          clear HPJ HBP HCP
                          go_wp2_with fail
                          go_roundw
                          case rel => exact ⟨q + 1, by omega, by go_num, HBQ, HCQ⟩
                          case measure => simp [intOf] <;> omega
                      · have HBQ : Hid (Blk wr T 3 (tabA (roundS (List.replicate (q + 1) (nd, o)) ti))) := Lib.hid (by rw [HQS.out]; exact HBJ.out)
                        have HCQ := HCJ
                        clear HBJ HCJ HBP HCP d0 d1
                        by_cases hjM : j < M
                        · have hjn : (j : Int) < (M : Int) := by omega
                          go_wp2_with fail
                          go_roundw
                          case rel => exact ⟨q + 1, by omega, by go_num, HBQ, HCQ⟩
                          case measure => simp [intOf] <;> omega
                        · have hjn : ¬ (j : Int) < (M : Int) := by omega
                          go_wp2_with fail
                          go_roundw
                          case rel => exact ⟨q + 1, by omega, by go_num, HBQ, HCQ⟩
                          case measure => simp [intOf] <;> omega
                  · obtain rfl : q = W := by omega
                    have hqn : ¬ (q : Int) < (q : Int) := by omega
                    have HBI : Hid (Blk wr T 3 (tabA (roundS (roundOf ord (memsM (L'.take (i + 1)))) t))) := Lib.hid (by rw [HTK2.out]; exact HBT.out)
                    clear HBT HCx d0
                    go_wp2_with fail
                    go_roundw
                    case rel => exact ⟨i + 1, by omega, by go_num, HBI, HCW⟩
                    case measure => simp [intOf] <;> omega
              · obtain rfl : i = N := by omega
                have hin : ¬ (i : Int) < (i : Int) := by omega
                have hLt : L'.take i = L' := List.take_of_length_le (by rw [HN6.out]; exact Nat.le_refl _)
                rw [hLt, ← HRD.out] at HBT
                have HTL2 : Hid ((roundS R t).length = M) := Lib.hid (by rw [roundS_len]; exact HTL.out)
                have HE2 : Hid (roundS (turnsS R M) (List.replicate M 0) = roundS (turnsS R (freeN (roundS R t))) (roundS R t)) := Lib.hid (by rw [HE.out]; exact HRS.out.1)
                have HZ2 : Hid (zerosW wr T < zerosW wo T) := Lib.hid (by rw [zerosW_of HBT.out, HZ0.out]; exact HRS.out.2)
                clear HE HRS HZ0 hLt
                go_wp2_with fail
                go_roundw
                case rel => exact ⟨roundS R t, HTL2, HBT, HE2, HC⟩
                case measure => exact HZ2.out
    · have HR0 := Lib.hid hr
      have hrb : (rightM L == 0) = false := by simp [hr]
      generalize hrr : rightM L = r at *
      have HRR := Lib.hid hrr
      clear hrr HP HRT hc3
      go_wp2_with fail
      go_ret2
      exact ⟨_, _, rfl, .inr (.inl ⟨HQ.out, by rw [HRR.out]; exact HR0.out, HRR.out.symm, rfl⟩), HC3.out⟩
end Go.Proofs.YtecblclpchndiaaGreat
