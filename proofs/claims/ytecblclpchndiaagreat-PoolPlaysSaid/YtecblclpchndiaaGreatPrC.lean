/-
  The document side of the pool, third part (merged of XPr8..XPr11).
-/
import Derived.Test.YtecblclpchndiaaGreatPrB
set_option linter.unusedVariables false
set_option linter.unusedSimpArgs false
namespace Go.Proofs.YtecblclpchndiaaGreat
open Go.RowKit

theorem cntB_lt2 {L : List Bk} {n : Int} {k : Nat} (hs : SrtB L) (hk : k < L.length) : k < cntB L n ↔ (L[k]).node < n := cntB_lt hs (List.getElem?_eq_getElem hk)

set_option maxRecDepth 100000 in
set_option maxHeartbeats 4000000 in
theorem add35_any {w : World} {S : List Nat} {ka kb now last : Int} {lv vv : Value} {L : List Bk} {es : List Ve} {V : List Vs} (hSw : ∀ x ∈ S, x < w.heap.size) (hlv : RB w S lv L) (hvv : RV2 w S vv es V) (hL : OkB L) (hok : OkV V) (hn : 0 ≤ now ∧ now ≤ 1000000) (hla : 0 ≤ last ∧ last < 1000000) (n wt : Int) :
    Calls Tryz.prog 35 #[.agg #[.int .u64 ka, .int .u64 kb, lv, vv, .int .i64 last], .int .i64 now, .int .i64 n, .int .i64 wt] w fun e w' => RfR w w' S ka kb (chP ka kb now ⟨L, V, last⟩ (addL n wt L)) e := by
  obtain ⟨Al, cl, el⟩ := Sl.form hlv.1
  obtain ⟨Av, cv, ev⟩ := Sl.form hvv.1
  subst el ev
  have hA := ((Chg.refl [] w).alloc (.cells #[.int .u64 ka, .int .u64 kb, .slice Al L.length cl, .slice Av es.length cv, .int .i64 last] 52)).alloc (.cells #[.int .u64 0, .int .u64 0, .slice none 0 0, .slice none 0 0, .int .i64 0] 52)
  have hb0 : Blk ((w.alloc (.cells #[.int .u64 ka, .int .u64 kb, .slice Al L.length cl, .slice Av es.length cv, .int .i64 last] 52)).alloc (.cells #[.int .u64 0, .int .u64 0, .slice none 0 0, .slice none 0 0, .int .i64 0] 52)) w.heap.size 52 #[.int .u64 ka, .int .u64 kb, .slice Al L.length cl, .slice Av es.length cv, .int .i64 last] := (Blk.new _ _ _).alloc _
  have hb1 : Blk ((w.alloc (.cells #[.int .u64 ka, .int .u64 kb, .slice Al L.length cl, .slice Av es.length cv, .int .i64 last] 52)).alloc (.cells #[.int .u64 0, .int .u64 0, .slice none 0 0, .slice none 0 0, .int .i64 0] 52)) (w.heap.size + 1) 52 #[.int .u64 0, .int .u64 0, .slice none 0 0, .slice none 0 0, .int .i64 0] := Blk.new' (by simp)
  have FF := Lib.hid (find35_any (SlB.chg0 hlv.1 hA) hL n)
  have HI := Lib.hid (And.intro hA (And.intro hb0 hb1))
  have HL := Lib.hid hlv
  have HV := Lib.hid hvv
  have HOK := Lib.hid hok
  have HSW := Lib.hid hSw
  have hlen := hL.len
  have hz : w.heap.size + 1 ≠ w.heap.size := by omega
  have HOK2 := Lib.hid (addL_ok (n := n) (wt := wt) hL)
  clear hA hb0 hb1 hlv hvv hok hSw
  by_cases hbad : n < 1 ∨ 65535 < n ∨ wt < 0 ∨ 4 < wt
  · have HO : Hid (addL n wt L = (2, [])) := Lib.hid (by unfold addL; rw [if_pos hbad])
    have hRP := range_pool HI.out.2.1
    have hR0 := HI.out.2.2
    have HCA := Lib.hid HI.out.1
    clear hL FF HOK2 HI
    by_cases h1 : n < 1
    · clear hbad
      go_enter Tryz.func35, Tryz.ntmps35
      go_wp2_with (first
        | (refine wpList_row 52 (.tmp 4) rfl rfl w.heap.size 0 rfl #[.int .u64 ka, .int .u64 kb, .slice Al L.length cl, .slice Av es.length cv, .int .i64 last] _ hRP Tryz.underlying52 rfl (by kernel_rfl) ?_)
        | (refine wpList_store_blk rfl 52 _ _ rfl rfl hR0 rfl rfl rfl (by kernel_rfl) rfl ?_; intro w9 hB9 hc9)
        | fail)
      refine bodyPost_ret (results_blk2 rfl rfl hB9 _ Tryz.underlying52 rfl (by kernel_rfl)) rfl ?_
      have hC9 := HCA.out.trans' hc9 (fun x hx => .inr (by simp at hx; subst hx; omega))
      rw [HO.out, chP_err (by simp)]
      exact ⟨_, _, es, rfl, HL.out.chg0 hC9, HV.out.chg0 hC9, hC9⟩
    · by_cases h2 : 65535 < n
      · clear hbad
        go_enter Tryz.func35, Tryz.ntmps35
        go_wp2_with (first
          | (refine wpList_row 52 (.tmp 4) rfl rfl w.heap.size 0 rfl #[.int .u64 ka, .int .u64 kb, .slice Al L.length cl, .slice Av es.length cv, .int .i64 last] _ hRP Tryz.underlying52 rfl (by kernel_rfl) ?_)
          | (refine wpList_store_blk rfl 52 _ _ rfl rfl hR0 rfl rfl rfl (by kernel_rfl) rfl ?_; intro w9 hB9 hc9)
          | fail)
        refine bodyPost_ret (results_blk2 rfl rfl hB9 _ Tryz.underlying52 rfl (by kernel_rfl)) rfl ?_
        have hC9 := HCA.out.trans' hc9 (fun x hx => .inr (by simp at hx; subst hx; omega))
        rw [HO.out, chP_err (by simp)]
        exact ⟨_, _, es, rfl, HL.out.chg0 hC9, HV.out.chg0 hC9, hC9⟩
      · by_cases h3 : wt < 0
        · clear hbad
          go_enter Tryz.func35, Tryz.ntmps35
          go_wp2_with (first
            | (refine wpList_row 52 (.tmp 4) rfl rfl w.heap.size 0 rfl #[.int .u64 ka, .int .u64 kb, .slice Al L.length cl, .slice Av es.length cv, .int .i64 last] _ hRP Tryz.underlying52 rfl (by kernel_rfl) ?_)
            | (refine wpList_store_blk rfl 52 _ _ rfl rfl hR0 rfl rfl rfl (by kernel_rfl) rfl ?_; intro w9 hB9 hc9)
            | fail)
          refine bodyPost_ret (results_blk2 rfl rfl hB9 _ Tryz.underlying52 rfl (by kernel_rfl)) rfl ?_
          have hC9 := HCA.out.trans' hc9 (fun x hx => .inr (by simp at hx; subst hx; omega))
          rw [HO.out, chP_err (by simp)]
          exact ⟨_, _, es, rfl, HL.out.chg0 hC9, HV.out.chg0 hC9, hC9⟩
        · have h4 : 4 < wt := by omega
          clear hbad
          go_enter Tryz.func35, Tryz.ntmps35
          go_wp2_with (first
            | (refine wpList_row 52 (.tmp 4) rfl rfl w.heap.size 0 rfl #[.int .u64 ka, .int .u64 kb, .slice Al L.length cl, .slice Av es.length cv, .int .i64 last] _ hRP Tryz.underlying52 rfl (by kernel_rfl) ?_)
            | (refine wpList_store_blk rfl 52 _ _ rfl rfl hR0 rfl rfl rfl (by kernel_rfl) rfl ?_; intro w9 hB9 hc9)
            | fail)
          refine bodyPost_ret (results_blk2 rfl rfl hB9 _ Tryz.underlying52 rfl (by kernel_rfl)) rfl ?_
          have hC9 := HCA.out.trans' hc9 (fun x hx => .inr (by simp at hx; subst hx; omega))
          rw [HO.out, chP_err (by simp)]
          exact ⟨_, _, es, rfl, HL.out.chg0 hC9, HV.out.chg0 hC9, hC9⟩
  · have h1 : ¬ n < 1 := by omega
    have h2 : ¬ 65535 < n := by omega
    have h3 : ¬ wt < 0 := by omega
    have h4 : ¬ 4 < wt := by omega
    by_cases hm : n ∈ nodesB L
    · have HO : Hid (addL n wt L = (9, [])) := Lib.hid (by unfold addL; rw [if_neg hbad, if_pos hm])
      have hfi : findI L n = (cntB L n : Int) := by unfold findI; rw [if_pos hm]
      rw [hfi] at FF
      clear hL hm hfi hbad HOK2
      generalize cntB L n = i at *
      have hni : (0 : Int) ≤ (i : Int) := by omega
      go_enter Tryz.func35, Tryz.ntmps35
      go_wp2_with fail
      refine FF.out.mono ?_
      rintro e w1 ⟨rfl, hc1⟩
      obtain ⟨hA, hb0, hb1⟩ := HI.out
      generalize ((w.alloc (.cells #[.int .u64 ka, .int .u64 kb, .slice Al L.length cl, .slice Av es.length cv, .int .i64 last] 52)).alloc (.cells #[.int .u64 0, .int .u64 0, .slice none 0 0, .slice none 0 0, .int .i64 0] 52)) = w0 at *
      have HC1 := Lib.hid (hA.trans hc1)
      have hRP := range_pool (hb0.chg hc1 (by simp))
      have hR0 := hb1.chg hc1 (by simp)
      clear hA hb0 hb1 hc1 FF HI
      go_wp2_with (first
        | (refine wpList_row 52 (.tmp 4) rfl rfl w.heap.size 0 rfl #[.int .u64 ka, .int .u64 kb, .slice Al L.length cl, .slice Av es.length cv, .int .i64 last] _ hRP Tryz.underlying52 rfl (by kernel_rfl) ?_)
        | (refine wpList_store_blk rfl 52 _ _ rfl rfl hR0 rfl rfl rfl (by kernel_rfl) rfl ?_; intro w9 hB9 hc9)
        | fail)
      refine bodyPost_ret (results_blk2 rfl rfl hB9 _ Tryz.underlying52 rfl (by kernel_rfl)) rfl ?_
      have hC9 := HC1.out.trans' hc9 (fun x hx => .inr (by simp at hx; subst hx; omega))
      rw [HO.out, chP_err (by simp)]
      exact ⟨_, _, es, rfl, HL.out.chg0 hC9, HV.out.chg0 hC9, hC9⟩
    · have hfi : findI L n = -1 := by unfold findI; rw [if_neg hm]
      rw [hfi] at FF
      by_cases h16 : 16 ≤ L.length
      · have HO : Hid (addL n wt L = (8, [])) := Lib.hid (by unfold addL; rw [if_neg hbad, if_neg hm, if_pos h16])
        have h16I : (16 : Int) ≤ (L.length : Int) := by omega
        clear hL hm hfi hbad HOK2 h16
        go_enter Tryz.func35, Tryz.ntmps35
        go_wp2_with fail
        refine FF.out.mono ?_
        rintro e w1 ⟨rfl, hc1⟩
        obtain ⟨hA, hb0, hb1⟩ := HI.out
        generalize ((w.alloc (.cells #[.int .u64 ka, .int .u64 kb, .slice Al L.length cl, .slice Av es.length cv, .int .i64 last] 52)).alloc (.cells #[.int .u64 0, .int .u64 0, .slice none 0 0, .slice none 0 0, .int .i64 0] 52)) = w0 at *
        have HC1 := Lib.hid (hA.trans hc1)
        have hb01 := hb0.chg hc1 (by simp)
        have p2 := hb01.cell 2
        simp only [List.getElem?_toArray, List.getElem?_cons_succ, List.getElem?_cons_zero] at p2
        have hRP := range_pool hb01
        have hR0 := hb1.chg hc1 (by simp)
        clear hA hb0 hb1 hc1 FF HI hb01
        go_wp2_with (first
          | (refine wpList_row 52 (.tmp 4) rfl rfl w.heap.size 0 rfl #[.int .u64 ka, .int .u64 kb, .slice Al L.length cl, .slice Av es.length cv, .int .i64 last] _ hRP Tryz.underlying52 rfl (by kernel_rfl) ?_)
          | (refine wpList_store_blk rfl 52 _ _ rfl rfl hR0 rfl rfl rfl (by kernel_rfl) rfl ?_; intro w9 hB9 hc9)
          | fail)
        refine bodyPost_ret (results_blk2 rfl rfl hB9 _ Tryz.underlying52 rfl (by kernel_rfl)) rfl ?_
        have hC9 := HC1.out.trans' hc9 (fun x hx => .inr (by simp at hx; subst hx; omega))
        rw [HO.out, chP_err (by simp)]
        exact ⟨_, _, es, rfl, HL.out.chg0 hC9, HV.out.chg0 hC9, hC9⟩
      · have HO : Hid (addL n wt L = (0, L.take (cntB L n) ++ ⟨n, wt, false, false⟩ :: L.drop (cntB L n))) := Lib.hid (by unfold addL; rw [if_neg hbad, if_neg hm, if_neg h16])
        have h16I : ¬ (16 : Int) ≤ (L.length : Int) := by omega
        rw [HO.out] at HOK2
        have HCN := Lib.hid (fun k (hk : k < L.length) => cntB_lt2 (n := n) hL.srt hk)
        have hcl := cntB_le L n
        clear hL hm hfi hbad h16
        generalize cntB L n = i at *
        go_enter Tryz.func35, Tryz.ntmps35
        go_wp2_with fail
        refine FF.out.mono ?_
        rintro e w1 ⟨rfl, hc1⟩
        obtain ⟨hA, hb0, hb1⟩ := HI.out
        generalize ((w.alloc (.cells #[.int .u64 ka, .int .u64 kb, .slice Al L.length cl, .slice Av es.length cv, .int .i64 last] 52)).alloc (.cells #[.int .u64 0, .int .u64 0, .slice none 0 0, .slice none 0 0, .int .i64 0] 52)) = w0 at *
        have HC1 := Lib.hid (hA.trans hc1)
        have HB0 := Lib.hid (hb0.chg hc1 (by simp))
        have HB1 := Lib.hid (hb1.chg hc1 (by simp))
        have p2 := HB0.out.cell 2
        simp only [List.getElem?_toArray, List.getElem?_cons_succ, List.getElem?_cons_zero] at p2
        have HSL1 := Lib.hid (HL.out.chg0 HC1.out).1
        clear hA hb0 hb1 hc1 FF HI
        go_wp2_with fail
        go_loopw [10] (fun av wr => ∃ (k : Nat), k ≤ i ∧ av = .int .i64 k ∧ w1 = wr) (fun av _ => i - (intOf av).toNat)
        case atStart => exact ⟨0, by omega, rfl, rfl⟩
        case round =>
          obtain ⟨k, hk, rfl, rfl⟩ := hrel
          go_upto_region 8 with fail
          go_cut [52] (fun sv wx => sv = .bool (decide (k < i)) ∧ w1 = wx)
          case first =>
            by_cases hkl : k < L.length
            · have hkI : (k : Int) < (L.length : Int) := by omega
              obtain ⟨b, o, c', hv, hcap, d0, -, -, -⟩ := HSL1.out.at_ (List.getElem?_eq_getElem hkl)
              simp only [Value.slice.injEq, true_and] at hv
              obtain ⟨rfl, rfl⟩ := hv
              have hlt := HCN.out k hkl
              have HD : Hid (decide (k < i) = decide ((L[k]).node < n)) := Lib.hid (by by_cases h : k < i <;> simp [h, hlt.1, hlt.2] <;> omega)
              generalize (L[k]).node = nd at *
              clear hlt HCN HSL1 HB0 HB1
              go_wp2_with fail
              go_meet
              exact ⟨by rw [HD.out], rfl⟩
            · have hkI : ¬ (k : Int) < (L.length : Int) := by omega
              have hki : decide (k < i) = false := decide_eq_false (by omega)
              clear HCN HSL1 HB0 HB1
              go_wp2_with fail
              go_meet
              exact ⟨by rw [hki], rfl⟩
          case rest =>
            obtain ⟨rfl, rfl⟩ := hcut
            by_cases hki : k < i
            · go_wp2_with fail
              go_roundw
              case rel => exact ⟨k + 1, by omega, by go_num, by first | rfl | trivial⟩
              case measure => simp [intOf] <;> omega
            · obtain rfl : k = i := by omega
              have hAe := (Chg.refl [] w1).alloc (.cells #[] 61)
              have p2a := hAe.cell p2 (by simp)
              have hown := own_lit (base := w1.heap.size) w1 61 4 0 #[] (Nat.le_refl _) (by simp [maxLen]) rfl
              obtain ⟨hcut1, hsl2⟩ := cut_to elB2 (Sl.chg0 HSL1.out hAe) hcl
              have hzz : w1.heap.size ≤ (w1.alloc (.cells #[] 61)).heap.size := by simp
              obtain ⟨X, hcut2, hsl3⟩ := cut_from elB2 HSL1.out (lo := k) hcl
              have HOW := Lib.hid (And.intro hown (And.intro hsl2 hsl3))
              have HAE := Lib.hid hAe
              have HONE := Lib.hid (one_sub (l := L) (i := k))
              have h1s : w.heap.size + 2 ≤ w1.heap.size := by have := HB1.out.lt; omega
              clear p2 hAe hown hsl2 hsl3 HCN HSL1
              go_upto_region 11 with (first
                | (at_builtin; refine wpList_app elB2 rfl (.tmp 55) (.tmp 59) rfl w1.heap.size rfl HOW.out.1 rfl HOW.out.2.1 HONE.out.1 (by unfold maxLen; omega) (by omega) hzz ?_; intro v2 w2 hown2 hc2 hb2)
                | fail)
              have hC12 : Chg [] w1 w2 := HAE.out.trans' hc2 (fun x hx => .inr (by have := (own_lt HOW.out.1 x hx).1; omega))
              have ho2 : w2.ownsRow w1.heap.size 61 4 v2 k ((L.flatMap encB).take (k * 4)) := by simpa using hown2
              have hA2 := (Chg.refl [] w2).alloc (.cells #[.int .i64 n, .int .i64 wt, .bool false, .bool false] 61)
              have hl2 := Sl.of_own (own_lit (base := 0) w2 61 4 1 #[.int .i64 n, .int .i64 wt, .bool false, .bool false] (Nat.zero_le _) (by simp [maxLen]) rfl)
              have hr2 := own_chg ho2 hA2 (by simp)
              have hz2 : w1.heap.size ≤ (w2.alloc (.cells #[.int .i64 n, .int .i64 wt, .bool false, .bool false] 61)).heap.size := by have := hC12.size; rw [World.size_alloc]; omega
              have HC12 := Lib.hid (hC12.trans hA2)
              have HLT2 := Lib.hid (own_lt ho2)
              clear hc2 hown2 hb2 hC12 ho2 hA2 HAE p2a
              go_upto_region 12 with (first
                | (at_builtin; refine wpList_app elB2 rfl (.tmp 61) (.tmp 65) rfl w1.heap.size rfl hr2 rfl hl2 (encB_one ⟨n, wt, false, false⟩) (by unfold maxLen; omega) (by omega) hz2 ?_; intro v3 w3 hown3 hc3 hb3)
                | fail)
              have hC13 : Chg [] w1 w3 := HC12.out.trans' hc3 (fun x hx => .inr (by have := (HLT2.out x hx).1; omega))
              have HSW2 : Hid (∀ x ∈ (w.heap.size + 1) :: S, x < w1.heap.size) := Lib.hid fun x hx => by
                rcases List.mem_cons.1 hx with rfl | hx
                · omega
                · have := HSW.out x hx; omega
              have HSX : Hid (∀ x ∈ (w.heap.size + 1) :: S, x ∈ S ∨ w.heap.size ≤ x) := Lib.hid fun x hx => by
                rcases List.mem_cons.1 hx with rfl | hx
                · exact .inr (by omega)
                · exact .inl hx
              have HC2 := Lib.hid (HC1.out.trans hC13.drew)
              have hS0 : (fun W : World => Blk W w.heap.size 52 #[.int .u64 ka, .int .u64 kb, .slice Al L.length cl, .slice Av es.length cv, .int .i64 last]) w3.drew := (HB0.out.chg hC13 (by simp)).drew
              have HSP : ∀ W : World, (fun W : World => Blk W w.heap.size 52 #[.int .u64 ka, .int .u64 kb, .slice Al L.length cl, .slice Av es.length cv, .int .i64 last]) W → W.rangeAt w.heap.size 0 (#[.int .u64 ka, .int .u64 kb, .slice Al L.length cl, .slice Av es.length cv, .int .i64 last] : Array Value).toList := fun W h => h.rangeQ
              have HSL : ∀ W : World, (fun W : World => Blk W w.heap.size 52 #[.int .u64 ka, .int .u64 kb, .slice Al L.length cl, .slice Av es.length cv, .int .i64 last]) W → W.cell? ⟨w.heap.size, 2, none⟩ = some (.slice Al L.length cl) := fun W h => h.cell 2
              have HR0 := Lib.hid ((HB1.out.chg hC13 (by simp)).drew)
              have hownd : w3.drew.ownsRow w1.heap.size 61 4 v3 (k + 1) ((L.flatMap encB).take (k * 4) ++ encB ⟨n, wt, false, false⟩) := own_chg hown3 ((Chg.refl [] w3).drew) (by simp)
              have hsl3d := HOW.out.2.2.chg0 (hC13.drew)
              have HLT := Lib.hid (own_lt hownd)
              have hzd : w1.heap.size ≤ w3.drew.heap.size := hC13.size
              clear hc3 hown3 hC13 HOW HB0 HB1 hb3 hr2 hl2
              refine wp_region_noPanic ?_
              refine wp_region_held_drew (S := fun W : World => Blk W w.heap.size 52 #[.int .u64 ka, .int .u64 kb, .slice Al L.length cl, .slice Av es.length cv, .int .i64 last]) (by kernel_rfl) hS0 (fun _ => ?_)
              generalize w3.drew = w4 at *
              refine wpAnyH_take (i := 1) (v := ?_) rfl (by kernel_rfl) (by kernel_rfl) (by kernel_rfl) (fun _ _ _ h => h) (yields_pure (by rfl) (fun w => ?_)) (by with_reducible assumption) ?_
              rotate_left
              · (go_simp <;> with_reducible rfl)
              try simp only [List.getElem_toArray, List.getElem_cons_succ, List.getElem_cons_zero, Act.put, List.setIfInBounds_toArray, List.set_cons_zero, List.set_cons_succ]
              refine wpAnyH_take (i := 2) (v := ?_) rfl (by kernel_rfl) (by kernel_rfl) (by kernel_rfl) (fun _ _ _ h => h) (yields_pure (by rfl) (fun w => ?_)) (by with_reducible assumption) ?_
              rotate_left
              · (go_simp <;> with_reducible rfl)
              try simp only [List.getElem_toArray, List.getElem_cons_succ, List.getElem_cons_zero, Act.put, List.setIfInBounds_toArray, List.set_cons_zero, List.set_cons_succ]
              refine wpAnyH_take (i := 3) (v := ?_) rfl (by kernel_rfl) (by kernel_rfl) (by kernel_rfl) (fun _ _ _ h => h) (yields_pure (by rfl) (fun w => ?_)) (by with_reducible assumption) ?_
              rotate_left
              · (go_simp <;> with_reducible rfl)
              try simp only [List.getElem_toArray, List.getElem_cons_succ, List.getElem_cons_zero, Act.put, List.setIfInBounds_toArray, List.set_cons_zero, List.set_cons_succ]
              refine wpAnyH_take (i := 5) (v := ?_) rfl (by kernel_rfl) (by kernel_rfl) (by kernel_rfl) (fun _ _ _ h => h) (yields_pure (by rfl) (fun w => ?_)) (by with_reducible assumption) ?_
              rotate_left
              · (go_simp <;> with_reducible rfl)
              try simp only [List.getElem_toArray, List.getElem_cons_succ, List.getElem_cons_zero, Act.put, List.setIfInBounds_toArray, List.set_cons_zero, List.set_cons_succ]
              refine wpAnyH_take (i := 0) rfl (by kernel_rfl) (by kernel_rfl) (by kernel_rfl) (fun _ _ _ h => h) (yields_row (by rfl) 52 (.tmp 4) rfl w.heap.size 0 rfl (#[.int .u64 ka, .int .u64 kb, .slice Al L.length cl, .slice Av es.length cv, .int .i64 last]) _ HSP Tryz.underlying52 rfl (by kernel_rfl)) (by with_reducible assumption) ?_
              try simp only [List.getElem_toArray, List.getElem_cons_succ, List.getElem_cons_zero, Act.put, List.setIfInBounds_toArray, List.set_cons_zero, List.set_cons_succ]
              refine wpAnyH_take (i := 4) rfl (by kernel_rfl) (by kernel_rfl) (by kernel_rfl) (fun _ _ _ h => h) (yields_cell (by rfl) 49 (.tmp 70) rfl w.heap.size 2 rfl (.slice Al L.length cl) _ HSL Tryz.underlying49 rfl) (by with_reducible assumption) ?_
              try simp only [List.getElem_toArray, List.getElem_cons_succ, List.getElem_cons_zero, Act.put, List.setIfInBounds_toArray, List.set_cons_zero, List.set_cons_succ]
              refine wpAnyH_take (i := 6) (v := ?_) rfl (by kernel_rfl) (by kernel_rfl) (by kernel_rfl) (fun _ _ _ h => h) (yields_pure (by rfl) (fun w => ?_)) (by with_reducible assumption) ?_
              rotate_left
              · (go_simp <;> with_reducible rfl)
              try simp only [List.getElem_toArray, List.getElem_cons_succ, List.getElem_cons_zero, Act.put, List.setIfInBounds_toArray, List.set_cons_zero, List.set_cons_succ]
              refine wpAnyH_ready (rs := [7]) (by kernel_rfl) (by simp) (AllReadyH.cons rfl (fun K hK => ?_) AllReadyH.nil)
              refine step_app elB2 rfl (.tmp 69) (.tmp 73) rfl w1.heap.size rfl hownd rfl hsl3d HONE.out.2 (by unfold maxLen; omega) (by omega) hzd ?_
              intro v5 w5 hown5 hc5 hb5
              have hS5 : (fun W : World => Blk W w.heap.size 52 #[.int .u64 ka, .int .u64 kb, .slice Al L.length cl, .slice Av es.length cv, .int .i64 last]) w5 := hS0.chg hc5 (fun hm => by have := (HLT.out _ hm).1; omega)
              have hl5 : (L.take k ++ ⟨n, wt, false, false⟩ :: L.drop k).length = k + 1 + (L.length - k) := by rw [List.length_append, List.length_take, List.length_cons, List.length_drop]; omega
              have HNV : Hid (RB w5 ((w.heap.size + 1) :: S) v5 (L.take k ++ ⟨n, wt, false, false⟩ :: L.drop k)) := Lib.hid (by
                refine ⟨?_, safe_new hown5 (Nat.le_refl _) HSW2.out⟩
                have := Sl.less (B' := 0) (Sl.of_own hown5) (Nat.zero_le _)
                unfold SlB
                rw [hl5, List.flatMap_append, List.flatMap_cons, ← flat_take encB_len, ← flat_drop encB_len, ← List.append_assoc]
                exact this)
              have HC5 := Lib.hid (HC2.out.trans' hc5 (fun x hx => .inr (by have := (HLT.out _ hx).1; omega)))
              have hR5 := HR0.out.chg hc5 (fun hm => by have := (HLT.out _ hm).1; omega)
              obtain ⟨A5, n5, c5, rfl⟩ : ∃ A n c, v5 = .slice A n c := ⟨_, _, _, (Sl.form HNV.out.1).choose_spec.choose_spec⟩
              refine hK.out _ _ (by with_reducible assumption) (fun _ => ?_)
              clear hK K
              try simp only [List.getElem_toArray, List.getElem_cons_succ, List.getElem_cons_zero, Act.put, List.setIfInBounds_toArray, List.set_cons_zero, List.set_cons_succ]
              refine wpAnyH_ready (rs := [8]) (by kernel_rfl) (by simp) (AllReadyH.cons rfl (fun K hK => ?_) AllReadyH.nil)
              go_simp
              refine (apply35_any (fun x hx => by have h1 := HSW2.out x hx; have h2 := hc5.size; omega) (HL.out.chgS (HC5.out.more (by simp)) HSX.out) (HV.out.chgS (HC5.out.more (by simp)) HSX.out) HNV.out (HOK2.out (by first | rfl | trivial)) HOK.out hn hla).mono ?_
              rintro e w6 ⟨lv3, vv3, es3, rfl, h3a, h3b, hc6⟩
              have hS6 : (fun W : World => Blk W w.heap.size 52 #[.int .u64 ka, .int .u64 kb, .slice Al L.length cl, .slice Av es.length cv, .int .i64 last]) w6 := hS5.chg hc6 (by simp)
              obtain ⟨A3, n3, c3, rfl⟩ : ∃ A n c, lv3 = .slice A n c := ⟨_, _, _, (Sl.form h3a.1).choose_spec.choose_spec⟩
              obtain ⟨A4, n4, c4, rfl⟩ : ∃ A n c, vv3 = .slice A n c := ⟨_, _, _, (Sl.form h3b.1).choose_spec.choose_spec⟩
              have hRz := hR5.chg hc6 (by simp)
              refine hK.out _ _ (by with_reducible assumption) (fun _ => ?_)
              clear hK K
              try simp only [List.getElem_toArray, List.getElem_cons_succ, List.getElem_cons_zero, Act.put, List.setIfInBounds_toArray, List.set_cons_zero, List.set_cons_succ]
              refine wpAnyH_take (i := 9) (v := ?_) rfl (by kernel_rfl) (by kernel_rfl) (by kernel_rfl) (fun _ _ _ h => h) (yields_pure (by rfl) (fun w => ?_)) (by with_reducible assumption) ?_
              rotate_left
              · (go_simp <;> with_reducible rfl)
              try simp only [List.getElem_toArray, List.getElem_cons_succ, List.getElem_cons_zero, Act.put, List.setIfInBounds_toArray, List.set_cons_zero, List.set_cons_succ]
              refine wpAnyH_take (i := 10) (v := ?_) rfl (by kernel_rfl) (by kernel_rfl) (by kernel_rfl) (fun _ _ _ h => h) (yields_pure (by rfl) (fun w => ?_)) (by with_reducible assumption) ?_
              rotate_left
              · (go_simp <;> with_reducible rfl)
              try simp only [List.getElem_toArray, List.getElem_cons_succ, List.getElem_cons_zero, Act.put, List.setIfInBounds_toArray, List.set_cons_zero, List.set_cons_succ]
              refine wpAnyH_ready (rs := [11]) (by kernel_rfl) (by simp) (AllReadyH.cons rfl (fun K hK => ?_) AllReadyH.nil)
              refine step_store_blk rfl 52 (.tmp 8) (.tmp 76) rfl hRz rfl rfl rfl (by kernel_rfl) rfl ?_
              intro w7 hb7 hc7
              have hS7 : (fun W : World => Blk W w.heap.size 52 #[.int .u64 ka, .int .u64 kb, .slice Al L.length cl, .slice Av es.length cv, .int .i64 last]) w7 := hS6.chg hc7 (by simp)
              refine hK.out _ _ (by with_reducible assumption) (fun _ => ?_)
              clear hK K
              try simp only [List.getElem_toArray, List.getElem_cons_succ, List.getElem_cons_zero, Act.put, List.setIfInBounds_toArray, List.set_cons_zero, List.set_cons_succ]
              refine wpAnyH_take (i := 12) (v := ?_) rfl (by kernel_rfl) (by kernel_rfl) (by kernel_rfl) (fun _ _ _ h => h) (yields_pure (by rfl) (fun w => ?_)) (by with_reducible assumption) ?_
              rotate_left
              · (go_simp <;> with_reducible rfl)
              try simp only [List.getElem_toArray, List.getElem_cons_succ, List.getElem_cons_zero, Act.put, List.setIfInBounds_toArray, List.set_cons_zero, List.set_cons_succ]
              refine wpAnyH_done (by kernel_rfl) ?_ _
              refine NoPanic.normal ?_
              have HR7 := Lib.hid (And.intro h3a (And.intro h3b (And.intro hc6 hc7)))
              clear hS0 hS5 hS6 hS7 HSP HSL h3a h3b hc6 hc5 hown5 hRz hR5 hownd hsl3d hb5 hl5
              go_wp2_with fail
              refine bodyPost_ret (results_blk2 rfl rfl hb7 _ Tryz.underlying52 rfl (by kernel_rfl)) rfl ?_
              obtain ⟨h3a, h3b, hc6, hc7⟩ := HR7.out
              have hC7 := (HC5.out.trans hc6).trans' hc7 (fun x hx => .inr (by simp at hx; subst hx; omega))
              rw [HO.out, chP_set]
              exact ⟨_, _, es3, rfl, h3a.chgS (hc7.more (by simp)) (fun x hx => .inl (List.mem_cons_of_mem _ hx)), h3b.chgS (hc7.more (by simp)) (fun x hx => .inl (List.mem_cons_of_mem _ hx)), hC7⟩
end Go.Proofs.YtecblclpchndiaaGreat
namespace Go.Proofs.YtecblclpchndiaaGreat
open Go.RowKit

set_option maxRecDepth 100000 in
set_option maxHeartbeats 4000000 in
theorem ref35_any {w : World} {S : List Nat} {ka kb now last : Int} {lv vv : Value} {L : List Bk} {es : List Ve} {V : List Vs} (hSw : ∀ x ∈ S, x < w.heap.size) (hlv : RB w S lv L) (hvv : RV2 w S vv es V) (hL : OkB L) (hok : OkV V) (hn : 0 ≤ now ∧ now ≤ 1000000) (hla : 0 ≤ last ∧ last < 1000000) (o : PO) :
    Calls Tryz.prog 13 #[.agg #[.int .u64 ka, .int .u64 kb, lv, vv, .int .i64 last], .int .i64 now, .agg (arrO o)] w fun e w' => RfR w w' S ka kb (chP ka kb now ⟨L, V, last⟩ (howO o L)) e := by
  obtain ⟨kind, later, n, wt⟩ := o
  obtain ⟨Al, cl, el⟩ := Sl.form hlv.1
  obtain ⟨Av, cv, ev⟩ := Sl.form hvv.1
  subst el ev
  have hA := (((Chg.refl [] w).alloc (.cells #[.int .u64 ka, .int .u64 kb, .slice Al L.length cl, .slice Av es.length cv, .int .i64 last] 52)).alloc (.cells #[.int .i64 kind, .int .i64 later, .int .i64 n, .int .i64 wt] 29)).alloc (.cells #[.int .u64 0, .int .u64 0, .slice none 0 0, .slice none 0 0, .int .i64 0] 52)
  have hb0 : Blk (((w.alloc (.cells #[.int .u64 ka, .int .u64 kb, .slice Al L.length cl, .slice Av es.length cv, .int .i64 last] 52)).alloc (.cells #[.int .i64 kind, .int .i64 later, .int .i64 n, .int .i64 wt] 29)).alloc (.cells #[.int .u64 0, .int .u64 0, .slice none 0 0, .slice none 0 0, .int .i64 0] 52)) w.heap.size 52 #[.int .u64 ka, .int .u64 kb, .slice Al L.length cl, .slice Av es.length cv, .int .i64 last] := ((Blk.new _ _ _).alloc _).alloc _
  have hb1 : Blk (((w.alloc (.cells #[.int .u64 ka, .int .u64 kb, .slice Al L.length cl, .slice Av es.length cv, .int .i64 last] 52)).alloc (.cells #[.int .i64 kind, .int .i64 later, .int .i64 n, .int .i64 wt] 29)).alloc (.cells #[.int .u64 0, .int .u64 0, .slice none 0 0, .slice none 0 0, .int .i64 0] 52)) (w.heap.size + 2) 52 #[.int .u64 0, .int .u64 0, .slice none 0 0, .slice none 0 0, .int .i64 0] := Blk.new' (by simp)
  have hS2 : ∀ x ∈ (w.heap.size + 2) :: S, x < (((w.alloc (.cells #[.int .u64 ka, .int .u64 kb, .slice Al L.length cl, .slice Av es.length cv, .int .i64 last] 52)).alloc (.cells #[.int .i64 kind, .int .i64 later, .int .i64 n, .int .i64 wt] 29)).alloc (.cells #[.int .u64 0, .int .u64 0, .slice none 0 0, .slice none 0 0, .int .i64 0] 52)).heap.size := fun x hx => by
    have h1 : (((w.alloc (.cells #[.int .u64 ka, .int .u64 kb, .slice Al L.length cl, .slice Av es.length cv, .int .i64 last] 52)).alloc (.cells #[.int .i64 kind, .int .i64 later, .int .i64 n, .int .i64 wt] 29)).alloc (.cells #[.int .u64 0, .int .u64 0, .slice none 0 0, .slice none 0 0, .int .i64 0] 52)).heap.size = w.heap.size + 3 := by simp
    rcases List.mem_cons.1 hx with rfl | hx
    · omega
    · have := hSw x hx; omega
  have hX : ∀ x ∈ (w.heap.size + 2) :: S, x ∈ S ∨ w.heap.size ≤ x := fun x hx => by
    rcases List.mem_cons.1 hx with rfl | hx
    · exact .inr (by omega)
    · exact .inl hx
  have hl2 := hlv.chgS (hA.more (T := S) (by simp)) hX
  have hv2 := hvv.chgS (hA.more (T := S) (by simp)) hX
  have FA := Lib.hid (add35_any (ka := ka) (kb := kb) hS2 hl2 hv2 hL hok hn hla n wt)
  have FW := Lib.hid (weigh35_any (ka := ka) (kb := kb) hS2 hl2 hv2 hL hok hn hla n wt)
  have FD := Lib.hid (drain35_any (ka := ka) (kb := kb) hS2 hl2 hv2 hL hok hn hla n)
  have FR := Lib.hid (remove35_any (ka := ka) (kb := kb) hS2 hl2 hv2 hL hok hn hla n)
  have FH := Lib.hid (fun up => health35_any (ka := ka) (kb := kb) hS2 hl2 hv2 hL hok hn hla n up)
  have hRP := range_pool hb0
  have HRB := Lib.hid hb1
  have HCA := Lib.hid hA
  have HH : Hid (howO ⟨kind, later, n, wt⟩ L = howK (kind.tmod 9) n wt L) := Lib.hid rfl
  rw [HH.out]
  clear HH hlv hvv hA hok hL hSw hb0 hb1 hS2 hX hl2 hv2
  obtain ⟨k, hk⟩ : ∃ k, kind.tmod 9 = k := ⟨_, rfl⟩
  have hkw : IntKind.i64.wrap k = k := by
    have h1 := Int.tmod_lt_of_pos kind (b := 9) (by omega)
    have h2 : -9 < kind.tmod 9 := by
      rcases Int.lt_or_le kind 0 with h | h
      · have := Int.neg_tmod kind 9
        have h3 := Int.tmod_lt_of_pos (-kind) (b := 9) (by omega)
        omega
      · have := Int.tmod_nonneg 9 h; omega
    rw [IntKind.wrap_i64]; omega
  rw [hk]
  by_cases c1 : 0 ≤ k ∧ k ≤ 2
  · have HK : Hid (howK k n wt L = addL n wt L) := Lib.hid (by unfold howK; rw [if_pos c1])
    obtain ⟨c1, c2⟩ := c1
    clear FW FD FR FH
    go_enter Tryz.func13, Tryz.ntmps13
    go_wp2_with (first
      | (refine wpList_row 52 (.tmp 3) rfl rfl w.heap.size 0 rfl #[.int .u64 ka, .int .u64 kb, .slice Al L.length cl, .slice Av es.length cv, .int .i64 last] _ hRP Tryz.underlying52 rfl (by kernel_rfl) ?_)
      | fail)
    refine FA.out.mono ?_
    rintro e w1 ⟨lv3, vv3, es3, rfl, h3a, h3b, hc1⟩
    obtain ⟨A3, n3, c3, rfl⟩ : ∃ A n c, lv3 = .slice A n c := ⟨_, _, _, (Sl.form h3a.1).choose_spec.choose_spec⟩
    obtain ⟨A4, n4, c4, rfl⟩ : ∃ A n c, vv3 = .slice A n c := ⟨_, _, _, (Sl.form h3b.1).choose_spec.choose_spec⟩
    have hR1 := HRB.out.chg hc1 (by simp)
    have HR7 := Lib.hid (And.intro h3a (And.intro h3b hc1))
    clear h3a h3b hc1 FA
    go_wp2_with (first
      | (refine wpList_store_blk rfl 52 _ _ rfl rfl hR1 rfl rfl rfl (by kernel_rfl) rfl ?_; intro w9 hB9 hc9)
      | fail)
    refine bodyPost_ret (results_blk2 rfl rfl hB9 _ Tryz.underlying52 rfl (by kernel_rfl)) rfl ?_
    obtain ⟨h3a, h3b, hc1⟩ := HR7.out
    have hC9 := (HCA.out.trans hc1).trans' hc9 (fun x hx => .inr (by simp at hx; subst hx; omega))
    rw [HK.out]
    exact ⟨_, _, es3, rfl, h3a.chgS (hc9.more (by simp)) (fun x hx => .inl (List.mem_cons_of_mem _ hx)), h3b.chgS (hc9.more (by simp)) (fun x hx => .inl (List.mem_cons_of_mem _ hx)), hC9⟩
  · by_cases c3 : k = 3 ∨ k = 4
    · have HK : Hid (howK k n wt L = oneL n (weighF wt) L) := Lib.hid (by unfold howK; rw [if_neg c1, if_pos c3])
      clear FA FD FR FH
      rcases c3 with rfl | rfl
      all_goals
        clear c1
        go_enter Tryz.func13, Tryz.ntmps13
        go_wp2_with (first
          | (refine wpList_row 52 (.tmp 3) rfl rfl w.heap.size 0 rfl #[.int .u64 ka, .int .u64 kb, .slice Al L.length cl, .slice Av es.length cv, .int .i64 last] _ hRP Tryz.underlying52 rfl (by kernel_rfl) ?_)
          | fail)
        refine FW.out.mono ?_
        rintro e w1 ⟨lv3, vv3, es3, rfl, h3a, h3b, hc1⟩
        obtain ⟨A3, n3, c3, rfl⟩ : ∃ A n c, lv3 = .slice A n c := ⟨_, _, _, (Sl.form h3a.1).choose_spec.choose_spec⟩
        obtain ⟨A4, n4, c4, rfl⟩ : ∃ A n c, vv3 = .slice A n c := ⟨_, _, _, (Sl.form h3b.1).choose_spec.choose_spec⟩
        have hR1 := HRB.out.chg hc1 (by simp)
        have HR7 := Lib.hid (And.intro h3a (And.intro h3b hc1))
        clear h3a h3b hc1 FW
        go_wp2_with (first
          | (refine wpList_store_blk rfl 52 _ _ rfl rfl hR1 rfl rfl rfl (by kernel_rfl) rfl ?_; intro w9 hB9 hc9)
          | fail)
        refine bodyPost_ret (results_blk2 rfl rfl hB9 _ Tryz.underlying52 rfl (by kernel_rfl)) rfl ?_
        obtain ⟨h3a, h3b, hc1⟩ := HR7.out
        have hC9 := (HCA.out.trans hc1).trans' hc9 (fun x hx => .inr (by simp at hx; subst hx; omega))
        rw [HK.out]
        exact ⟨_, _, es3, rfl, h3a.chgS (hc9.more (by simp)) (fun x hx => .inl (List.mem_cons_of_mem _ hx)), h3b.chgS (hc9.more (by simp)) (fun x hx => .inl (List.mem_cons_of_mem _ hx)), hC9⟩
    · by_cases c5 : k = 5
      · have HK : Hid (howK k n wt L = oneL n drainF L) := Lib.hid (by unfold howK; rw [if_neg c1, if_neg c3, if_pos c5])
        subst c5
        clear FA FW FR FH c1 c3
        go_enter Tryz.func13, Tryz.ntmps13
        go_wp2_with (first
          | (refine wpList_row 52 (.tmp 3) rfl rfl w.heap.size 0 rfl #[.int .u64 ka, .int .u64 kb, .slice Al L.length cl, .slice Av es.length cv, .int .i64 last] _ hRP Tryz.underlying52 rfl (by kernel_rfl) ?_)
          | fail)
        refine FD.out.mono ?_
        rintro e w1 ⟨lv3, vv3, es3, rfl, h3a, h3b, hc1⟩
        obtain ⟨A3, n3, c3, rfl⟩ : ∃ A n c, lv3 = .slice A n c := ⟨_, _, _, (Sl.form h3a.1).choose_spec.choose_spec⟩
        obtain ⟨A4, n4, c4, rfl⟩ : ∃ A n c, vv3 = .slice A n c := ⟨_, _, _, (Sl.form h3b.1).choose_spec.choose_spec⟩
        have hR1 := HRB.out.chg hc1 (by simp)
        have HR7 := Lib.hid (And.intro h3a (And.intro h3b hc1))
        clear h3a h3b hc1 FD
        go_wp2_with (first
          | (refine wpList_store_blk rfl 52 _ _ rfl rfl hR1 rfl rfl rfl (by kernel_rfl) rfl ?_; intro w9 hB9 hc9)
          | fail)
        refine bodyPost_ret (results_blk2 rfl rfl hB9 _ Tryz.underlying52 rfl (by kernel_rfl)) rfl ?_
        obtain ⟨h3a, h3b, hc1⟩ := HR7.out
        have hC9 := (HCA.out.trans hc1).trans' hc9 (fun x hx => .inr (by simp at hx; subst hx; omega))
        rw [HK.out]
        exact ⟨_, _, es3, rfl, h3a.chgS (hc9.more (by simp)) (fun x hx => .inl (List.mem_cons_of_mem _ hx)), h3b.chgS (hc9.more (by simp)) (fun x hx => .inl (List.mem_cons_of_mem _ hx)), hC9⟩
      · by_cases c6 : k = 6
        · have HK : Hid (howK k n wt L = removeL n L) := Lib.hid (by unfold howK; rw [if_neg c1, if_neg c3, if_neg c5, if_pos c6])
          subst c6
          clear FA FW FD FH c1 c3 c5
          go_enter Tryz.func13, Tryz.ntmps13
          go_wp2_with (first
            | (refine wpList_row 52 (.tmp 3) rfl rfl w.heap.size 0 rfl #[.int .u64 ka, .int .u64 kb, .slice Al L.length cl, .slice Av es.length cv, .int .i64 last] _ hRP Tryz.underlying52 rfl (by kernel_rfl) ?_)
            | fail)
          refine FR.out.mono ?_
          rintro e w1 ⟨lv3, vv3, es3, rfl, h3a, h3b, hc1⟩
          obtain ⟨A3, n3, c3, rfl⟩ : ∃ A n c, lv3 = .slice A n c := ⟨_, _, _, (Sl.form h3a.1).choose_spec.choose_spec⟩
          obtain ⟨A4, n4, c4, rfl⟩ : ∃ A n c, vv3 = .slice A n c := ⟨_, _, _, (Sl.form h3b.1).choose_spec.choose_spec⟩
          have hR1 := HRB.out.chg hc1 (by simp)
          have HR7 := Lib.hid (And.intro h3a (And.intro h3b hc1))
          clear h3a h3b hc1 FR
          go_wp2_with (first
            | (refine wpList_store_blk rfl 52 _ _ rfl rfl hR1 rfl rfl rfl (by kernel_rfl) rfl ?_; intro w9 hB9 hc9)
            | fail)
          refine bodyPost_ret (results_blk2 rfl rfl hB9 _ Tryz.underlying52 rfl (by kernel_rfl)) rfl ?_
          obtain ⟨h3a, h3b, hc1⟩ := HR7.out
          have hC9 := (HCA.out.trans hc1).trans' hc9 (fun x hx => .inr (by simp at hx; subst hx; omega))
          rw [HK.out]
          exact ⟨_, _, es3, rfl, h3a.chgS (hc9.more (by simp)) (fun x hx => .inl (List.mem_cons_of_mem _ hx)), h3b.chgS (hc9.more (by simp)) (fun x hx => .inl (List.mem_cons_of_mem _ hx)), hC9⟩
        · have HK : Hid (howK k n wt L = oneL n (healthF (decide (k = 8))) L) := Lib.hid (by unfold howK; rw [if_neg c1, if_neg c3, if_neg c5, if_neg c6])
          have e3 : (k == 3) = false := by simpa using fun e => c3 (.inl e)
          have e4 : (k == 4) = false := by simpa using fun e => c3 (.inr e)
          have e5 : (k == 5) = false := by simpa using c5
          have e6 : (k == 6) = false := by simpa using c6
          have FH2 := Lib.hid (FH.out (k == 8))
          have HB : Hid (decide (k = 8) = (k == 8)) := Lib.hid rfl
          rw [HB.out] at HK
          clear FA FW FD FR c3 FH HB c5 c6
          by_cases c0 : 0 ≤ k
          · have c2 : ¬ k ≤ 2 := fun h => c1 ⟨c0, h⟩
            clear c1
            go_enter Tryz.func13, Tryz.ntmps13
            go_wp2_with (first
              | (refine wpList_row 52 (.tmp 3) rfl rfl w.heap.size 0 rfl #[.int .u64 ka, .int .u64 kb, .slice Al L.length cl, .slice Av es.length cv, .int .i64 last] _ hRP Tryz.underlying52 rfl (by kernel_rfl) ?_)
              | fail)
            refine FH2.out.mono ?_
            rintro e w1 ⟨lv3, vv3, es3, rfl, h3a, h3b, hc1⟩
            obtain ⟨A3, n3, c3, rfl⟩ : ∃ A n c, lv3 = .slice A n c := ⟨_, _, _, (Sl.form h3a.1).choose_spec.choose_spec⟩
            obtain ⟨A4, n4, c4, rfl⟩ : ∃ A n c, vv3 = .slice A n c := ⟨_, _, _, (Sl.form h3b.1).choose_spec.choose_spec⟩
            have hR1 := HRB.out.chg hc1 (by simp)
            have HR7 := Lib.hid (And.intro h3a (And.intro h3b hc1))
            clear h3a h3b hc1 FH2
            go_wp2_with (first
              | (refine wpList_store_blk rfl 52 _ _ rfl rfl hR1 rfl rfl rfl (by kernel_rfl) rfl ?_; intro w9 hB9 hc9)
              | fail)
            refine bodyPost_ret (results_blk2 rfl rfl hB9 _ Tryz.underlying52 rfl (by kernel_rfl)) rfl ?_
            obtain ⟨h3a, h3b, hc1⟩ := HR7.out
            have hC9 := (HCA.out.trans hc1).trans' hc9 (fun x hx => .inr (by simp at hx; subst hx; omega))
            rw [HK.out]
            exact ⟨_, _, es3, rfl, h3a.chgS (hc9.more (by simp)) (fun x hx => .inl (List.mem_cons_of_mem _ hx)), h3b.chgS (hc9.more (by simp)) (fun x hx => .inl (List.mem_cons_of_mem _ hx)), hC9⟩
          · clear c1
            skip
            go_enter Tryz.func13, Tryz.ntmps13
            go_wp2_with (first
              | (refine wpList_row 52 (.tmp 3) rfl rfl w.heap.size 0 rfl #[.int .u64 ka, .int .u64 kb, .slice Al L.length cl, .slice Av es.length cv, .int .i64 last] _ hRP Tryz.underlying52 rfl (by kernel_rfl) ?_)
              | fail)
            refine FH2.out.mono ?_
            rintro e w1 ⟨lv3, vv3, es3, rfl, h3a, h3b, hc1⟩
            obtain ⟨A3, n3, c3, rfl⟩ : ∃ A n c, lv3 = .slice A n c := ⟨_, _, _, (Sl.form h3a.1).choose_spec.choose_spec⟩
            obtain ⟨A4, n4, c4, rfl⟩ : ∃ A n c, vv3 = .slice A n c := ⟨_, _, _, (Sl.form h3b.1).choose_spec.choose_spec⟩
            have hR1 := HRB.out.chg hc1 (by simp)
            have HR7 := Lib.hid (And.intro h3a (And.intro h3b hc1))
            clear h3a h3b hc1 FH2
            go_wp2_with (first
              | (refine wpList_store_blk rfl 52 _ _ rfl rfl hR1 rfl rfl rfl (by kernel_rfl) rfl ?_; intro w9 hB9 hc9)
              | fail)
            refine bodyPost_ret (results_blk2 rfl rfl hB9 _ Tryz.underlying52 rfl (by kernel_rfl)) rfl ?_
            obtain ⟨h3a, h3b, hc1⟩ := HR7.out
            have hC9 := (HCA.out.trans hc1).trans' hc9 (fun x hx => .inr (by simp at hx; subst hx; omega))
            rw [HK.out]
            exact ⟨_, _, es3, rfl, h3a.chgS (hc9.more (by simp)) (fun x hx => .inl (List.mem_cons_of_mem _ hx)), h3b.chgS (hc9.more (by simp)) (fun x hx => .inl (List.mem_cons_of_mem _ hx)), hC9⟩
end Go.Proofs.YtecblclpchndiaaGreat
namespace Go.Proofs.YtecblclpchndiaaGreat
open Go.RowKit

/-- What a row of versions holds in memory. -/
def VRow (w : World) (v : Value) (V : List Vs) : Prop := ∃ es, Sl w 0 4 v es.length (es.flatMap encV) ∧ VesR w [] es V
theorem VRow.chg0 {w w' : World} {v : Value} {V : List Vs} (h : VRow w v V) (hc : Chg [] w w') : VRow w' v V := by
  obtain ⟨es, a, b⟩ := h
  exact ⟨es, Sl.chg0 a hc, b.step hc (by simp)⟩
theorem VRow.form {w : World} {v : Value} {V : List Vs} (h : VRow w v V) : ∃ A c, v = .slice A V.length c := by
  obtain ⟨es, a, b⟩ := h
  obtain ⟨A, c, e⟩ := Sl.form a
  exact ⟨A, c, by rw [e, b.1]⟩
theorem VRow.at_ {w : World} {v : Value} {V : List Vs} (h : VRow w v V) {i : Nat} {x : Vs} (hx : V[i]? = some x) :
    ∃ b o c T tc, v = .slice (some ⟨b, o, none⟩) V.length c ∧ V.length ≤ c ∧ w.cell? ⟨b, o + i * 4, none⟩ = some (.int .i64 x.num) ∧ w.cell? ⟨b, o + i * 4 + 1, none⟩ = some (.int .i64 x.frm) ∧
      w.cell? ⟨b, o + i * 4 + 2, none⟩ = some (.int .i64 x.unt) ∧ w.cell? ⟨b, o + i * 4 + 3, none⟩ = some (.slice T x.tab.length tc) ∧ SlZ w 0 (.slice T x.tab.length tc) x.tab := by
  obtain ⟨es, a, hv⟩ := h
  have hi : i < V.length := (List.getElem?_eq_some_iff.1 hx).1
  have hl := hv.1
  have he : es[i]? = some (es[i]'(by omega)) := List.getElem?_eq_getElem _
  have hr := hv.2 i _ x he hx
  obtain ⟨b, o, c, hvv, _, hc, hq⟩ := Sl.rec encV_len (by omega) a he
  obtain ⟨T, tc, et⟩ := Sl.form hr.tab.1
  rw [hl] at hvv hc
  refine ⟨b, o, c, T, tc, hvv, hc, ?_, ?_, ?_, ?_, by rw [← et]; exact hr.tab.1⟩
  · have := hq 0 (by omega); rw [Nat.add_zero] at this; rw [this, ← hr.num]; rfl
  · have := hq 1 (by omega); rw [← Nat.add_assoc] at this; rw [this, ← hr.frm]; rfl
  · have := hq 2 (by omega); rw [← Nat.add_assoc] at this; rw [this, ← hr.unt]; rfl
  · have := hq 3 (by omega); rw [← Nat.add_assoc] at this; rw [this, ← et]; rfl

set_option maxRecDepth 100000 in
set_option maxHeartbeats 4000000 in
theorem vers35_any {w : World} {va vb : Value} {V : List Vs} (ha : VRow w va V) (hb : VRow w vb V) (hok : OkV V) :
    Calls Tryz.prog 16 #[va, vb] w fun e w' => e = .returned (.bool true) ∧ Chg [] w w' := by
  obtain ⟨A, ca, rfl⟩ := ha.form
  obtain ⟨B, cb, rfl⟩ := hb.form
  have HSA := Lib.hid (fun W (hW : Chg [] w W) i x hx => (ha.chg0 hW).at_ (i := i) (x := x) hx)
  have HSB := Lib.hid (fun W (hW : Chg [] w W) i x hx => (hb.chg0 hW).at_ (i := i) (x := x) hx)
  have HX : Hid (∀ i, i < V.length → ∃ x, V[i]? = some x ∧ x.tab.length ≤ 300) := Lib.hid fun i hi => ⟨_, List.getElem?_eq_getElem hi, hok.tab _ (List.getElem_mem _)⟩
  have hlen := hok.len
  clear ha hb hok
  generalize hn : V.length = n at *
  go_enter Tryz.func16, Tryz.ntmps16
  go_wp2_with fail
  go_loopw [5] (fun iv wr => ∃ (k : Nat), k ≤ n ∧ iv = .int .i64 k ∧ Hid (Chg [] w wr)) (fun iv _ => n - (intOf iv).toNat)
  case atStart => exact ⟨0, by omega, rfl, Lib.hid (Chg.refl _ _)⟩
  case round =>
    obtain ⟨k, hk, rfl, HC⟩ := hrel
    by_cases hlt : k < n
    · have hcn : (k : Int) < (n : Int) := by omega
      obtain ⟨x, hx, hxl⟩ := HX.out k hlt
      obtain ⟨b, o, c1, T, tc, hv1, hcap1, a0, a1, a2, a3, at_⟩ := HSA.out wr HC.out k x hx
      obtain ⟨b2, o2, c2, T2, tc2, hv2, hcap2, b0, b1, b2', b3, bt⟩ := HSB.out wr HC.out k x hx
      simp only [hn, Value.slice.injEq, true_and] at hv1 hv2
      obtain ⟨rfl, rfl⟩ := hv1
      obtain ⟨rfl, rfl⟩ := hv2
      obtain ⟨num, frm, unt, tab⟩ := x
      simp only at a0 a1 a2 a3 at_ b0 b1 b2' b3 bt hxl
      have HA0 := Lib.hid (fun W (hW : Chg [] wr W) => hW.cell a0 (by simp))
      have HA1 := Lib.hid (fun W (hW : Chg [] wr W) => hW.cell a1 (by simp))
      have HA2 := Lib.hid (fun W (hW : Chg [] wr W) => hW.cell a2 (by simp))
      have HA3 := Lib.hid (fun W (hW : Chg [] wr W) => hW.cell a3 (by simp))
      have HB0 := Lib.hid (fun W (hW : Chg [] wr W) => hW.cell b0 (by simp))
      have HB1 := Lib.hid (fun W (hW : Chg [] wr W) => hW.cell b1 (by simp))
      have HB2 := Lib.hid (fun W (hW : Chg [] wr W) => hW.cell b2' (by simp))
      have HB3 := Lib.hid (fun W (hW : Chg [] wr W) => hW.cell b3 (by simp))
      have FI : Hid (∀ W, Chg [] wr W → Calls Tryz.prog 11 #[.slice T tab.length tc, .slice T2 tab.length tc2] W fun e w' => e = .returned (.bool true) ∧ Chg [] wr w') := Lib.hid fun W hW =>
        (ints20_any (at_.chg0 hW) (bt.chg0 hW) (by omega)).mono fun e w' h => ⟨by rw [h.1]; simp, hW.trans h.2⟩
      clear a0 a1 a2 a3 at_ b0 b1 b2' b3 bt hx hxl HX HSA HSB hn
      go_upto_region 6 with fail
      refine wp_region_chg (by kernel_rfl) (by kernel_rfl) ?_
      (with_reducible refine wpQuiet_pure (v := ?_) ?_ (fun w => ?_) ?_); rotate_left; (focus rfl); (focus (go_simp <;> with_reducible rfl)); (try simp only [List.getElem_toArray, List.getElem_cons_succ, List.getElem_cons_zero, Act.put, List.setIfInBounds_toArray, List.set_cons_zero, List.set_cons_succ])
      (with_reducible refine wpQuiet_pure (v := ?_) ?_ (fun w => ?_) ?_); rotate_left; (focus rfl); (focus (go_simp <;> with_reducible rfl)); (try simp only [List.getElem_toArray, List.getElem_cons_succ, List.getElem_cons_zero, Act.put, List.setIfInBounds_toArray, List.set_cons_zero, List.set_cons_succ])
      (with_reducible refine wpQuiet_pure (v := ?_) ?_ (fun w => ?_) ?_); rotate_left; (focus rfl); (focus (go_simp <;> with_reducible rfl)); (try simp only [List.getElem_toArray, List.getElem_cons_succ, List.getElem_cons_zero, Act.put, List.setIfInBounds_toArray, List.set_cons_zero, List.set_cons_succ])
      (with_reducible refine wpQuiet_pure (v := ?_) ?_ (fun w => ?_) ?_); rotate_left; (focus rfl); (focus (go_simp <;> with_reducible rfl)); (try simp only [List.getElem_toArray, List.getElem_cons_succ, List.getElem_cons_zero, Act.put, List.setIfInBounds_toArray, List.set_cons_zero, List.set_cons_succ])
      (with_reducible refine wpQuiet_cellC 3 (.tmp 20) ?_ ?_ b (o + k * 4) ?_ (.int .i64 num) _ HA0.out Tryz.underlying3 ?_ ?_); (focus rfl); (focus rfl); (focus rfl); (focus rfl); (try simp only [List.getElem_toArray, List.getElem_cons_succ, List.getElem_cons_zero, Act.put, List.setIfInBounds_toArray, List.set_cons_zero, List.set_cons_succ])
      (with_reducible refine wpQuiet_pure (v := ?_) ?_ (fun w => ?_) ?_); rotate_left; (focus rfl); (focus (go_simp <;> with_reducible rfl)); (try simp only [List.getElem_toArray, List.getElem_cons_succ, List.getElem_cons_zero, Act.put, List.setIfInBounds_toArray, List.set_cons_zero, List.set_cons_succ])
      (with_reducible refine wpQuiet_pure (v := ?_) ?_ (fun w => ?_) ?_); rotate_left; (focus rfl); (focus (go_simp <;> with_reducible rfl)); (try simp only [List.getElem_toArray, List.getElem_cons_succ, List.getElem_cons_zero, Act.put, List.setIfInBounds_toArray, List.set_cons_zero, List.set_cons_succ])
      (with_reducible refine wpQuiet_pure (v := ?_) ?_ (fun w => ?_) ?_); rotate_left; (focus rfl); (focus (go_simp <;> with_reducible rfl)); (try simp only [List.getElem_toArray, List.getElem_cons_succ, List.getElem_cons_zero, Act.put, List.setIfInBounds_toArray, List.set_cons_zero, List.set_cons_succ])
      (with_reducible refine wpQuiet_pure (v := ?_) ?_ (fun w => ?_) ?_); rotate_left; (focus rfl); (focus (go_simp <;> with_reducible rfl)); (try simp only [List.getElem_toArray, List.getElem_cons_succ, List.getElem_cons_zero, Act.put, List.setIfInBounds_toArray, List.set_cons_zero, List.set_cons_succ])
      (with_reducible refine wpQuiet_cellC 3 (.tmp 25) ?_ ?_ b2 (o2 + k * 4) ?_ (.int .i64 num) _ HB0.out Tryz.underlying3 ?_ ?_); (focus rfl); (focus rfl); (focus rfl); (focus rfl); (try simp only [List.getElem_toArray, List.getElem_cons_succ, List.getElem_cons_zero, Act.put, List.setIfInBounds_toArray, List.set_cons_zero, List.set_cons_succ])
      (with_reducible refine wpQuiet_pure (v := ?_) ?_ (fun w => ?_) ?_); rotate_left; (focus rfl); (focus (go_simp <;> with_reducible rfl)); (try simp only [List.getElem_toArray, List.getElem_cons_succ, List.getElem_cons_zero, Act.put, List.setIfInBounds_toArray, List.set_cons_zero, List.set_cons_succ])
      (with_reducible refine wpQuiet_pure (v := ?_) ?_ (fun w => ?_) ?_); rotate_left; (focus rfl); (focus (go_simp <;> with_reducible rfl)); (try simp only [List.getElem_toArray, List.getElem_cons_succ, List.getElem_cons_zero, Act.put, List.setIfInBounds_toArray, List.set_cons_zero, List.set_cons_succ])
      (with_reducible refine wpQuiet_pure (v := ?_) ?_ (fun w => ?_) ?_); rotate_left; (focus rfl); (focus (go_simp <;> with_reducible rfl)); (try simp only [List.getElem_toArray, List.getElem_cons_succ, List.getElem_cons_zero, Act.put, List.setIfInBounds_toArray, List.set_cons_zero, List.set_cons_succ])
      (with_reducible refine wpQuiet_pure (v := ?_) ?_ (fun w => ?_) ?_); rotate_left; (focus rfl); (focus (go_simp <;> with_reducible rfl)); (try simp only [List.getElem_toArray, List.getElem_cons_succ, List.getElem_cons_zero, Act.put, List.setIfInBounds_toArray, List.set_cons_zero, List.set_cons_succ])
      (with_reducible refine wpQuiet_pure (v := ?_) ?_ (fun w => ?_) ?_); rotate_left; (focus rfl); (focus (go_simp <;> with_reducible rfl)); (try simp only [List.getElem_toArray, List.getElem_cons_succ, List.getElem_cons_zero, Act.put, List.setIfInBounds_toArray, List.set_cons_zero, List.set_cons_succ])
      (with_reducible refine wpQuiet_pure (v := ?_) ?_ (fun w => ?_) ?_); rotate_left; (focus rfl); (focus (go_simp <;> with_reducible rfl)); (try simp only [List.getElem_toArray, List.getElem_cons_succ, List.getElem_cons_zero, Act.put, List.setIfInBounds_toArray, List.set_cons_zero, List.set_cons_succ])
      (with_reducible refine wpQuiet_cellC 3 (.tmp 32) ?_ ?_ b (o + k * 4 + 1) ?_ (.int .i64 frm) _ HA1.out Tryz.underlying3 ?_ ?_); (focus rfl); (focus rfl); (focus rfl); (focus rfl); (try simp only [List.getElem_toArray, List.getElem_cons_succ, List.getElem_cons_zero, Act.put, List.setIfInBounds_toArray, List.set_cons_zero, List.set_cons_succ])
      (with_reducible refine wpQuiet_pure (v := ?_) ?_ (fun w => ?_) ?_); rotate_left; (focus rfl); (focus (go_simp <;> with_reducible rfl)); (try simp only [List.getElem_toArray, List.getElem_cons_succ, List.getElem_cons_zero, Act.put, List.setIfInBounds_toArray, List.set_cons_zero, List.set_cons_succ])
      (with_reducible refine wpQuiet_pure (v := ?_) ?_ (fun w => ?_) ?_); rotate_left; (focus rfl); (focus (go_simp <;> with_reducible rfl)); (try simp only [List.getElem_toArray, List.getElem_cons_succ, List.getElem_cons_zero, Act.put, List.setIfInBounds_toArray, List.set_cons_zero, List.set_cons_succ])
      (with_reducible refine wpQuiet_pure (v := ?_) ?_ (fun w => ?_) ?_); rotate_left; (focus rfl); (focus (go_simp <;> with_reducible rfl)); (try simp only [List.getElem_toArray, List.getElem_cons_succ, List.getElem_cons_zero, Act.put, List.setIfInBounds_toArray, List.set_cons_zero, List.set_cons_succ])
      (with_reducible refine wpQuiet_pure (v := ?_) ?_ (fun w => ?_) ?_); rotate_left; (focus rfl); (focus (go_simp <;> with_reducible rfl)); (try simp only [List.getElem_toArray, List.getElem_cons_succ, List.getElem_cons_zero, Act.put, List.setIfInBounds_toArray, List.set_cons_zero, List.set_cons_succ])
      (with_reducible refine wpQuiet_cellC 3 (.tmp 37) ?_ ?_ b2 (o2 + k * 4 + 1) ?_ (.int .i64 frm) _ HB1.out Tryz.underlying3 ?_ ?_); (focus rfl); (focus rfl); (focus rfl); (focus rfl); (try simp only [List.getElem_toArray, List.getElem_cons_succ, List.getElem_cons_zero, Act.put, List.setIfInBounds_toArray, List.set_cons_zero, List.set_cons_succ])
      (with_reducible refine wpQuiet_pure (v := ?_) ?_ (fun w => ?_) ?_); rotate_left; (focus rfl); (focus (go_simp <;> with_reducible rfl)); (try simp only [List.getElem_toArray, List.getElem_cons_succ, List.getElem_cons_zero, Act.put, List.setIfInBounds_toArray, List.set_cons_zero, List.set_cons_succ])
      (with_reducible refine wpQuiet_pure (v := ?_) ?_ (fun w => ?_) ?_); rotate_left; (focus rfl); (focus (go_simp <;> with_reducible rfl)); (try simp only [List.getElem_toArray, List.getElem_cons_succ, List.getElem_cons_zero, Act.put, List.setIfInBounds_toArray, List.set_cons_zero, List.set_cons_succ])
      (with_reducible refine wpQuiet_pure (v := ?_) ?_ (fun w => ?_) ?_); rotate_left; (focus rfl); (focus (go_simp <;> with_reducible rfl)); (try simp only [List.getElem_toArray, List.getElem_cons_succ, List.getElem_cons_zero, Act.put, List.setIfInBounds_toArray, List.set_cons_zero, List.set_cons_succ])
      (with_reducible refine wpQuiet_pure (v := ?_) ?_ (fun w => ?_) ?_); rotate_left; (focus rfl); (focus (go_simp <;> with_reducible rfl)); (try simp only [List.getElem_toArray, List.getElem_cons_succ, List.getElem_cons_zero, Act.put, List.setIfInBounds_toArray, List.set_cons_zero, List.set_cons_succ])
      (with_reducible refine wpQuiet_pure (v := ?_) ?_ (fun w => ?_) ?_); rotate_left; (focus rfl); (focus (go_simp <;> with_reducible rfl)); (try simp only [List.getElem_toArray, List.getElem_cons_succ, List.getElem_cons_zero, Act.put, List.setIfInBounds_toArray, List.set_cons_zero, List.set_cons_succ])
      (with_reducible refine wpQuiet_pure (v := ?_) ?_ (fun w => ?_) ?_); rotate_left; (focus rfl); (focus (go_simp <;> with_reducible rfl)); (try simp only [List.getElem_toArray, List.getElem_cons_succ, List.getElem_cons_zero, Act.put, List.setIfInBounds_toArray, List.set_cons_zero, List.set_cons_succ])
      (with_reducible refine wpQuiet_pure (v := ?_) ?_ (fun w => ?_) ?_); rotate_left; (focus rfl); (focus (go_simp <;> with_reducible rfl)); (try simp only [List.getElem_toArray, List.getElem_cons_succ, List.getElem_cons_zero, Act.put, List.setIfInBounds_toArray, List.set_cons_zero, List.set_cons_succ])
      (with_reducible refine wpQuiet_cellC 3 (.tmp 45) ?_ ?_ b (o + k * 4 + 2) ?_ (.int .i64 unt) _ HA2.out Tryz.underlying3 ?_ ?_); (focus rfl); (focus rfl); (focus rfl); (focus rfl); (try simp only [List.getElem_toArray, List.getElem_cons_succ, List.getElem_cons_zero, Act.put, List.setIfInBounds_toArray, List.set_cons_zero, List.set_cons_succ])
      (with_reducible refine wpQuiet_pure (v := ?_) ?_ (fun w => ?_) ?_); rotate_left; (focus rfl); (focus (go_simp <;> with_reducible rfl)); (try simp only [List.getElem_toArray, List.getElem_cons_succ, List.getElem_cons_zero, Act.put, List.setIfInBounds_toArray, List.set_cons_zero, List.set_cons_succ])
      (with_reducible refine wpQuiet_pure (v := ?_) ?_ (fun w => ?_) ?_); rotate_left; (focus rfl); (focus (go_simp <;> with_reducible rfl)); (try simp only [List.getElem_toArray, List.getElem_cons_succ, List.getElem_cons_zero, Act.put, List.setIfInBounds_toArray, List.set_cons_zero, List.set_cons_succ])
      (with_reducible refine wpQuiet_pure (v := ?_) ?_ (fun w => ?_) ?_); rotate_left; (focus rfl); (focus (go_simp <;> with_reducible rfl)); (try simp only [List.getElem_toArray, List.getElem_cons_succ, List.getElem_cons_zero, Act.put, List.setIfInBounds_toArray, List.set_cons_zero, List.set_cons_succ])
      (with_reducible refine wpQuiet_pure (v := ?_) ?_ (fun w => ?_) ?_); rotate_left; (focus rfl); (focus (go_simp <;> with_reducible rfl)); (try simp only [List.getElem_toArray, List.getElem_cons_succ, List.getElem_cons_zero, Act.put, List.setIfInBounds_toArray, List.set_cons_zero, List.set_cons_succ])
      (with_reducible refine wpQuiet_cellC 3 (.tmp 50) ?_ ?_ b2 (o2 + k * 4 + 2) ?_ (.int .i64 unt) _ HB2.out Tryz.underlying3 ?_ ?_); (focus rfl); (focus rfl); (focus rfl); (focus rfl); (try simp only [List.getElem_toArray, List.getElem_cons_succ, List.getElem_cons_zero, Act.put, List.setIfInBounds_toArray, List.set_cons_zero, List.set_cons_succ])
      (with_reducible refine wpQuiet_pure (v := ?_) ?_ (fun w => ?_) ?_); rotate_left; (focus rfl); (focus (go_simp <;> with_reducible rfl)); (try simp only [List.getElem_toArray, List.getElem_cons_succ, List.getElem_cons_zero, Act.put, List.setIfInBounds_toArray, List.set_cons_zero, List.set_cons_succ])
      (with_reducible refine wpQuiet_pure (v := ?_) ?_ (fun w => ?_) ?_); rotate_left; (focus rfl); (focus (go_simp <;> with_reducible rfl)); (try simp only [List.getElem_toArray, List.getElem_cons_succ, List.getElem_cons_zero, Act.put, List.setIfInBounds_toArray, List.set_cons_zero, List.set_cons_succ])
      (with_reducible refine wpQuiet_pure (v := ?_) ?_ (fun w => ?_) ?_); rotate_left; (focus rfl); (focus (go_simp <;> with_reducible rfl)); (try simp only [List.getElem_toArray, List.getElem_cons_succ, List.getElem_cons_zero, Act.put, List.setIfInBounds_toArray, List.set_cons_zero, List.set_cons_succ])
      (with_reducible refine wpQuiet_pure (v := ?_) ?_ (fun w => ?_) ?_); rotate_left; (focus rfl); (focus (go_simp <;> with_reducible rfl)); (try simp only [List.getElem_toArray, List.getElem_cons_succ, List.getElem_cons_zero, Act.put, List.setIfInBounds_toArray, List.set_cons_zero, List.set_cons_succ])
      (with_reducible refine wpQuiet_pure (v := ?_) ?_ (fun w => ?_) ?_); rotate_left; (focus rfl); (focus (go_simp <;> with_reducible rfl)); (try simp only [List.getElem_toArray, List.getElem_cons_succ, List.getElem_cons_zero, Act.put, List.setIfInBounds_toArray, List.set_cons_zero, List.set_cons_succ])
      (with_reducible refine wpQuiet_pure (v := ?_) ?_ (fun w => ?_) ?_); rotate_left; (focus rfl); (focus (go_simp <;> with_reducible rfl)); (try simp only [List.getElem_toArray, List.getElem_cons_succ, List.getElem_cons_zero, Act.put, List.setIfInBounds_toArray, List.set_cons_zero, List.set_cons_succ])
      (with_reducible refine wpQuiet_pure (v := ?_) ?_ (fun w => ?_) ?_); rotate_left; (focus rfl); (focus (go_simp <;> with_reducible rfl)); (try simp only [List.getElem_toArray, List.getElem_cons_succ, List.getElem_cons_zero, Act.put, List.setIfInBounds_toArray, List.set_cons_zero, List.set_cons_succ])
      (with_reducible refine wpQuiet_cellC 38 (.tmp 58) ?_ ?_ b (o + k * 4 + 3) ?_ (.slice T tab.length tc) _ HA3.out Tryz.underlying38 ?_ ?_); (focus rfl); (focus rfl); (focus rfl); (focus rfl); (try simp only [List.getElem_toArray, List.getElem_cons_succ, List.getElem_cons_zero, Act.put, List.setIfInBounds_toArray, List.set_cons_zero, List.set_cons_succ])
      (with_reducible refine wpQuiet_pure (v := ?_) ?_ (fun w => ?_) ?_); rotate_left; (focus rfl); (focus (go_simp <;> with_reducible rfl)); (try simp only [List.getElem_toArray, List.getElem_cons_succ, List.getElem_cons_zero, Act.put, List.setIfInBounds_toArray, List.set_cons_zero, List.set_cons_succ])
      (with_reducible refine wpQuiet_pure (v := ?_) ?_ (fun w => ?_) ?_); rotate_left; (focus rfl); (focus (go_simp <;> with_reducible rfl)); (try simp only [List.getElem_toArray, List.getElem_cons_succ, List.getElem_cons_zero, Act.put, List.setIfInBounds_toArray, List.set_cons_zero, List.set_cons_succ])
      (with_reducible refine wpQuiet_pure (v := ?_) ?_ (fun w => ?_) ?_); rotate_left; (focus rfl); (focus (go_simp <;> with_reducible rfl)); (try simp only [List.getElem_toArray, List.getElem_cons_succ, List.getElem_cons_zero, Act.put, List.setIfInBounds_toArray, List.set_cons_zero, List.set_cons_succ])
      (with_reducible refine wpQuiet_pure (v := ?_) ?_ (fun w => ?_) ?_); rotate_left; (focus rfl); (focus (go_simp <;> with_reducible rfl)); (try simp only [List.getElem_toArray, List.getElem_cons_succ, List.getElem_cons_zero, Act.put, List.setIfInBounds_toArray, List.set_cons_zero, List.set_cons_succ])
      (with_reducible refine wpQuiet_cellC 38 (.tmp 63) ?_ ?_ b2 (o2 + k * 4 + 3) ?_ (.slice T2 tab.length tc2) _ HB3.out Tryz.underlying38 ?_ ?_); (focus rfl); (focus rfl); (focus rfl); (focus rfl); (try simp only [List.getElem_toArray, List.getElem_cons_succ, List.getElem_cons_zero, Act.put, List.setIfInBounds_toArray, List.set_cons_zero, List.set_cons_succ])
      (with_reducible refine wpQuiet_do ?_ (fun K hK => ?_)); (focus rfl); go_simp; (apply Exists.intro); (refine ⟨fun W hW => FI.out W hW, hK _ ?_⟩); (clear hK K); (try simp only [List.getElem_toArray, List.getElem_cons_succ, List.getElem_cons_zero, Act.put, List.setIfInBounds_toArray, List.set_cons_zero, List.set_cons_succ])
      (with_reducible refine wpQuiet_pure (v := ?_) ?_ (fun w => ?_) ?_); rotate_left; (focus rfl); (focus (go_simp <;> with_reducible rfl)); (try simp only [List.getElem_toArray, List.getElem_cons_succ, List.getElem_cons_zero, Act.put, List.setIfInBounds_toArray, List.set_cons_zero, List.set_cons_succ])
      (with_reducible refine wpQuiet_pure (v := ?_) ?_ (fun w => ?_) ?_); rotate_left; (focus rfl); (focus (go_simp <;> with_reducible rfl)); (try simp only [List.getElem_toArray, List.getElem_cons_succ, List.getElem_cons_zero, Act.put, List.setIfInBounds_toArray, List.set_cons_zero, List.set_cons_succ])
      refine wpQuiet_nil ?_
      intro w9 hc9
      have HC9 := Lib.hid (HC.out.trans hc9)
      clear hc9 HA0 HA1 HA2 HA3 HB0 HB1 HB2 HB3 FI HC
      go_wp2_with fail
      go_roundw
      case rel => exact ⟨k + 1, by omega, by go_num, HC9⟩
      case measure => simp [intOf] <;> omega
    · obtain rfl : k = n := by omega
      have hcn : ¬ (k : Int) < (k : Int) := by omega
      clear HX HSA HSB
      go_wp2_with fail
      go_ret
      exact ⟨rfl, HC.out⟩
end Go.Proofs.YtecblclpchndiaaGreat
namespace Go.Proofs.YtecblclpchndiaaGreat
open Go.RowKit Go.Maps Go.WideMaps Go.WideShapes

/-- Each table has 61 slots. -/
def L61 (V : List Vs) : Prop := ∀ y ∈ V, y.tab.length = 61
theorem pushV_61 {V : List Vs} (h : L61 V) (last now : Int) {t : List Int} (ht : t.length = 61) : L61 (pushV V last now t) := fun x hx => by
  unfold pushV at hx
  rcases List.mem_append.1 hx with hx | hx
  · have hs : ∀ z ∈ (if 4 ≤ V.length then V.drop 1 else V), z.tab.length = 61 := fun z hz => by
      split at hz
      · exact h z (List.mem_of_mem_drop hz)
      · exact h z hz
    rcases closeV_mem hx with hx | ⟨y, hy, rfl⟩
    · exact hs x hx
    · exact hs y hy
  · simp at hx
    subst hx
    exact ht
theorem chP_61 {ka kb now : Int} {s : PS} {r : Int × List Bk} (h : L61 s.V) : L61 (chP ka kb now s r).2.V := by
  unfold chP
  split
  · exact h
  · unfold setP
    split
    · exact h
    · split
      · exact h
      · exact pushV_61 h _ _ (tabP_len _ _ _)
/-- A small block is no table's. -/
theorem SlZ.not_small {w : World} {B Q : Nat} {v : Value} {l : List Int} {t : TypeId} {cs : Array Value} (h : SlZ w B v l) (hl : l.length = 61) (hQ : Blk w Q t cs) (hs : cs.size = 5) : ∀ g ∈ v.ownBlock.toList, g ≠ Q := fun g hg e => by
  obtain ⟨b, o, c, rfl, _, _, _, hc⟩ := SlZ.all h (by omega)
  simp [Value.ownBlock] at hg
  subst hg e
  have h1 := hc 60 (by omega)
  rw [hQ.cell, Array.getElem?_eq_none (by omega)] at h1
  cases h1
theorem VesR.keepQ {w w' : World} {S : List Nat} {es : List Ve} {V : List Vs} {Q : Nat} {t : TypeId} {cs : Array Value} (h : VesR w S es V) (h61 : L61 V) (hQ : Blk w Q t cs) (hs : cs.size = 5) (hc : Chg [Q] w w') : VesR w' S es V := by
  refine ⟨h.1, fun i e x a b => ?_⟩
  have hv := h.2 i e x a b
  refine ⟨hv.num, hv.frm, hv.unt, Sl.chgB hv.tab.1 hc (fun g hg hm => ?_), hv.tab.2.step hc.size (fun x hx => .inl hx)⟩
  simp at hm
  exact SlZ.not_small hv.tab.1 (h61 x (List.mem_of_getElem? b)) hQ hs g hg hm
theorem PlR.keepQ {w w' : World} {N p hp : Nat} {ka kb : Int} {lv rv : Value} {S : List Nat} {es : List Ve} {s : PS} {Q : Nat} {t : TypeId} {cs : Array Value} (h : PlR w N p hp ka kb lv rv S es s) (h61 : L61 s.V) (hQ : Blk w Q t cs) (hs : cs.size = 5) (hQS : Q ∉ S) (hc : Chg [Q] w w') :
    PlR w' N p hp ka kb lv rv S es s :=
  ⟨h.blk.chg hc (fun hm => hQS (by simp at hm; subst hm; exact h.pS)), own_chg h.row hc (fun x hx e => by simp at e; subst e; exact hQS (h.lS _ hx)),
    ⟨h.his.blk.chg hc (fun hm => hQS (by simp at hm; subst hm; exact h.his.foot _ (List.mem_cons_self ..))), own_chg h.his.row hc (fun x hx e => by simp at e; subst e; exact hQS (h.his.foot _ (List.mem_cons_of_mem _ hx))), h.his.apart, h.his.foot, h.his.low, h.his.vers.keepQ h61 hQ hs hc⟩,
    h.pS, h.lS, h.pf, h.pl, h.lf, h.low, fun x hx => Nat.lt_of_lt_of_le (h.sl x hx) hc.size⟩
theorem PlR.less {w : World} {N N' p hp : Nat} {ka kb : Int} {lv rv : Value} {S : List Nat} {es : List Ve} {s : PS} (h : PlR w N p hp ka kb lv rv S es s) (hN : N' ≤ N) : PlR w N' p hp ka kb lv rv S es s :=
  ⟨h.blk, own_less h.row hN, ⟨h.his.blk, own_less h.his.row hN, h.his.apart, h.his.foot, Nat.le_trans hN h.his.low, h.his.vers⟩, h.pS, h.lS, h.pf, h.pl, h.lf, Nat.le_trans hN h.low, h.sl⟩
@[reducible] def arrP (ka kb : Int) (lv vv : Value) (last : Int) : Array Value := #[.int .u64 ka, .int .u64 kb, lv, vv, .int .i64 last]
/-- A pool and the document's one behind k changes. -/
structure StQ (wb wr : World) (p hp Q : Nat) (ka kb : Int) (k : Nat) (now : Int) (s : PS) (S : List Nat) (lvR vvR : Value) (esR : List Ve) : Prop where
  mem : ∃ lv rv es, PlR wr wb.heap.size p hp ka kb lv rv S es s
  low : ∀ x ∈ S, wb.heap.size ≤ x
  blk : Blk wr Q 52 (arrP ka kb lvR vvR s.last)
  rl : RB wr (Q :: S) lvR s.L
  rvs : RV2 wr (Q :: S) vvR esR s.V
  qs : Q ∉ S
  qb : wb.heap.size ≤ Q
  ok : OkS s now
  v61 : L61 s.V
  num : s.last ≤ k
  tick : 0 ≤ now ∧ now ≤ 1000 * k
  chg : Chg [] wb wr
theorem StQ.chg0 {wb wr w' : World} {p hp Q : Nat} {ka kb : Int} {k : Nat} {now : Int} {s : PS} {S : List Nat} {lvR vvR : Value} {esR : List Ve} (h : StQ wb wr p hp Q ka kb k now s S lvR vvR esR) (hc : Chg [] wr w') : StQ wb w' p hp Q ka kb k now s S lvR vvR esR := by
  obtain ⟨lv, rv, es, h1⟩ := h.mem
  exact ⟨⟨lv, rv, es, h1.chg0 hc⟩, h.low, h.blk.chg hc (by simp), h.rl.chg0 hc, h.rvs.chg0 hc, h.qs, h.qb, h.ok, h.v61, h.num, h.tick, h.chg.trans hc⟩
theorem StQ.st {wb wr : World} {p hp Q : Nat} {ka kb : Int} {k : Nat} {now : Int} {s : PS} {S : List Nat} {lvR vvR : Value} {esR : List Ve} (h : StQ wb wr p hp Q ka kb k now s S lvR vvR esR) : StP wb wr p hp ka kb k now s := by
  obtain ⟨lv, rv, es, h1⟩ := h.mem
  exact ⟨⟨lv, rv, S, es, h1, h.low⟩, h.ok, h.num, h.tick, h.chg⟩
/-- The document's change. -/
theorem ref_st {wb wr W : World} {p hp Q : Nat} {ka kb : Int} {k : Nat} {now : Int} {s : PS} {S : List Nat} {lvR vvR : Value} {esR : List Ve} (h : StQ wb wr p hp Q ka kb k now s S lvR vvR esR) (hW : Chg [] wr W) (hk : k ≤ 30) (o : PO) (E : List Nat) (hE : ∀ x ∈ E, wr.heap.size ≤ x ∧ x < W.heap.size) :
    Calls Tryz.prog 13 #[.agg (arrP ka kb lvR vvR s.last), .int .i64 (now + laterF o.later), .agg (arrO o)] W fun e w' => RfR W w' (E ++ Q :: S) ka kb (chP ka kb (now + laterF o.later) s (howO o s.L)) e := by
  obtain ⟨lv, rv, es, h1⟩ := h.mem
  have hl := laterF_le o.later
  have ht := h.tick
  have hnum := h.num
  have h0 := h.ok.last
  have hQ := h.blk.lt
  have hx : ∀ x ∈ E ++ Q :: S, x ∈ Q :: S ∨ wr.heap.size ≤ x := fun x hx => by
    rcases List.mem_append.1 hx with hx | hx
    · exact .inr (hE x hx).1
    · exact .inl hx
  exact ref35_any (fun x hx => by
    have := hW.size
    rcases List.mem_append.1 hx with hx | hx
    · exact (hE x hx).2
    · rcases List.mem_cons.1 hx with rfl | hx
      · omega
      · have := h1.sl x hx; omega) (h.rl.chgS (hW.more (by simp)) hx) (h.rvs.chgS (hW.more (by simp)) hx) h.ok.bk h.ok.vs (by omega) (by omega) o
/-- The change itself, where the document's one is made already: at w3 its new state lies in Q. -/
theorem do_sq {wb wr w3 : World} {p hp Q : Nat} {ka kb : Int} {k : Nat} {now : Int} {s : PS} {S : List Nat} {lvR vvR lv' vv' : Value} {esR es' : List Ve} (h : StQ wb wr p hp Q ka kb k now s S lvR vvR esR) (hk : k ≤ 30) (o : PO) (ho : I64 o.node) (hc : Chg [Q] wr w3)
    (hb : Blk w3 Q 52 (arrP ka kb lv' vv' (chP ka kb (now + laterF o.later) s (howO o s.L)).2.last)) (hl' : RB w3 (Q :: S) lv' (chP ka kb (now + laterF o.later) s (howO o s.L)).2.L) (hv' : RV2 w3 (Q :: S) vv' es' (chP ka kb (now + laterF o.later) s (howO o s.L)).2.V) :
    Calls Tryz.prog 7 #[.pointer (some ⟨p, 0, none⟩), .int .i64 (now + laterF o.later), .agg (arrO o)] w3 fun e w' => e = .returned (.int .i64 (chP ka kb (now + laterF o.later) s (howO o s.L)).1) ∧ ∃ S', StQ wb w' p hp Q ka kb (k + 1) (now + laterF o.later) (chP ka kb (now + laterF o.later) s (howO o s.L)).2 S' lv' vv' es' := by
  obtain ⟨lv, rv, es, h1⟩ := h.mem
  have h3 := h1.keepQ h.v61 h.blk rfl h.qs hc
  have hl := laterF_le o.later
  have ht := h.tick
  have hnum := h.num
  have hQ := h.blk.lt
  have hbw : Chg [] wb w3 := h.chg.trans' hc (fun x hx => .inr (by simp at hx; subst hx; exact h.qb))
  refine (do35_any h3 hbw.size (now + laterF o.later) (h.ok.later (by omega)) (by omega) (by omega) o ho).mono ?_
  rintro e w' ⟨lv2, rv2, S', es2, rfl, q1, q2, q3⟩
  obtain ⟨c1, c2⟩ := chP_ok (ka := ka) (kb := kb) (now := now + laterF o.later) (k := k) (r := howO o s.L) (h.ok.later (by omega)) (howK_ok h.ok.bk) (by omega) hnum (by omega)
  have hT : ∀ x ∈ p :: footH hp rv, x ∈ S := fun x hx => by
    rcases List.mem_cons.1 hx with rfl | hx
    · exact h1.pS
    · exact h1.his.foot x hx
  have hQ3 := hb.lt
  have hT2 : ∀ x ∈ p :: footH hp rv, x ∈ Q :: S := fun x hx => List.mem_cons_of_mem _ (hT x hx)
  have hS' : ∀ x ∈ Q :: S', x ∈ Q :: S ∨ w3.heap.size ≤ x := fun x hx => by
    rcases List.mem_cons.1 hx with rfl | hx
    · exact .inl (List.mem_cons_self ..)
    · exact (q3 x hx).imp (fun h => List.mem_cons_of_mem _ h) id
  refine ⟨rfl, S', ⟨lv2, rv2, es2, q1⟩, fun x hx => ?_, hb.chg q2 (fun hm => h.qs (hT _ hm)), hl'.chgS (q2.more hT2) hS', hv'.chgS (q2.more hT2) hS', fun hm => ?_, h.qb, c1, chP_61 h.v61, by omega, by omega, hbw.trans' q2 (fun x hx => .inr (h.low x (hT x hx)))⟩
  · rcases q3 x hx with h4 | h4
    · exact h.low x h4
    · exact Nat.le_trans hbw.size h4
  · rcases q3 _ hm with h4 | h4
    · exact h.qs h4
    · omega
/-- Two pools without backends. -/
theorem init_sq {wb w2 w3 : World} {p hp Q : Nat} {ka kb : Int} {cs : Array Value} (h : PlR w2 wb.heap.size p hp ka kb (.slice none 0 0) (.slice none 0 0) [p, hp] [] ⟨[], [], 0⟩) (hlp : wb.heap.size ≤ p) (hlh : wb.heap.size ≤ hp) (hQ : Blk w2 Q 52 cs) (hs : cs.size = 5) (hQp : Q ≠ p) (hQh : Q ≠ hp) (hQb : wb.heap.size ≤ Q)
    (hc : Chg [] wb w2) (h3 : Blk w3 Q 52 (arrP ka kb (.slice none 0 0) (.slice none 0 0) 0)) (hc3 : Chg [Q] w2 w3) : StQ wb w3 p hp Q ka kb 0 0 ⟨[], [], 0⟩ [p, hp] (.slice none 0 0) (.slice none 0 0) [] :=
  ⟨⟨_, _, _, h.keepQ (by intro y hy; simp at hy) hQ hs (by simp [hQp, hQh]) hc3⟩, by intro x hx; simp at hx; omega, h3, ⟨Sl.nil _ _ _, by intro g hg; simp [Value.ownBlock] at hg⟩, ⟨Sl.nil _ _ _, by intro g hg; simp [Value.ownBlock] at hg, ⟨rfl, by intro i e x a b; simp at a⟩⟩,
    by simp [hQp, hQh], hQb, okS0 0, by intro y hy; simp at hy, by simp, by simp, hc.trans' hc3 (fun x hx => .inr (by simp at hx; subst hx; exact hQb))⟩

/-! '==' of two pairs. -/
def litsP (x : Int × Int) : List Lit := [.int .i64 x.1, .int .i64 x.2]
def okP (x : Int × Int) : Prop := (Lit.int .i64 x.1).wf = true ∧ (Lit.int .i64 x.2).wf = true
set_option maxRecDepth 100000 in
theorem kl_p {d : Nat} {x : Int × Int} (h : okP x) : Tryz.prog.keyLits (d + 2) 62 (encP x) = some (litsP x) := by
  have hc : Tryz.prog.cellsOf 62 = 2 := by kernel_rfl
  have hc1 : Tryz.prog.cellsOf 3 = 1 := by kernel_rfl
  unfold Program.keyLits
  simp only [Tryz.underlying62]
  rw [if_pos (by rw [hc]; rfl), hc1]
  have e : (List.range 2).mapM (fun i => Tryz.prog.keyLits (d + 1) 3 (((encP x).drop (i * 1)).take 1)) = some [[Lit.int .i64 x.1], [Lit.int .i64 x.2]] := by
    have h0 : ((encP x).drop (0 * 1)).take 1 = [.int .i64 x.1] := rfl
    have h1 : ((encP x).drop (1 * 1)).take 1 = [.int .i64 x.2] := rfl
    have hr : List.range 2 = [0, 1] := rfl
    rw [hr, List.mapM_cons, List.mapM_cons, List.mapM_nil, h0, h1, kl_int h.1, kl_int h.2]
    rfl
  rw [e]
  rfl
def keyP2 (x : Int × Int) : Lit := .string (keyBytes (litsP x))
theorem key_p {x : Int × Int} (h : okP x) : keyOf Tryz.prog 62 (.agg #[.int .i64 x.1, .int .i64 x.2]) = some (keyP2 x) := by
  have hk : Tryz.prog.keyType 62 = true := by kernel_rfl
  have hc : Tryz.prog.cellsOf 62 = 2 := by kernel_rfl
  obtain ⟨d, hd⟩ := typesThree
  unfold keyOf
  simp only [Tryz.underlying62]
  rw [if_pos (by simp [hk, Value.formed, Tryz.underlying62, hc]), hd]
  have := kl_p (d := d) h
  have e : (Value.agg #[.int .i64 x.1, .int .i64 x.2]).cells.toList = encP x := rfl
  rw [e, this]; rfl
theorem eq_p2 (w : World) {x : Int × Int} (hx : okP x) : (Op.equalIn 10000 62 (.agg #[.int .i64 x.1, .int .i64 x.2]) (.agg #[.int .i64 x.1, .int .i64 x.2])).run Tryz.prog w = .ok true w := by
  obtain ⟨r, hr, hi⟩ := run_equal_deep w (m := 4) (by omega) (k := 62) (by kernel_rfl) (by kernel_rfl) (key_p hx) (key_p hx)
  rw [hi.2 rfl] at hr
  exact hr
end Go.Proofs.YtecblclpchndiaaGreat
