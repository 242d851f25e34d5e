/-
  WALK: FlowtabPlays. Condition: the arguments read as data.
-/
import Derived.Test.YtldgdpekhjignaaGreatFrB
set_option linter.unusedVariables false
set_option linter.unusedSimpArgs false
namespace Go.Proofs.YtldgdpekhjignaaGreat.Ft
open Go.RowKit Go.Maps

set_option maxRecDepth 100000 in
set_option maxHeartbeats 8000000 in
theorem plays26 {a ka kb : Int} {A : Option Addr} {cap : Nat} {ops : List Op6} {w : World} (ha : (Lit.int .i64 a).wf = true) (hs : SlO6 w 0 (.slice A ops.length cap) ops) (hm : ops.length ≤ maxLen) (hok : ∀ x ∈ ops, okO6 x) :
    Calls Tryz.prog 5 #[.int .i64 a, .agg #[.int .u64 ka, .int .u64 kb], .slice A ops.length cap] w fun r w' => r = .returned (.bool true) ∧ Chg [] w w' := by
  have hA := (Chg.refl [] w).alloc (.cells #[.int .u64 ka, .int .u64 kb] 24)
  have hB : Blk (w.alloc (.cells #[.int .u64 ka, .int .u64 kb] 24)) w.heap.size 24 #[.int .u64 ka, .int .u64 kb] := Blk.new _ _ _
  have HI := Lib.hid (And.intro hA hB)
  have hr := hB.rangeQ
  have LV := Lib.hid lives26
  by_cases hbad : a < 1 ∨ 64 < a
  · have FN := Lib.hid (fun W => new_no a ka kb W hbad)
    clear hs hok hA hB
    rcases (show a < 1 ∨ (¬ a < 1 ∧ 64 < a) by omega) with h1 | ⟨h1, h2⟩
    all_goals
      clear hbad
      go_enter Tryz.func5, Tryz.ntmps5
      go_wp2_with (first
        | (refine wpList_row 24 (.tmp 4) rfl rfl w.heap.size 0 rfl #[.int .u64 ka, .int .u64 kb] _ hr Tryz.underlying24 rfl infKey ?_)
        | fail)
      refine (FN.out _).mono ?_
      rintro r w1 ⟨rfl, hc1⟩
      have HC1 := Lib.hid (HI.out.1.trans hc1)
      clear hc1 hr
      go_wp2_with fail
      refine (LV.out _).mono ?_
      rintro r w2 ⟨rfl, hc2⟩
      have HC2 := Lib.hid (HC1.out.trans hc2)
      clear hc2
      go_wp2_with fail
      go_ret
      exact ⟨rfl, HC2.out⟩
  obtain ⟨n, rfl⟩ : ∃ n : Nat, a = n := ⟨a.toNat, by omega⟩
  have hlo : 1 ≤ n := by omega
  have hhi : n ≤ 64 := by omega
  have FN := Lib.hid (new_any n ka kb (w.alloc (.cells #[.int .u64 ka, .int .u64 kb] 24)) hlo hhi)
  have HS := Lib.hid (fun W (hc : Chg [] w W) i o (hi : ops[i]? = some o) => sl_rec (Sl.chg0 hs hc) hi)
  have HOK := Lib.hid hok
  have hszA := hA.size
  clear hs hok hA hB hbad ha
  go_enter Tryz.func5, Tryz.ntmps5
  go_wp2_with (first
    | (refine wpList_row 24 (.tmp 4) rfl rfl w.heap.size 0 rfl #[.int .u64 ka, .int .u64 kb] _ hr Tryz.underlying24 rfl infKey ?_)
    | fail)
  refine FN.out.mono ?_
  rintro r w1 ⟨tb, F0, rfl, hT1, hc1, hF1⟩
  have hPA : PJ w w1 tb n 0 F0 ⟨0, [], ⟨0, 0, 0, 0, 0, 0⟩⟩ (.slice none 0 0) := ⟨hT1, RL.nil _, HI.out.1.trans hc1, fun x hx => by have := hF1 x hx; omega⟩
  have HP1 := Lib.hid (hPA.chg0 ((Chg.refl [] w1).alloc (.cells (arrR 0 0 (.slice none 0 0) ⟨0, 0, 0, 0, 0, 0⟩) 51)))
  have hB1 : Blk (w1.alloc (.cells (arrR 0 0 (.slice none 0 0) ⟨0, 0, 0, 0, 0, 0⟩) 51)) w1.heap.size 51 (arrR 0 0 (.slice none 0 0) ⟨0, 0, 0, 0, 0, 0⟩) := Blk.new _ _ _
  have hw8 : w.heap.size ≤ w1.heap.size := hPA.ch.size
  clear hT1 hc1 hF1 FN hr HI hszA hPA
  generalize hNN : ops.length = N at *
  have hNm : N ≤ maxLen := hm
  go_upto_region 7 with (first
    | (refine wpList_store_blk (vs := arrR n 0 (.slice none 0 0) ⟨0, 0, 0, 0, 0, 0⟩) rfl 51 (.tmp 8) (.tmp 32) rfl rfl hB1 rfl rfl rfl infR arrR_one ?_; intro w2 hB2 hc2)
    | fail)
  have HP2 := Lib.hid (HP1.out.at_ hB1 hw8 hc2)
  have HB2 := Lib.hid hB2
  clear hB2 hc2 hB1 HP1
  generalize hg8 : w1.heap.size = g8 at *
  have HG8 : Hid (w.heap.size ≤ g8) := Lib.hid hw8
  clear hw8 hg8
  go_wp2_with fail
  go_loopw [9] (fun iv wr => ∃ (i : Nat) (F : List Nat) (s : Sx) (v : Value), i ≤ N ∧ i ≤ 100 ∧ iv = .int .i64 i ∧ Hid (PJ w wr tb n i F s v) ∧ Hid (bK (64 * i) s.c ∧ 0 ≤ s.now ∧ s.now ≤ i) ∧ Hid (Blk wr g8 51 (arrR n s.now v s.c))) (fun iv _ => 100 - (intOf iv).toNat)
  case atStart => exact ⟨0, F0, _, _, by omega, by omega, rfl, HP2, Lib.hid ⟨⟨by simp, by simp, by simp, by simp, by simp, by simp⟩, by simp, by simp⟩, HB2⟩
  case round =>
    clear HP2 HB2
    obtain ⟨i, F, s, v, hiN, hi100, rfl, HP, HK, HB8⟩ := hrel
    by_cases hlt : i < N ∧ i < 100
    · obtain ⟨hi1, hi2⟩ := hlt
      have hiI : (i : Int) < 100 := by omega
      have hox : ops[i]? = some (ops[i]'(by omega)) := List.getElem?_eq_getElem _
      generalize (ops[i]'(by omega)) = o at hox
      have hoo := HOK.out o (List.mem_of_getElem? hox)
      obtain ⟨A', cp', rfl⟩ := HP.out.rl.form
      obtain ⟨b, off, c', hv, hcc, hro⟩ := HS.out wr HP.out.ch i o hox
      simp only [Value.slice.injEq] at hv
      obtain ⟨rfl, _, rfl⟩ := hv
      have FC := Lib.hid (fun W (hW : Chg [] wr W) => rcall_any (HP.out.chg0 hW).ft (HP.out.chg0 hW).rl hoo HK.out.2.1 (by have := HK.out.2.2; omega) (by omega) (HK.out.1.bC (by omega)))
      clear hi100 hcc
      generalize hMM : s.L.length = M at *
      have HMM := Lib.hid hMM
      clear hMM
      go_upto_region 10 with fail
      go_cut [10, 11] (fun v10 v11 wx => ∃ (g10 : Nat) (F' : List Nat) (v' : Value), v10 = .pointer (some ⟨g10, 0, none⟩) ∧ v11 = .bool true ∧ Hid (PJ w wx tb n (i + 1) F' (doS n s o).1 v') ∧ Hid (Blk wx g8 51 (arrR n s.now (.slice A' M cp') s.c)) ∧ Hid (Blk wx g10 51 (arrR n (doS n s o).1.now v' (doS n s o).1.c)))
      case first =>
        have hS0 : (fun W : World => Blk W g8 51 (arrR n s.now (.slice A' M cp') s.c) ∧ W.rangeAt b (off + i * 36) (arrO o).toList) wr.drew := ⟨HB8.out.drew, rangeAt_chg hro (Chg.refl [] wr).drew (by simp)⟩
        have HS1 : ∀ W : World, (fun W : World => Blk W g8 51 (arrR n s.now (.slice A' M cp') s.c) ∧ W.rangeAt b (off + i * 36) (arrO o).toList) W → W.rangeAt g8 0 (arrR n s.now (.slice A' M cp') s.c).toList := fun W h => h.1.rangeQ
        have HS2 : ∀ W : World, (fun W : World => Blk W g8 51 (arrR n s.now (.slice A' M cp') s.c) ∧ W.rangeAt b (off + i * 36) (arrO o).toList) W → W.rangeAt b (off + i * 36) (arrO o).toList := fun W h => h.2
        have HPd := Lib.hid (HP.out.chg0 (Chg.refl [] wr).drew)
        have FCd := Lib.hid (FC.out _ (Chg.refl [] wr).drew)
        refine wp_region_noPanic ?_
        refine wp_region_held_drew (S := fun W : World => Blk W g8 51 (arrR n s.now (.slice A' M cp') s.c) ∧ W.rangeAt b (off + i * 36) (arrO o).toList) (by kernel_rfl) hS0 (fun _ => ?_)
        refine wpAnyH_take (i := 0) (v := ?_) rfl (by kernel_rfl) (by kernel_rfl) (by kernel_rfl) (fun _ _ _ h => h) (yields_pure (by rfl) (fun w => ?_)) (by with_reducible assumption) ?_
        rotate_left
        · (go_simp <;> with_reducible rfl)
        try simp only [List.getElem_toArray, List.getElem_cons_succ, List.getElem_cons_zero, Act.put, List.setIfInBounds_toArray, List.set_cons_zero, List.set_cons_succ]
        refine wpAnyH_take (i := 1) rfl (by kernel_rfl) (by kernel_rfl) (by kernel_rfl) (fun _ _ _ h => h) (yields_row (by rfl) 51 (.tmp 8) rfl g8 0 rfl (arrR n s.now (.slice A' M cp') s.c) _ HS1 Tryz.underlying51 rfl infR) (by with_reducible assumption) ?_
        try simp only [List.getElem_toArray, List.getElem_cons_succ, List.getElem_cons_zero, Act.put, List.setIfInBounds_toArray, List.set_cons_zero, List.set_cons_succ]
        refine wpAnyH_take (i := 2) (v := ?_) rfl (by kernel_rfl) (by kernel_rfl) (by kernel_rfl) (fun _ _ _ h => h) (yields_pure (by rfl) (fun w => ?_)) (by with_reducible assumption) ?_
        rotate_left
        · (go_simp <;> with_reducible rfl)
        try simp only [List.getElem_toArray, List.getElem_cons_succ, List.getElem_cons_zero, Act.put, List.setIfInBounds_toArray, List.set_cons_zero, List.set_cons_succ]
        refine wpAnyH_take (i := 3) (v := ?_) rfl (by kernel_rfl) (by kernel_rfl) (by kernel_rfl) (fun _ _ _ h => h) (yields_pure (by rfl) (fun w => ?_)) (by with_reducible assumption) ?_
        rotate_left
        · (go_simp <;> with_reducible rfl)
        try simp only [List.getElem_toArray, List.getElem_cons_succ, List.getElem_cons_zero, Act.put, List.setIfInBounds_toArray, List.set_cons_zero, List.set_cons_succ]
        refine wpAnyH_take (i := 4) (v := ?_) rfl (by kernel_rfl) (by kernel_rfl) (by kernel_rfl) (fun _ _ _ h => h) (yields_pure (by rfl) (fun w => ?_)) (by with_reducible assumption) ?_
        rotate_left
        · (go_simp <;> with_reducible rfl)
        try simp only [List.getElem_toArray, List.getElem_cons_succ, List.getElem_cons_zero, Act.put, List.setIfInBounds_toArray, List.set_cons_zero, List.set_cons_succ]
        refine wpAnyH_take (i := 5) rfl (by kernel_rfl) (by kernel_rfl) (by kernel_rfl) (fun _ _ _ h => h) (yields_row (by rfl) 40 (.tmp 50) rfl b (off + i * 36) rfl (arrO o) _ HS2 Tryz.underlying40 rfl infO) (by with_reducible assumption) ?_
        try simp only [List.getElem_toArray, List.getElem_cons_succ, List.getElem_cons_zero, Act.put, List.setIfInBounds_toArray, List.set_cons_zero, List.set_cons_succ]
        refine wpAnyH_ready (rs := [6, 10]) (by kernel_rfl) (by simp) (AllReadyH.cons rfl (fun K hK => ?_) (AllReadyH.cons rfl (fun K hK => ?_) AllReadyH.nil))
        · go_simp
          refine FCd.out.mono ?_
          rintro e w3 ⟨v3, rfl, hr3, hT3⟩
          obtain ⟨A3, cp3, rfl⟩ := hr3.form
          obtain ⟨F3, hP3⟩ := HPd.out.call hT3 hr3
          have hS3 : (fun W : World => Blk W g8 51 (arrR n s.now (.slice A' M cp') s.c) ∧ W.rangeAt b (off + i * 36) (arrO o).toList) w3 := by
            obtain ⟨b3, o3, c3, hv3, _, hro3⟩ := HS.out w3 hP3.ch i o hox
            simp only [Value.slice.injEq, Option.some.injEq, Addr.mk.injEq, true_and, and_true] at hv3
            obtain ⟨⟨rfl, rfl⟩, rfl⟩ := hv3
            exact ⟨HPd.out.blk hT3 hS0.1, hro3⟩
          clear hr3 hT3
          refine hK.out _ _ (by with_reducible assumption) (fun _ => ?_)
          clear hK K
          try simp only [List.getElem_toArray, List.getElem_cons_succ, List.getElem_cons_zero, Act.put, List.setIfInBounds_toArray, List.set_cons_zero, List.set_cons_succ]
          refine wpAnyH_take (i := 7) (v := ?_) rfl (by kernel_rfl) (by kernel_rfl) (by kernel_rfl) (fun _ _ _ h => h) (yields_pure (by rfl) (fun w => ?_)) (by with_reducible assumption) ?_
          rotate_left
          · (go_simp <;> with_reducible rfl)
          try simp only [List.getElem_toArray, List.getElem_cons_succ, List.getElem_cons_zero, Act.put, List.setIfInBounds_toArray, List.set_cons_zero, List.set_cons_succ]
          refine wpAnyH_take (i := 8) (v := ?_) rfl (by kernel_rfl) (by kernel_rfl) (by kernel_rfl) (fun _ _ _ h => h) (yields_pure (by rfl) (fun w => ?_)) (by with_reducible assumption) ?_
          rotate_left
          · (go_simp <;> with_reducible rfl)
          try simp only [List.getElem_toArray, List.getElem_cons_succ, List.getElem_cons_zero, Act.put, List.setIfInBounds_toArray, List.set_cons_zero, List.set_cons_succ]
          refine wpAnyH_take (i := 9) (v := ?_) rfl (by kernel_rfl) (by kernel_rfl) (by kernel_rfl) (fun _ _ _ h => h) (yields_pure (by rfl) (fun w => ?_)) (by with_reducible assumption) ?_
          rotate_left
          · (go_simp <;> with_reducible rfl)
          try simp only [List.getElem_toArray, List.getElem_cons_succ, List.getElem_cons_zero, Act.put, List.setIfInBounds_toArray, List.set_cons_zero, List.set_cons_succ]
          refine wpAnyH_ready (rs := [10]) (by kernel_rfl) (by simp) (AllReadyH.cons rfl (fun K hK => ?_) AllReadyH.nil)
          refine step_run (v := .pointer (some ⟨w3.heap.size, 0, none⟩)) (w' := w3.alloc (.cells (arrR 0 0 (.slice none 0 0) ⟨0, 0, 0, 0, 0, 0⟩) 51)) rfl (by go_simp <;> rfl) ?_
          have hcA : Chg [] w3 (w3.alloc (.cells (arrR 0 0 (.slice none 0 0) ⟨0, 0, 0, 0, 0, 0⟩) 51)) := (Chg.refl [] w3).alloc _
          have hS4 : (fun W : World => Blk W g8 51 (arrR n s.now (.slice A' M cp') s.c) ∧ W.rangeAt b (off + i * 36) (arrO o).toList) (w3.alloc (.cells (arrR 0 0 (.slice none 0 0) ⟨0, 0, 0, 0, 0, 0⟩) 51)) := ⟨hS3.1.chg hcA (by simp), rangeAt_chg hS3.2 hcA (by simp)⟩
          have hB4 : Blk (w3.alloc (.cells (arrR 0 0 (.slice none 0 0) ⟨0, 0, 0, 0, 0, 0⟩) 51)) w3.heap.size 51 (arrR 0 0 (.slice none 0 0) ⟨0, 0, 0, 0, 0, 0⟩) := Blk.new _ _ _
          have hne : w3.heap.size ≠ g8 ∧ w3.heap.size ≠ b := ⟨by have := hS3.1.lt; omega, by have := op_lt hS3.2; omega⟩
          refine hK.out _ _ (by with_reducible assumption) (fun _ => ?_)
          clear hK K
          try simp only [List.getElem_toArray, List.getElem_cons_succ, List.getElem_cons_zero, Act.put, List.setIfInBounds_toArray, List.set_cons_zero, List.set_cons_succ]
          refine wpAnyH_ready (rs := [11]) (by kernel_rfl) (by simp) (AllReadyH.cons rfl (fun K hK => ?_) AllReadyH.nil)
          refine step_store_blk (vs := arrR n (doS n s o).1.now (.slice A3 (doS n s o).1.L.length cp3) (doS n s o).1.c) rfl 51 (.tmp 10) (.tmp 53) rfl hB4 rfl rfl rfl infR arrR_one ?_
          intro w5 hB5 hc5
          have hP5 := (hP3.chg0 hcA).at_ hB4 hP3.ch.size hc5
          have hS5 : (fun W : World => Blk W g8 51 (arrR n s.now (.slice A' M cp') s.c) ∧ W.rangeAt b (off + i * 36) (arrO o).toList) w5 := ⟨hS4.1.chg hc5 (fun hm => hne.1 (List.mem_singleton.1 hm).symm), rangeAt_chg hS4.2 hc5 (fun hm => hne.2 (List.mem_singleton.1 hm).symm)⟩
          refine hK.out _ _ (by with_reducible assumption) (fun _ => ?_)
          clear hK K
          try simp only [List.getElem_toArray, List.getElem_cons_succ, List.getElem_cons_zero, Act.put, List.setIfInBounds_toArray, List.set_cons_zero, List.set_cons_succ]
          refine wpAnyH_take (i := 12) (v := ?_) rfl (by kernel_rfl) (by kernel_rfl) (by kernel_rfl) (fun _ _ _ h => h) (yields_pure (by rfl) (fun w => ?_)) (by with_reducible assumption) ?_
          rotate_left
          · (go_simp <;> with_reducible rfl)
          try simp only [List.getElem_toArray, List.getElem_cons_succ, List.getElem_cons_zero, Act.put, List.setIfInBounds_toArray, List.set_cons_zero, List.set_cons_succ]
          refine wpAnyH_done (by kernel_rfl) ?_ _
          refine NoPanic.normal ?_
          go_wp2_with fail
          go_meet
          exact ⟨_, F3, _, rfl, rfl, Lib.hid hP5, Lib.hid hS5.1, Lib.hid hB5⟩
        · refine step_run (v := .pointer (some ⟨wr.drew.heap.size, 0, none⟩)) (w' := wr.drew.alloc (.cells (arrR 0 0 (.slice none 0 0) ⟨0, 0, 0, 0, 0, 0⟩) 51)) rfl (by go_simp <;> rfl) ?_
          have hcA : Chg [] wr.drew (wr.drew.alloc (.cells (arrR 0 0 (.slice none 0 0) ⟨0, 0, 0, 0, 0, 0⟩) 51)) := (Chg.refl [] wr.drew).alloc _
          have hS4 : (fun W : World => Blk W g8 51 (arrR n s.now (.slice A' M cp') s.c) ∧ W.rangeAt b (off + i * 36) (arrO o).toList) (wr.drew.alloc (.cells (arrR 0 0 (.slice none 0 0) ⟨0, 0, 0, 0, 0, 0⟩) 51)) := ⟨hS0.1.chg hcA (by simp), rangeAt_chg hS0.2 hcA (by simp)⟩
          have hB4 : Blk (wr.drew.alloc (.cells (arrR 0 0 (.slice none 0 0) ⟨0, 0, 0, 0, 0, 0⟩) 51)) wr.drew.heap.size 51 (arrR 0 0 (.slice none 0 0) ⟨0, 0, 0, 0, 0, 0⟩) := Blk.new _ _ _
          have hne : wr.drew.heap.size ≠ g8 ∧ wr.drew.heap.size ≠ b := ⟨by have := hS0.1.lt; omega, by have := op_lt hS0.2; omega⟩
          have hP4 := HPd.out.chg0 hcA
          have hgA := HPd.out.ch.size
          have FC4 := Lib.hid (FC.out _ ((Chg.refl [] wr).drew.trans hcA))
          refine hK.out _ _ (by with_reducible assumption) (fun _ => ?_)
          clear hK K
          try simp only [List.getElem_toArray, List.getElem_cons_succ, List.getElem_cons_zero, Act.put, List.setIfInBounds_toArray, List.set_cons_zero, List.set_cons_succ]
          refine wpAnyH_ready (rs := [6]) (by kernel_rfl) (by simp) (AllReadyH.cons rfl (fun K hK => ?_) AllReadyH.nil)
          go_simp
          refine FC4.out.mono ?_
          rintro e w3 ⟨v3, rfl, hr3, hT3⟩
          obtain ⟨A3, cp3, rfl⟩ := hr3.form
          obtain ⟨F3, hP3⟩ := hP4.call hT3 hr3
          have hS3 : (fun W : World => Blk W g8 51 (arrR n s.now (.slice A' M cp') s.c) ∧ W.rangeAt b (off + i * 36) (arrO o).toList) w3 := by
            obtain ⟨b3, o3, c3, hv3, _, hro3⟩ := HS.out w3 hP3.ch i o hox
            simp only [Value.slice.injEq, Option.some.injEq, Addr.mk.injEq, true_and, and_true] at hv3
            obtain ⟨⟨rfl, rfl⟩, rfl⟩ := hv3
            exact ⟨hP4.blk hT3 hS4.1, hro3⟩
          have hB3 := hP4.blk hT3 hB4
          clear hr3 hT3
          refine hK.out _ _ (by with_reducible assumption) (fun _ => ?_)
          clear hK K
          try simp only [List.getElem_toArray, List.getElem_cons_succ, List.getElem_cons_zero, Act.put, List.setIfInBounds_toArray, List.set_cons_zero, List.set_cons_succ]
          refine wpAnyH_take (i := 7) (v := ?_) rfl (by kernel_rfl) (by kernel_rfl) (by kernel_rfl) (fun _ _ _ h => h) (yields_pure (by rfl) (fun w => ?_)) (by with_reducible assumption) ?_
          rotate_left
          · (go_simp <;> with_reducible rfl)
          try simp only [List.getElem_toArray, List.getElem_cons_succ, List.getElem_cons_zero, Act.put, List.setIfInBounds_toArray, List.set_cons_zero, List.set_cons_succ]
          refine wpAnyH_take (i := 8) (v := ?_) rfl (by kernel_rfl) (by kernel_rfl) (by kernel_rfl) (fun _ _ _ h => h) (yields_pure (by rfl) (fun w => ?_)) (by with_reducible assumption) ?_
          rotate_left
          · (go_simp <;> with_reducible rfl)
          try simp only [List.getElem_toArray, List.getElem_cons_succ, List.getElem_cons_zero, Act.put, List.setIfInBounds_toArray, List.set_cons_zero, List.set_cons_succ]
          refine wpAnyH_take (i := 9) (v := ?_) rfl (by kernel_rfl) (by kernel_rfl) (by kernel_rfl) (fun _ _ _ h => h) (yields_pure (by rfl) (fun w => ?_)) (by with_reducible assumption) ?_
          rotate_left
          · (go_simp <;> with_reducible rfl)
          try simp only [List.getElem_toArray, List.getElem_cons_succ, List.getElem_cons_zero, Act.put, List.setIfInBounds_toArray, List.set_cons_zero, List.set_cons_succ]
          refine wpAnyH_ready (rs := [11]) (by kernel_rfl) (by simp) (AllReadyH.cons rfl (fun K hK => ?_) AllReadyH.nil)
          refine step_store_blk (vs := arrR n (doS n s o).1.now (.slice A3 (doS n s o).1.L.length cp3) (doS n s o).1.c) rfl 51 (.tmp 10) (.tmp 53) rfl hB3 rfl rfl rfl infR arrR_one ?_
          intro w5 hB5 hc5
          have hP5 := hP3.at_ hB3 hgA hc5
          have hS5 : (fun W : World => Blk W g8 51 (arrR n s.now (.slice A' M cp') s.c) ∧ W.rangeAt b (off + i * 36) (arrO o).toList) w5 := ⟨hS3.1.chg hc5 (fun hm => hne.1 (List.mem_singleton.1 hm).symm), rangeAt_chg hS3.2 hc5 (fun hm => hne.2 (List.mem_singleton.1 hm).symm)⟩
          refine hK.out _ _ (by with_reducible assumption) (fun _ => ?_)
          clear hK K
          try simp only [List.getElem_toArray, List.getElem_cons_succ, List.getElem_cons_zero, Act.put, List.setIfInBounds_toArray, List.set_cons_zero, List.set_cons_succ]
          refine wpAnyH_take (i := 12) (v := ?_) rfl (by kernel_rfl) (by kernel_rfl) (by kernel_rfl) (fun _ _ _ h => h) (yields_pure (by rfl) (fun w => ?_)) (by with_reducible assumption) ?_
          rotate_left
          · (go_simp <;> with_reducible rfl)
          try simp only [List.getElem_toArray, List.getElem_cons_succ, List.getElem_cons_zero, Act.put, List.setIfInBounds_toArray, List.set_cons_zero, List.set_cons_succ]
          refine wpAnyH_done (by kernel_rfl) ?_ _
          refine NoPanic.normal ?_
          go_wp2_with fail
          go_meet
          exact ⟨_, F3, _, rfl, rfl, Lib.hid hP5, Lib.hid hS5.1, Lib.hid hB5⟩
      case rest =>
        obtain ⟨g10, F3, v3, rfl, rfl, HP3, HB8c, HB10⟩ := hcut
        obtain ⟨hb3, hnw3a, hnw3b⟩ := do_bound (n := n) (s := s) (o := o) (N := 64 * i) (by have := HP.out.ft.len; omega) HK.out.1
        have HK3 : Hid (bK (64 * ((i + 1 : Nat) : Int)) (doS n s o).1.c ∧ 0 ≤ (doS n s o).1.now ∧ (doS n s o).1.now ≤ ((i + 1 : Nat) : Int)) := Lib.hid ⟨hb3.more (by omega), by have := HK.out.2; omega, by have := HK.out.2; omega⟩
        clear hb3 hnw3a hnw3b HK HP HB8 FC hro
        generalize hD : (doS n s o).1 = s3 at *
        clear hD
        obtain ⟨A3, cp3, rfl⟩ := HP3.out.rl.form
        have hrq := HB10.out.rangeQ
        have HB8d := HB8c.out
        have FA := Lib.hid (fun W (hW : Chg [] wc W) => all_any (HP3.out.chg0 hW).ft)
        go_upto_region 12 with (first
          | (refine wpList_row 51 (.tmp 10) rfl rfl g10 0 rfl (arrR n s3.now (.slice A3 s3.L.length cp3) s3.c) _ hrq Tryz.underlying51 rfl infR ?_)
          | (refine wpList_store_blk (vs := arrR n s3.now (.slice A3 s3.L.length cp3) s3.c) rfl 51 (.tmp 8) (.tmp 55) rfl rfl HB8d rfl rfl rfl infR arrR_one ?_; intro w5 hB5 hc5)
          | fail)
        have HP5 := Lib.hid (HP3.out.at_ HB8d HG8.out hc5)
        have HB5 := Lib.hid hB5
        have FA := Lib.hid (all_any HP5.out.ft)
        clear hB5 hc5 HP3 HB8d HB8c HB10 hrq
        go_wp2_with fail
        refine FA.out.mono ?_
        rintro r w6 ⟨v6, rfl, hown, hc6⟩
        obtain ⟨A6, cp6, hv6⟩ := Sl.form (Sl.of_own hown)
        subst hv6
        have HP6 := Lib.hid (HP5.out.chg0 hc6)
        have HB6 := Lib.hid (HB5.out.chg hc6 (by simp))
        have HR6 := Lib.hid (fun W (hc : Chg [] w6 W) j e (hj : s3.L[j]? = some e) => row_fl ((Sl.of_own hown).chg0 hc) hj)
        clear hown hc6 FA HP5 HB5
        have hM64 : s3.L.length ≤ 64 := by have := HP6.out.ft.len; omega
        generalize hM3 : s3.L.length = M3 at *
        have HM3 := Lib.hid hM3
        clear hM3
        have FLn : Hid (∀ W, Chg [] w6 W → Calls Tryz.prog 9 #[.pointer (some ⟨tb, 0, none⟩)] W fun e w' => e = .returned (.int .i64 (M3 : Int)) ∧ Chg [] w6 w') := Lib.hid (fun W hW => (len_any (HP6.out.chg0 hW).ft).mono (by
          rintro e w' ⟨rfl, rfl⟩
          exact ⟨by rw [HM3.out], hW⟩))
        have FCp : Hid (∀ W, Chg [] w6 W → Calls Tryz.prog 15 #[.pointer (some ⟨tb, 0, none⟩)] W fun e w' => e = .returned (.int .i64 (n : Int)) ∧ Chg [] w6 w') := Lib.hid (fun W hW => (cap_any (HP6.out.chg0 hW).ft).mono (by
          rintro e w' ⟨rfl, rfl⟩
          exact ⟨rfl, hW⟩))
        have FCn : Hid (∀ W, Chg [] w6 W → Calls Tryz.prog 10 #[.pointer (some ⟨tb, 0, none⟩)] W fun e w' => e = .returned (.agg (arrC' s3.c)) ∧ Chg [] w6 w') := Lib.hid (fun W hW => (counts_any (HP6.out.chg0 hW).ft).mono (by
          rintro e w' ⟨rfl, hc⟩
          exact ⟨rfl, hW.trans hc⟩))
        have R2 : Hid (∀ W, Chg [] w6 W → W.cell? ⟨g8, 2, none⟩ = some (.slice A3 M3 cp3)) := Lib.hid (fun W hc => (HB6.out.chg hc (by simp)).cell 2)
        have R3 : Hid (∀ W, Chg [] w6 W → W.rangeAt g8 3 (arrC' s3.c).toList) := Lib.hid (fun W hc => cn_row (HB6.out.chg hc (by simp)))
        have hwc : wfC s3.c := HK3.out.1.wf (by omega)
        have hE1 := fun W => eq_cn W hwc hwc
        rw [show decide (s3.c = s3.c) = true by simp] at hE1
        clear hwc
        go_upto_region 13 with fail
        refine wp_region_chg (by kernel_rfl) (by kernel_rfl) ?_
        (with_reducible refine wpQuiet_pure (v := ?_) ?_ (fun w => ?_) ?_); rotate_left; (focus rfl); (focus (go_simp <;> with_reducible rfl)); (try simp only [List.getElem_toArray, List.getElem_cons_succ, List.getElem_cons_zero, Act.put, List.setIfInBounds_toArray, List.set_cons_zero, List.set_cons_succ])
        (with_reducible refine wpQuiet_pure (v := ?_) ?_ (fun w => ?_) ?_); rotate_left; (focus rfl); (focus (go_simp <;> with_reducible rfl)); (try simp only [List.getElem_toArray, List.getElem_cons_succ, List.getElem_cons_zero, Act.put, List.setIfInBounds_toArray, List.set_cons_zero, List.set_cons_succ])
        (with_reducible refine wpQuiet_pure (v := ?_) ?_ (fun w => ?_) ?_); rotate_left; (focus rfl); (focus (go_simp <;> with_reducible rfl)); (try simp only [List.getElem_toArray, List.getElem_cons_succ, List.getElem_cons_zero, Act.put, List.setIfInBounds_toArray, List.set_cons_zero, List.set_cons_succ])
        (with_reducible refine wpQuiet_pure (v := ?_) ?_ (fun w => ?_) ?_); rotate_left; (focus rfl); (focus (go_simp <;> with_reducible rfl)); (try simp only [List.getElem_toArray, List.getElem_cons_succ, List.getElem_cons_zero, Act.put, List.setIfInBounds_toArray, List.set_cons_zero, List.set_cons_succ])
        (with_reducible refine wpQuiet_do ?_ (fun K hK => ?_)); (focus rfl); go_simp; (apply Exists.intro); (refine ⟨fun W hW => FLn.out W hW, hK _ ?_⟩); (clear hK K); (try simp only [List.getElem_toArray, List.getElem_cons_succ, List.getElem_cons_zero, Act.put, List.setIfInBounds_toArray, List.set_cons_zero, List.set_cons_succ])
        (with_reducible refine wpQuiet_pure (v := ?_) ?_ (fun w => ?_) ?_); rotate_left; (focus rfl); (focus (go_simp <;> with_reducible rfl)); (try simp only [List.getElem_toArray, List.getElem_cons_succ, List.getElem_cons_zero, Act.put, List.setIfInBounds_toArray, List.set_cons_zero, List.set_cons_succ])
        (with_reducible refine wpQuiet_cellC 48 (.tmp 63) ?_ ?_ g8 2 ?_ (.slice A3 M3 cp3) _ R2.out Tryz.underlying48 ?_ ?_); (focus rfl); (focus rfl); (focus rfl); (focus rfl); (try simp only [List.getElem_toArray, List.getElem_cons_succ, List.getElem_cons_zero, Act.put, List.setIfInBounds_toArray, List.set_cons_zero, List.set_cons_succ])
        (with_reducible refine wpQuiet_pure (v := ?_) ?_ (fun w => ?_) ?_); rotate_left; (focus rfl); (focus (go_simp <;> with_reducible rfl)); (try simp only [List.getElem_toArray, List.getElem_cons_succ, List.getElem_cons_zero, Act.put, List.setIfInBounds_toArray, List.set_cons_zero, List.set_cons_succ])
        (with_reducible refine wpQuiet_pure (v := ?_) ?_ (fun w => ?_) ?_); rotate_left; (focus rfl); (focus (go_simp <;> with_reducible rfl)); (try simp only [List.getElem_toArray, List.getElem_cons_succ, List.getElem_cons_zero, Act.put, List.setIfInBounds_toArray, List.set_cons_zero, List.set_cons_succ])
        (with_reducible refine wpQuiet_pure (v := ?_) ?_ (fun w => ?_) ?_); rotate_left; (focus rfl); (focus (go_simp <;> with_reducible rfl)); (try simp only [List.getElem_toArray, List.getElem_cons_succ, List.getElem_cons_zero, Act.put, List.setIfInBounds_toArray, List.set_cons_zero, List.set_cons_succ])
        (with_reducible refine wpQuiet_pure (v := ?_) ?_ (fun w => ?_) ?_); rotate_left; (focus rfl); (focus (go_simp <;> with_reducible rfl)); (try simp only [List.getElem_toArray, List.getElem_cons_succ, List.getElem_cons_zero, Act.put, List.setIfInBounds_toArray, List.set_cons_zero, List.set_cons_succ])
        (with_reducible refine wpQuiet_pure (v := ?_) ?_ (fun w => ?_) ?_); rotate_left; (focus rfl); (focus (go_simp <;> with_reducible rfl)); (try simp only [List.getElem_toArray, List.getElem_cons_succ, List.getElem_cons_zero, Act.put, List.setIfInBounds_toArray, List.set_cons_zero, List.set_cons_succ])
        (with_reducible refine wpQuiet_pure (v := ?_) ?_ (fun w => ?_) ?_); rotate_left; (focus rfl); (focus (go_simp <;> with_reducible rfl)); (try simp only [List.getElem_toArray, List.getElem_cons_succ, List.getElem_cons_zero, Act.put, List.setIfInBounds_toArray, List.set_cons_zero, List.set_cons_succ])
        (with_reducible refine wpQuiet_pure (v := ?_) ?_ (fun w => ?_) ?_); rotate_left; (focus rfl); (focus (go_simp <;> with_reducible rfl)); (try simp only [List.getElem_toArray, List.getElem_cons_succ, List.getElem_cons_zero, Act.put, List.setIfInBounds_toArray, List.set_cons_zero, List.set_cons_succ])
        (with_reducible refine wpQuiet_cellC 48 (.tmp 71) ?_ ?_ g8 2 ?_ (.slice A3 M3 cp3) _ R2.out Tryz.underlying48 ?_ ?_); (focus rfl); (focus rfl); (focus rfl); (focus rfl); (try simp only [List.getElem_toArray, List.getElem_cons_succ, List.getElem_cons_zero, Act.put, List.setIfInBounds_toArray, List.set_cons_zero, List.set_cons_succ])
        (with_reducible refine wpQuiet_pure (v := ?_) ?_ (fun w => ?_) ?_); rotate_left; (focus rfl); (focus (go_simp <;> with_reducible rfl)); (try simp only [List.getElem_toArray, List.getElem_cons_succ, List.getElem_cons_zero, Act.put, List.setIfInBounds_toArray, List.set_cons_zero, List.set_cons_succ])
        (with_reducible refine wpQuiet_pure (v := ?_) ?_ (fun w => ?_) ?_); rotate_left; (focus rfl); (focus (go_simp <;> with_reducible rfl)); (try simp only [List.getElem_toArray, List.getElem_cons_succ, List.getElem_cons_zero, Act.put, List.setIfInBounds_toArray, List.set_cons_zero, List.set_cons_succ])
        (with_reducible refine wpQuiet_pure (v := ?_) ?_ (fun w => ?_) ?_); rotate_left; (focus rfl); (focus (go_simp <;> with_reducible rfl)); (try simp only [List.getElem_toArray, List.getElem_cons_succ, List.getElem_cons_zero, Act.put, List.setIfInBounds_toArray, List.set_cons_zero, List.set_cons_succ])
        (with_reducible refine wpQuiet_pure (v := ?_) ?_ (fun w => ?_) ?_); rotate_left; (focus rfl); (focus (go_simp <;> with_reducible rfl)); (try simp only [List.getElem_toArray, List.getElem_cons_succ, List.getElem_cons_zero, Act.put, List.setIfInBounds_toArray, List.set_cons_zero, List.set_cons_succ])
        (with_reducible refine wpQuiet_pure (v := ?_) ?_ (fun w => ?_) ?_); rotate_left; (focus rfl); (focus (go_simp <;> with_reducible rfl)); (try simp only [List.getElem_toArray, List.getElem_cons_succ, List.getElem_cons_zero, Act.put, List.setIfInBounds_toArray, List.set_cons_zero, List.set_cons_succ])
        (with_reducible refine wpQuiet_do ?_ (fun K hK => ?_)); (focus rfl); go_simp; (apply Exists.intro); (refine ⟨fun W hW => FCp.out W hW, hK _ ?_⟩); (clear hK K); (try simp only [List.getElem_toArray, List.getElem_cons_succ, List.getElem_cons_zero, Act.put, List.setIfInBounds_toArray, List.set_cons_zero, List.set_cons_succ])
        (with_reducible refine wpQuiet_pure (v := ?_) ?_ (fun w => ?_) ?_); rotate_left; (focus rfl); (focus (go_simp <;> with_reducible rfl)); (try simp only [List.getElem_toArray, List.getElem_cons_succ, List.getElem_cons_zero, Act.put, List.setIfInBounds_toArray, List.set_cons_zero, List.set_cons_succ])
        (with_reducible refine wpQuiet_pure (v := ?_) ?_ (fun w => ?_) ?_); rotate_left; (focus rfl); (focus (go_simp <;> with_reducible rfl)); (try simp only [List.getElem_toArray, List.getElem_cons_succ, List.getElem_cons_zero, Act.put, List.setIfInBounds_toArray, List.set_cons_zero, List.set_cons_succ])
        (with_reducible refine wpQuiet_pure (v := ?_) ?_ (fun w => ?_) ?_); rotate_left; (focus rfl); (focus (go_simp <;> with_reducible rfl)); (try simp only [List.getElem_toArray, List.getElem_cons_succ, List.getElem_cons_zero, Act.put, List.setIfInBounds_toArray, List.set_cons_zero, List.set_cons_succ])
        (with_reducible refine wpQuiet_pure (v := ?_) ?_ (fun w => ?_) ?_); rotate_left; (focus rfl); (focus (go_simp <;> with_reducible rfl)); (try simp only [List.getElem_toArray, List.getElem_cons_succ, List.getElem_cons_zero, Act.put, List.setIfInBounds_toArray, List.set_cons_zero, List.set_cons_succ])
        (with_reducible refine wpQuiet_pure (v := ?_) ?_ (fun w => ?_) ?_); rotate_left; (focus rfl); (focus (go_simp <;> with_reducible rfl)); (try simp only [List.getElem_toArray, List.getElem_cons_succ, List.getElem_cons_zero, Act.put, List.setIfInBounds_toArray, List.set_cons_zero, List.set_cons_succ])
        (with_reducible refine wpQuiet_do ?_ (fun K hK => ?_)); (focus rfl); go_simp; (apply Exists.intro); (refine ⟨fun W hW => FCn.out W hW, hK _ ?_⟩); (clear hK K); (try simp only [List.getElem_toArray, List.getElem_cons_succ, List.getElem_cons_zero, Act.put, List.setIfInBounds_toArray, List.set_cons_zero, List.set_cons_succ])
        (with_reducible refine wpQuiet_pure (v := ?_) ?_ (fun w => ?_) ?_); rotate_left; (focus rfl); (focus (go_simp <;> with_reducible rfl)); (try simp only [List.getElem_toArray, List.getElem_cons_succ, List.getElem_cons_zero, Act.put, List.setIfInBounds_toArray, List.set_cons_zero, List.set_cons_succ])
        (with_reducible refine wpQuiet_rowC 49 (.tmp 85) ?_ ?_ g8 3 ?_ (arrC' s3.c) _ R3.out Tryz.underlying49 ?_ infCn ?_); (focus rfl); (focus rfl); (focus rfl); (focus rfl); (try simp only [List.getElem_toArray, List.getElem_cons_succ, List.getElem_cons_zero, Act.put, List.setIfInBounds_toArray, List.set_cons_zero, List.set_cons_succ])
        (with_reducible refine wpQuiet_pure (v := ?_) ?_ (fun w => ?_) ?_); rotate_left; (focus rfl); (focus (go_simp <;> with_reducible rfl)); (try simp only [List.getElem_toArray, List.getElem_cons_succ, List.getElem_cons_zero, Act.put, List.setIfInBounds_toArray, List.set_cons_zero, List.set_cons_succ])
        (with_reducible refine wpQuiet_pure (v := ?_) ?_ (fun w => ?_) ?_); rotate_left; (focus rfl); (focus (go_simp <;> with_reducible rfl)); (try simp only [List.getElem_toArray, List.getElem_cons_succ, List.getElem_cons_zero, Act.put, List.setIfInBounds_toArray, List.set_cons_zero, List.set_cons_succ])
        refine wpQuiet_nil ?_
        intro w7 hc7
        clear FLn FCp FCn R2 R3 hE1
        have HC7 := Lib.hid hc7
        clear hc7
        have HP7 := Lib.hid (HP6.out.chg0 HC7.out)
        have HB7 := Lib.hid (HB6.out.chg HC7.out (by simp))
        have HR7 := Lib.hid (fun W (hc : Chg [] w7 W) => HR6.out W (HC7.out.trans hc))
        clear HP6 HB6 HR6 HC7
        go_wp2_with fail
        go_loopw [13] (fun xv wx => ∃ x : Nat, x ≤ M3 ∧ xv = .int .i64 x ∧ Hid (Chg [] w7 wx)) (fun xv _ => M3 - (intOf xv).toNat)
        case atStart => exact ⟨0, by omega, rfl, Lib.hid (Chg.refl _ _)⟩
        case round =>
          obtain ⟨x, hxM, rfl, HX⟩ := hrel
          by_cases hxlt : x < M3
          · have hex : s3.L[x]? = some (s3.L[x]'(by have := HM3.out; omega)) := List.getElem?_eq_getElem _
            generalize (s3.L[x]'(by have := HM3.out; omega)) = ex at hex
            have hmem := List.mem_of_getElem? hex
            have hoke := HP7.out.ft.ok ex hmem
            have hwe : wfE ex := ⟨hoke.1.fl, wfI_of hoke.1.node.1 (by have := hoke.1.node.2; omega), wfI_of hoke.1.st.1 (by have := hoke.1.st.2; omega), wfI_of (by have := hoke.2.1; have := HK3.out.2.1; omega) (by have := hoke.2.2; have := HK3.out.2.2; omega)⟩
            obtain ⟨b1, o1, c1, hv1, hr1, _⟩ := HR7.out wr HX.out x ex hex
            simp only [Value.slice.injEq] at hv1
            obtain ⟨rfl, _, rfl⟩ := hv1
            obtain ⟨b2, o2, rfl, hr2⟩ := RL.one (HP7.out.rl.chg0 HX.out) hex
            have R1 := Lib.hid (fun W (hc : Chg [] wr W) => rangeAt_chg hr1 hc (by simp))
            have R2 := Lib.hid (fun W (hc : Chg [] wr W) => rangeAt_chg hr2 hc (by simp))
            have R4 : Hid (∀ W, Chg [] wr W → W.cell? ⟨g8, 2, none⟩ = some (.slice (some ⟨b2, o2, none⟩) M3 cp3)) := Lib.hid (fun W hc => ((HB7.out.chg HX.out (by simp)).chg hc (by simp)).cell 2)
            have hE1 := fun W => eq_en W hwe hwe
            rw [show decide (ex = ex) = true by simp] at hE1
            have HXc := Lib.hid HX.out
            clear hr1 hr2 hwe hoke hmem hex HX
            go_upto_region 18 with fail
            refine wp_region_chg (by kernel_rfl) (by kernel_rfl) ?_
            (with_reducible refine wpQuiet_pure (v := ?_) ?_ (fun w => ?_) ?_); rotate_left; (focus rfl); (focus (go_simp <;> with_reducible rfl)); (try simp only [List.getElem_toArray, List.getElem_cons_succ, List.getElem_cons_zero, Act.put, List.setIfInBounds_toArray, List.set_cons_zero, List.set_cons_succ])
            (with_reducible refine wpQuiet_pure (v := ?_) ?_ (fun w => ?_) ?_); rotate_left; (focus rfl); (focus (go_simp <;> with_reducible rfl)); (try simp only [List.getElem_toArray, List.getElem_cons_succ, List.getElem_cons_zero, Act.put, List.setIfInBounds_toArray, List.set_cons_zero, List.set_cons_succ])
            (with_reducible refine wpQuiet_pure (v := ?_) ?_ (fun w => ?_) ?_); rotate_left; (focus rfl); (focus (go_simp <;> with_reducible rfl)); (try simp only [List.getElem_toArray, List.getElem_cons_succ, List.getElem_cons_zero, Act.put, List.setIfInBounds_toArray, List.set_cons_zero, List.set_cons_succ])
            (with_reducible refine wpQuiet_rowC 44 (.tmp 97) ?_ ?_ b1 _ ?_ (arrE ex) _ R1.out Tryz.underlying44 ?_ infE ?_); (focus rfl); (focus rfl); (focus rfl); (focus rfl); (try simp only [List.getElem_toArray, List.getElem_cons_succ, List.getElem_cons_zero, Act.put, List.setIfInBounds_toArray, List.set_cons_zero, List.set_cons_succ])
            (with_reducible refine wpQuiet_pure (v := ?_) ?_ (fun w => ?_) ?_); rotate_left; (focus rfl); (focus (go_simp <;> with_reducible rfl)); (try simp only [List.getElem_toArray, List.getElem_cons_succ, List.getElem_cons_zero, Act.put, List.setIfInBounds_toArray, List.set_cons_zero, List.set_cons_succ])
            (with_reducible refine wpQuiet_cellC 48 (.tmp 99) ?_ ?_ g8 2 ?_ (.slice (some ⟨b2, o2, none⟩) M3 cp3) _ R4.out Tryz.underlying48 ?_ ?_); (focus rfl); (focus rfl); (focus rfl); (focus rfl); (try simp only [List.getElem_toArray, List.getElem_cons_succ, List.getElem_cons_zero, Act.put, List.setIfInBounds_toArray, List.set_cons_zero, List.set_cons_succ])
            (with_reducible refine wpQuiet_pure (v := ?_) ?_ (fun w => ?_) ?_); rotate_left; (focus rfl); (focus (go_simp <;> with_reducible rfl)); (try simp only [List.getElem_toArray, List.getElem_cons_succ, List.getElem_cons_zero, Act.put, List.setIfInBounds_toArray, List.set_cons_zero, List.set_cons_succ])
            (with_reducible refine wpQuiet_pure (v := ?_) ?_ (fun w => ?_) ?_); rotate_left; (focus rfl); (focus (go_simp <;> with_reducible rfl)); (try simp only [List.getElem_toArray, List.getElem_cons_succ, List.getElem_cons_zero, Act.put, List.setIfInBounds_toArray, List.set_cons_zero, List.set_cons_succ])
            (with_reducible refine wpQuiet_rowC 54 (.tmp 102) ?_ ?_ b2 _ ?_ (arrE ex) _ R2.out Tryz.underlying54 ?_ infE2 ?_); (focus rfl); (focus rfl); (focus rfl); (focus rfl); (try simp only [List.getElem_toArray, List.getElem_cons_succ, List.getElem_cons_zero, Act.put, List.setIfInBounds_toArray, List.set_cons_zero, List.set_cons_succ])
            (with_reducible refine wpQuiet_pure (v := ?_) ?_ (fun w => ?_) ?_); rotate_left; (focus rfl); (focus (go_simp <;> with_reducible rfl)); (try simp only [List.getElem_toArray, List.getElem_cons_succ, List.getElem_cons_zero, Act.put, List.setIfInBounds_toArray, List.set_cons_zero, List.set_cons_succ])
            refine wpQuiet_nil ?_
            intro w8 hc8
            have HC8 := Lib.hid (HXc.out.trans hc8)
            clear hc8 R1 R2 R4 hE1 HXc
            go_wp2_with fail
            go_roundw
            case rel => exact ⟨x + 1, by omega, by go_num, HC8⟩
            case measure => simp [intOf]; omega
          · obtain rfl : x = M3 := by omega
            have HP8 := Lib.hid (HP7.out.chg0 HX.out)
            have HB8 := Lib.hid (HB7.out.chg HX.out (by simp))
            obtain ⟨b3, o3, c3, hv3, _, hro3⟩ := HS.out wr HP8.out.ch i o hox
            simp only [Value.slice.injEq, Option.some.injEq, Addr.mk.injEq, true_and, and_true] at hv3
            obtain ⟨⟨rfl, rfl⟩, rfl⟩ := hv3
            have hrf := opflow hro3
            have FF := Lib.hid (find_any HP8.out.ft hoo.2.1)
            clear HX HP7 HB7 HR7 hro3
            go_wp2_with (first
              | (refine wpList_row 38 (.tmp 110) rfl rfl b (off + i * 36 + 1) rfl (arrF o.f) _ hrf Tryz.underlying38 rfl infF ?_)
              | fail)
            refine FF.out.mono ?_
            rintro r w8 ⟨rfl, hc8⟩
            have HP9 := Lib.hid (HP8.out.chg0 hc8)
            have HB9 := Lib.hid (HB8.out.chg hc8 (by simp))
            clear hc8 FF HP8 HB8 hrf
            generalize hge : getE s3.L o.f = ge at *
            have HGE := Lib.hid hge
            clear hge
            have hB14 : Blk (w8.alloc (.cells arrE0 44)) w8.heap.size 44 arrE0 := Blk.new _ _ _
            go_upto_region 21 with (first
              | (refine wpList_store_blk (vs := arrE (ge.getD e0)) rfl 44 (.tmp 14) (.tmp 113) rfl rfl hB14 rfl rfl rfl infE rfl ?_; intro w9 hB15 hc9)
              | fail)
            have hC9 : Chg [] w8 w9 := ((Chg.refl [] w8).alloc _).trans' hc9 (by intro y hy; simp at hy; subst hy; exact .inr (Nat.le_refl _))
            have HP10 := Lib.hid (HP9.out.chg0 hC9)
            have HB10 := Lib.hid (HB9.out.chg hC9 (by simp))
            have HB15 := Lib.hid hB15
            have hM65 : s3.L.length ≤ 64 := by have := HP9.out.ft.len; omega
            have FR : Hid (∀ W, Chg [] w9 W → Calls Tryz.prog 16 #[.agg (arrR n s3.now (.slice A3 x cp3) s3.c), o.f.v] W fun e w' => e = .returned (.int .i64 (idxV (idxE s3.L o.f))) ∧ Chg [] w9 w') := Lib.hid (fun W hW => (rfind_any (HP10.out.chg0 hW).rl (fun e he => (HP10.out.ft.ok e he).1.fl) hM65 hoo.2.1).mono (by
              rintro e w' ⟨rfl, hc⟩
              exact ⟨rfl, hW.trans hc⟩))
            have R1 : Hid (∀ W, Chg [] w9 W → W.rangeAt g8 0 (arrR n s3.now (.slice A3 x cp3) s3.c).toList) := Lib.hid (fun W hc => (HB10.out.chg hc (by simp)).rangeQ)
            have R2 : Hid (∀ W, Chg [] w9 W → W.rangeAt b (off + i * 36 + 1) (arrF o.f).toList) := Lib.hid (fun W hc => by
              obtain ⟨b3, o3, c3, hv3, _, hro3⟩ := HS.out W (HP10.out.ch.trans hc) i o hox
              simp only [Value.slice.injEq, Option.some.injEq, Addr.mk.injEq, true_and, and_true] at hv3
              obtain ⟨⟨rfl, rfl⟩, rfl⟩ := hv3
              exact opflow hro3)
            clear hB15 hc9 hC9 hM65 HP9 HB9 hB14
            generalize w8.heap.size = g14 at *
            refine wp_region_chg (by kernel_rfl) (by kernel_rfl) ?_
            (with_reducible refine wpQuiet_rowC 51 (.tmp 8) ?_ ?_ g8 0 ?_ (arrR n s3.now (.slice A3 x cp3) s3.c) _ R1.out Tryz.underlying51 ?_ infR ?_); (focus rfl); (focus rfl); (focus rfl); (focus rfl); (try simp only [List.getElem_toArray, List.getElem_cons_succ, List.getElem_cons_zero, Act.put, List.setIfInBounds_toArray, List.set_cons_zero, List.set_cons_succ])
            (with_reducible refine wpQuiet_pure (v := ?_) ?_ (fun w => ?_) ?_); rotate_left; (focus rfl); (focus (go_simp <;> with_reducible rfl)); (try simp only [List.getElem_toArray, List.getElem_cons_succ, List.getElem_cons_zero, Act.put, List.setIfInBounds_toArray, List.set_cons_zero, List.set_cons_succ])
            (with_reducible refine wpQuiet_pure (v := ?_) ?_ (fun w => ?_) ?_); rotate_left; (focus rfl); (focus (go_simp <;> with_reducible rfl)); (try simp only [List.getElem_toArray, List.getElem_cons_succ, List.getElem_cons_zero, Act.put, List.setIfInBounds_toArray, List.set_cons_zero, List.set_cons_succ])
            (with_reducible refine wpQuiet_pure (v := ?_) ?_ (fun w => ?_) ?_); rotate_left; (focus rfl); (focus (go_simp <;> with_reducible rfl)); (try simp only [List.getElem_toArray, List.getElem_cons_succ, List.getElem_cons_zero, Act.put, List.setIfInBounds_toArray, List.set_cons_zero, List.set_cons_succ])
            (with_reducible refine wpQuiet_pure (v := ?_) ?_ (fun w => ?_) ?_); rotate_left; (focus rfl); (focus (go_simp <;> with_reducible rfl)); (try simp only [List.getElem_toArray, List.getElem_cons_succ, List.getElem_cons_zero, Act.put, List.setIfInBounds_toArray, List.set_cons_zero, List.set_cons_succ])
            (with_reducible refine wpQuiet_rowC 38 (.tmp 119) ?_ ?_ b _ ?_ (arrF o.f) _ R2.out Tryz.underlying38 ?_ infF ?_); (focus rfl); (focus rfl); (focus rfl); (focus rfl); (try simp only [List.getElem_toArray, List.getElem_cons_succ, List.getElem_cons_zero, Act.put, List.setIfInBounds_toArray, List.set_cons_zero, List.set_cons_succ])
            (with_reducible refine wpQuiet_do ?_ (fun K hK => ?_)); (focus rfl); go_simp; (apply Exists.intro); (refine ⟨fun W hW => FR.out W hW, hK _ ?_⟩); (clear hK K); (try simp only [List.getElem_toArray, List.getElem_cons_succ, List.getElem_cons_zero, Act.put, List.setIfInBounds_toArray, List.set_cons_zero, List.set_cons_succ])
            (with_reducible refine wpQuiet_pure (v := ?_) ?_ (fun w => ?_) ?_); rotate_left; (focus rfl); (focus (go_simp <;> with_reducible rfl)); (try simp only [List.getElem_toArray, List.getElem_cons_succ, List.getElem_cons_zero, Act.put, List.setIfInBounds_toArray, List.set_cons_zero, List.set_cons_succ])
            refine wpQuiet_nil ?_
            intro w10 hc10
            have HP11 := Lib.hid (HP10.out.chg0 hc10)
            have HB11 := Lib.hid (HB10.out.chg hc10 (by simp))
            have HB16 := Lib.hid (HB15.out.chg hc10 (by simp))
            clear hc10 HP10 HB10 HB15 FR R1 R2
            cases hidx : idxE s3.L o.f with
            | none =>
              obtain rfl : ge = none := HGE.out.symm.trans (idx_get_none hidx)
              have hw0 : wfE e0 := ⟨⟨okA_z0, by decide, okA_z0, by decide⟩, by unfold wfI; decide, by unfold wfI; decide, by unfold wfI; decide⟩
              have hE1 := fun W => eq_en W hw0 hw0
              rw [show decide (e0 = e0) = true by simp, arrE0_eq] at hE1
              have R1 : Hid (∀ W, Chg [] w10 W → W.rangeAt g14 0 arrE0.toList) := Lib.hid (fun W hc => (HB16.out.chg hc (by simp)).rangeQ)
              clear hw0
              have hi0 : (Tryz.prog.info? 44).map (·.size) = some arrE0.size := infE37
              rw [show idxV none = -1 from rfl]
              simp only [Option.isSome_none]
              go_upto_region 22 with fail
              refine wp_region_chg (by kernel_rfl) (by kernel_rfl) ?_
              (with_reducible refine wpQuiet_pure (v := ?_) ?_ (fun w => ?_) ?_); rotate_left; (focus rfl); (focus (go_simp <;> with_reducible rfl)); (try simp only [List.getElem_toArray, List.getElem_cons_succ, List.getElem_cons_zero, Act.put, List.setIfInBounds_toArray, List.set_cons_zero, List.set_cons_succ])
              (with_reducible refine wpQuiet_pure (v := ?_) ?_ (fun w => ?_) ?_); rotate_left; (focus rfl); (focus (go_simp <;> with_reducible rfl)); (try simp only [List.getElem_toArray, List.getElem_cons_succ, List.getElem_cons_zero, Act.put, List.setIfInBounds_toArray, List.set_cons_zero, List.set_cons_succ])
              (with_reducible refine wpQuiet_pure (v := ?_) ?_ (fun w => ?_) ?_); rotate_left; (focus rfl); (focus (go_simp <;> with_reducible rfl)); (try simp only [List.getElem_toArray, List.getElem_cons_succ, List.getElem_cons_zero, Act.put, List.setIfInBounds_toArray, List.set_cons_zero, List.set_cons_succ])
              (with_reducible refine wpQuiet_pure (v := ?_) ?_ (fun w => ?_) ?_); rotate_left; (focus rfl); (focus (go_simp <;> with_reducible rfl)); (try simp only [List.getElem_toArray, List.getElem_cons_succ, List.getElem_cons_zero, Act.put, List.setIfInBounds_toArray, List.set_cons_zero, List.set_cons_succ])
              (with_reducible refine wpQuiet_pure (v := ?_) ?_ (fun w => ?_) ?_); rotate_left; (focus rfl); (focus (go_simp <;> with_reducible rfl)); (try simp only [List.getElem_toArray, List.getElem_cons_succ, List.getElem_cons_zero, Act.put, List.setIfInBounds_toArray, List.set_cons_zero, List.set_cons_succ])
              (with_reducible refine wpQuiet_pure (v := ?_) ?_ (fun w => ?_) ?_); rotate_left; (focus rfl); (focus (go_simp <;> with_reducible rfl)); (try simp only [List.getElem_toArray, List.getElem_cons_succ, List.getElem_cons_zero, Act.put, List.setIfInBounds_toArray, List.set_cons_zero, List.set_cons_succ])
              (with_reducible refine wpQuiet_pure (v := ?_) ?_ (fun w => ?_) ?_); rotate_left; (focus rfl); (focus (go_simp <;> with_reducible rfl)); (try simp only [List.getElem_toArray, List.getElem_cons_succ, List.getElem_cons_zero, Act.put, List.setIfInBounds_toArray, List.set_cons_zero, List.set_cons_succ])
              (with_reducible refine wpQuiet_skip ?_ ?_); (focus rfl); (try simp only [List.getElem_toArray, List.getElem_cons_succ, List.getElem_cons_zero, Act.put, List.setIfInBounds_toArray, List.set_cons_zero, List.set_cons_succ])
              (with_reducible refine wpQuiet_skip ?_ ?_); (focus rfl); (try simp only [List.getElem_toArray, List.getElem_cons_succ, List.getElem_cons_zero, Act.put, List.setIfInBounds_toArray, List.set_cons_zero, List.set_cons_succ])
              (with_reducible refine wpQuiet_skip ?_ ?_); (focus rfl); (try simp only [List.getElem_toArray, List.getElem_cons_succ, List.getElem_cons_zero, Act.put, List.setIfInBounds_toArray, List.set_cons_zero, List.set_cons_succ])
              (with_reducible refine wpQuiet_skip ?_ ?_); (focus rfl); (try simp only [List.getElem_toArray, List.getElem_cons_succ, List.getElem_cons_zero, Act.put, List.setIfInBounds_toArray, List.set_cons_zero, List.set_cons_succ])
              (with_reducible refine wpQuiet_skip ?_ ?_); (focus rfl); (try simp only [List.getElem_toArray, List.getElem_cons_succ, List.getElem_cons_zero, Act.put, List.setIfInBounds_toArray, List.set_cons_zero, List.set_cons_succ])
              (with_reducible refine wpQuiet_skip ?_ ?_); (focus rfl); (try simp only [List.getElem_toArray, List.getElem_cons_succ, List.getElem_cons_zero, Act.put, List.setIfInBounds_toArray, List.set_cons_zero, List.set_cons_succ])
              (with_reducible refine wpQuiet_skip ?_ ?_); (focus rfl); (try simp only [List.getElem_toArray, List.getElem_cons_succ, List.getElem_cons_zero, Act.put, List.setIfInBounds_toArray, List.set_cons_zero, List.set_cons_succ])
              (with_reducible refine wpQuiet_pure (v := ?_) ?_ (fun w => ?_) ?_); rotate_left; (focus rfl); (focus (go_simp <;> with_reducible rfl)); (try simp only [List.getElem_toArray, List.getElem_cons_succ, List.getElem_cons_zero, Act.put, List.setIfInBounds_toArray, List.set_cons_zero, List.set_cons_succ])
              (with_reducible refine wpQuiet_pure (v := ?_) ?_ (fun w => ?_) ?_); rotate_left; (focus rfl); (focus (go_simp <;> with_reducible rfl)); (try simp only [List.getElem_toArray, List.getElem_cons_succ, List.getElem_cons_zero, Act.put, List.setIfInBounds_toArray, List.set_cons_zero, List.set_cons_succ])
              (with_reducible refine wpQuiet_pure (v := ?_) ?_ (fun w => ?_) ?_); rotate_left; (focus rfl); (focus (go_simp <;> with_reducible rfl)); (try simp only [List.getElem_toArray, List.getElem_cons_succ, List.getElem_cons_zero, Act.put, List.setIfInBounds_toArray, List.set_cons_zero, List.set_cons_succ])
              (with_reducible refine wpQuiet_pure (v := ?_) ?_ (fun w => ?_) ?_); rotate_left; (focus rfl); (focus (go_simp <;> with_reducible rfl)); (try simp only [List.getElem_toArray, List.getElem_cons_succ, List.getElem_cons_zero, Act.put, List.setIfInBounds_toArray, List.set_cons_zero, List.set_cons_succ])
              (with_reducible refine wpQuiet_pure (v := ?_) ?_ (fun w => ?_) ?_); rotate_left; (focus rfl); (focus (go_simp <;> with_reducible rfl)); (try simp only [List.getElem_toArray, List.getElem_cons_succ, List.getElem_cons_zero, Act.put, List.setIfInBounds_toArray, List.set_cons_zero, List.set_cons_succ])
              (with_reducible refine wpQuiet_pure (v := ?_) ?_ (fun w => ?_) ?_); rotate_left; (focus rfl); (focus (go_simp <;> with_reducible rfl)); (try simp only [List.getElem_toArray, List.getElem_cons_succ, List.getElem_cons_zero, Act.put, List.setIfInBounds_toArray, List.set_cons_zero, List.set_cons_succ])
              (with_reducible refine wpQuiet_rowC 44 (.tmp 14) ?_ ?_ g14 0 ?_ (arrE0) _ R1.out Tryz.underlying44 ?_ hi0 ?_); (focus rfl); (focus rfl); (focus rfl); (focus rfl); (try simp only [List.getElem_toArray, List.getElem_cons_succ, List.getElem_cons_zero, Act.put, List.setIfInBounds_toArray, List.set_cons_zero, List.set_cons_succ])
              (with_reducible refine wpQuiet_pure (v := ?_) ?_ (fun w => ?_) ?_); rotate_left; (focus rfl); (focus (go_simp <;> with_reducible rfl)); (try simp only [List.getElem_toArray, List.getElem_cons_succ, List.getElem_cons_zero, Act.put, List.setIfInBounds_toArray, List.set_cons_zero, List.set_cons_succ])
              (with_reducible refine wpQuiet_pure (v := ?_) ?_ (fun w => ?_) ?_); rotate_left; (focus rfl); (focus (go_simp <;> with_reducible rfl)); (try simp only [List.getElem_toArray, List.getElem_cons_succ, List.getElem_cons_zero, Act.put, List.setIfInBounds_toArray, List.set_cons_zero, List.set_cons_succ])
              (with_reducible refine wpQuiet_pure (v := ?_) ?_ (fun w => ?_) ?_); rotate_left; (focus rfl); (focus (go_simp <;> with_reducible rfl)); (try simp only [List.getElem_toArray, List.getElem_cons_succ, List.getElem_cons_zero, Act.put, List.setIfInBounds_toArray, List.set_cons_zero, List.set_cons_succ])
              (with_reducible refine wpQuiet_pure (v := ?_) ?_ (fun w => ?_) ?_); rotate_left; (focus rfl); (focus (go_simp <;> with_reducible rfl)); (try simp only [List.getElem_toArray, List.getElem_cons_succ, List.getElem_cons_zero, Act.put, List.setIfInBounds_toArray, List.set_cons_zero, List.set_cons_succ])
              refine wpQuiet_nil ?_
              intro w11 hc11
              have HP12 := Lib.hid (HP11.out.chg0 hc11)
              have HB12 := Lib.hid (HB11.out.chg hc11 (by simp))
              clear hc11 R1 hE1
              go_wp2_with fail
              go_roundw
              case rel => exact ⟨i + 1, F3, s3, _, by omega, by omega, by go_num, HP12, HK3, HB12⟩
              case measure => simp [intOf]; omega
            | some j =>
              obtain ⟨ex, hex, hfe⟩ := idx_some hidx
              have hmem := List.mem_of_getElem? hex
              obtain rfl : ge = some ex := HGE.out.symm.trans (by rw [← hfe]; exact getE_of HP11.out.ft.nd hmem)
              have hoke := HP11.out.ft.ok ex hmem
              have hwe : wfE ex := ⟨hoke.1.fl, wfI_of hoke.1.node.1 (by have := hoke.1.node.2; omega), wfI_of hoke.1.st.1 (by have := hoke.1.st.2; omega), wfI_of (by have := hoke.2.1; have := HK3.out.2.1; omega) (by have := hoke.2.2; have := HK3.out.2.2; omega)⟩
              obtain ⟨b2, o2, rfl, hr2⟩ := RL.one HP11.out.rl hex
              have hjx : j < x := by have := (List.getElem?_eq_some_iff.1 hex).1; have := HM3.out; omega
              have R1 : Hid (∀ W, Chg [] w10 W → W.rangeAt g14 0 (arrE ex).toList) := Lib.hid (fun W hc => (HB16.out.chg hc (by simp)).rangeQ)
              have R2 : Hid (∀ W, Chg [] w10 W → W.rangeAt b2 (o2 + j * 37) (arrE ex).toList) := Lib.hid (fun W hc => rangeAt_chg hr2 hc (by simp))
              have R4 : Hid (∀ W, Chg [] w10 W → W.cell? ⟨g8, 2, none⟩ = some (.slice (some ⟨b2, o2, none⟩) x cp3)) := Lib.hid (fun W hc => (HB11.out.chg hc (by simp)).cell 2)
              have hE1 := fun W => eq_en W hwe hwe
              rw [show decide (ex = ex) = true by simp] at hE1
              clear hwe hoke hmem hr2 hex hfe
              rw [show idxV (some j) = (j : Int) from rfl]
              simp only [Option.isSome_some]
              have hge0 : decide ((j : Int) ≥ 0) = true := by simp
              go_upto_region 22 with fail
              refine wp_region_chg (by kernel_rfl) (by kernel_rfl) ?_
              (with_reducible refine wpQuiet_pure (v := ?_) ?_ (fun w => ?_) ?_); rotate_left; (focus rfl); (focus (go_simp <;> with_reducible rfl)); (try simp only [List.getElem_toArray, List.getElem_cons_succ, List.getElem_cons_zero, Act.put, List.setIfInBounds_toArray, List.set_cons_zero, List.set_cons_succ])
              (with_reducible refine wpQuiet_pure (v := ?_) ?_ (fun w => ?_) ?_); rotate_left; (focus rfl); (focus (go_simp <;> with_reducible rfl)); (try simp only [List.getElem_toArray, List.getElem_cons_succ, List.getElem_cons_zero, Act.put, List.setIfInBounds_toArray, List.set_cons_zero, List.set_cons_succ])
              (with_reducible refine wpQuiet_pure (v := ?_) ?_ (fun w => ?_) ?_); rotate_left; (focus rfl); (focus (go_simp <;> with_reducible rfl)); (try simp only [List.getElem_toArray, List.getElem_cons_succ, List.getElem_cons_zero, Act.put, List.setIfInBounds_toArray, List.set_cons_zero, List.set_cons_succ])
              (with_reducible refine wpQuiet_pure (v := ?_) ?_ (fun w => ?_) ?_); rotate_left; (focus rfl); (focus (go_simp <;> with_reducible rfl)); (try simp only [List.getElem_toArray, List.getElem_cons_succ, List.getElem_cons_zero, Act.put, List.setIfInBounds_toArray, List.set_cons_zero, List.set_cons_succ])
              (with_reducible refine wpQuiet_pure (v := ?_) ?_ (fun w => ?_) ?_); rotate_left; (focus rfl); (focus (go_simp <;> with_reducible rfl)); (try simp only [List.getElem_toArray, List.getElem_cons_succ, List.getElem_cons_zero, Act.put, List.setIfInBounds_toArray, List.set_cons_zero, List.set_cons_succ])
              (with_reducible refine wpQuiet_pure (v := ?_) ?_ (fun w => ?_) ?_); rotate_left; (focus rfl); (focus (go_simp <;> with_reducible rfl)); (try simp only [List.getElem_toArray, List.getElem_cons_succ, List.getElem_cons_zero, Act.put, List.setIfInBounds_toArray, List.set_cons_zero, List.set_cons_succ])
              (with_reducible refine wpQuiet_pure (v := ?_) ?_ (fun w => ?_) ?_); rotate_left; (focus rfl); (focus (go_simp <;> with_reducible rfl)); (try simp only [List.getElem_toArray, List.getElem_cons_succ, List.getElem_cons_zero, Act.put, List.setIfInBounds_toArray, List.set_cons_zero, List.set_cons_succ])
              (with_reducible refine wpQuiet_rowC 44 (.tmp 14) ?_ ?_ g14 0 ?_ (arrE ex) _ R1.out Tryz.underlying44 ?_ infE ?_); (focus rfl); (focus rfl); (focus rfl); (focus rfl); (try simp only [List.getElem_toArray, List.getElem_cons_succ, List.getElem_cons_zero, Act.put, List.setIfInBounds_toArray, List.set_cons_zero, List.set_cons_succ])
              (with_reducible refine wpQuiet_pure (v := ?_) ?_ (fun w => ?_) ?_); rotate_left; (focus rfl); (focus (go_simp <;> with_reducible rfl)); (try simp only [List.getElem_toArray, List.getElem_cons_succ, List.getElem_cons_zero, Act.put, List.setIfInBounds_toArray, List.set_cons_zero, List.set_cons_succ])
              (with_reducible refine wpQuiet_cellC 48 (.tmp 130) ?_ ?_ g8 2 ?_ (.slice (some ⟨b2, o2, none⟩) x cp3) _ R4.out Tryz.underlying48 ?_ ?_); (focus rfl); (focus rfl); (focus rfl); (focus rfl); (try simp only [List.getElem_toArray, List.getElem_cons_succ, List.getElem_cons_zero, Act.put, List.setIfInBounds_toArray, List.set_cons_zero, List.set_cons_succ])
              (with_reducible refine wpQuiet_pure (v := ?_) ?_ (fun w => ?_) ?_); rotate_left; (focus rfl); (focus (go_simp <;> with_reducible rfl)); (try simp only [List.getElem_toArray, List.getElem_cons_succ, List.getElem_cons_zero, Act.put, List.setIfInBounds_toArray, List.set_cons_zero, List.set_cons_succ])
              (with_reducible refine wpQuiet_pure (v := ?_) ?_ (fun w => ?_) ?_); rotate_left; (focus rfl); (focus (go_simp <;> with_reducible rfl)); (try simp only [List.getElem_toArray, List.getElem_cons_succ, List.getElem_cons_zero, Act.put, List.setIfInBounds_toArray, List.set_cons_zero, List.set_cons_succ])
              (with_reducible refine wpQuiet_rowC 54 (.tmp 133) ?_ ?_ b2 _ ?_ (arrE ex) _ R2.out Tryz.underlying54 ?_ infE2 ?_); (focus rfl); (focus rfl); (focus rfl); (focus rfl); (try simp only [List.getElem_toArray, List.getElem_cons_succ, List.getElem_cons_zero, Act.put, List.setIfInBounds_toArray, List.set_cons_zero, List.set_cons_succ])
              (with_reducible refine wpQuiet_pure (v := ?_) ?_ (fun w => ?_) ?_); rotate_left; (focus rfl); (focus (go_simp <;> with_reducible rfl)); (try simp only [List.getElem_toArray, List.getElem_cons_succ, List.getElem_cons_zero, Act.put, List.setIfInBounds_toArray, List.set_cons_zero, List.set_cons_succ])
              (with_reducible refine wpQuiet_pure (v := ?_) ?_ (fun w => ?_) ?_); rotate_left; (focus rfl); (focus (go_simp <;> with_reducible rfl)); (try simp only [List.getElem_toArray, List.getElem_cons_succ, List.getElem_cons_zero, Act.put, List.setIfInBounds_toArray, List.set_cons_zero, List.set_cons_succ])
              (with_reducible refine wpQuiet_pure (v := ?_) ?_ (fun w => ?_) ?_); rotate_left; (focus rfl); (focus (go_simp <;> with_reducible rfl)); (try simp only [List.getElem_toArray, List.getElem_cons_succ, List.getElem_cons_zero, Act.put, List.setIfInBounds_toArray, List.set_cons_zero, List.set_cons_succ])
              (with_reducible refine wpQuiet_pure (v := ?_) ?_ (fun w => ?_) ?_); rotate_left; (focus rfl); (focus (go_simp <;> with_reducible rfl)); (try simp only [List.getElem_toArray, List.getElem_cons_succ, List.getElem_cons_zero, Act.put, List.setIfInBounds_toArray, List.set_cons_zero, List.set_cons_succ])
              (with_reducible refine wpQuiet_pure (v := ?_) ?_ (fun w => ?_) ?_); rotate_left; (focus rfl); (focus (go_simp <;> with_reducible rfl)); (try simp only [List.getElem_toArray, List.getElem_cons_succ, List.getElem_cons_zero, Act.put, List.setIfInBounds_toArray, List.set_cons_zero, List.set_cons_succ])
              (with_reducible refine wpQuiet_pure (v := ?_) ?_ (fun w => ?_) ?_); rotate_left; (focus rfl); (focus (go_simp <;> with_reducible rfl)); (try simp only [List.getElem_toArray, List.getElem_cons_succ, List.getElem_cons_zero, Act.put, List.setIfInBounds_toArray, List.set_cons_zero, List.set_cons_succ])
              (with_reducible refine wpQuiet_pure (v := ?_) ?_ (fun w => ?_) ?_); rotate_left; (focus rfl); (focus (go_simp <;> with_reducible rfl)); (try simp only [List.getElem_toArray, List.getElem_cons_succ, List.getElem_cons_zero, Act.put, List.setIfInBounds_toArray, List.set_cons_zero, List.set_cons_succ])
              (with_reducible refine wpQuiet_skip ?_ ?_); (focus rfl); (try simp only [List.getElem_toArray, List.getElem_cons_succ, List.getElem_cons_zero, Act.put, List.setIfInBounds_toArray, List.set_cons_zero, List.set_cons_succ])
              (with_reducible refine wpQuiet_skip ?_ ?_); (focus rfl); (try simp only [List.getElem_toArray, List.getElem_cons_succ, List.getElem_cons_zero, Act.put, List.setIfInBounds_toArray, List.set_cons_zero, List.set_cons_succ])
              (with_reducible refine wpQuiet_skip ?_ ?_); (focus rfl); (try simp only [List.getElem_toArray, List.getElem_cons_succ, List.getElem_cons_zero, Act.put, List.setIfInBounds_toArray, List.set_cons_zero, List.set_cons_succ])
              (with_reducible refine wpQuiet_pure (v := ?_) ?_ (fun w => ?_) ?_); rotate_left; (focus rfl); (focus (go_simp <;> with_reducible rfl)); (try simp only [List.getElem_toArray, List.getElem_cons_succ, List.getElem_cons_zero, Act.put, List.setIfInBounds_toArray, List.set_cons_zero, List.set_cons_succ])
              (with_reducible refine wpQuiet_pure (v := ?_) ?_ (fun w => ?_) ?_); rotate_left; (focus rfl); (focus (go_simp <;> with_reducible rfl)); (try simp only [List.getElem_toArray, List.getElem_cons_succ, List.getElem_cons_zero, Act.put, List.setIfInBounds_toArray, List.set_cons_zero, List.set_cons_succ])
              refine wpQuiet_nil ?_
              intro w11 hc11
              have HP12 := Lib.hid (HP11.out.chg0 hc11)
              have HB12 := Lib.hid (HB11.out.chg hc11 (by simp))
              clear hc11 R1 R2 R4 hE1
              go_wp2_with fail
              go_roundw
              case rel => exact ⟨i + 1, F3, s3, _, by omega, by omega, by go_num, HP12, HK3, HB12⟩
              case measure => simp [intOf]; omega
    · have hend : ¬ i < N ∨ ¬ i < 100 := by omega
      go_wp2_with fail
      all_goals
        refine (LV.out _).mono ?_
        rintro r w9 ⟨rfl, hc9⟩
        have HFIN := Lib.hid (HP.out.ch.trans hc9)
        clear hc9
        go_wp2_with fail
        go_ret
        exact ⟨rfl, HFIN.out⟩
end Go.Proofs.YtldgdpekhjignaaGreat.Ft
