/-
  WALKS: the document's Flows of chapter 44, Ints of chapter 20, and Step of both, all kinds of events. Condition: at most 300 events.
-/
import Derived.Test.YtgbdbeaflilmlaaModelK
import Derived.Test.YtgbdbeaflilmlaaFlowRefW
set_option linter.unusedVariables false
set_option linter.unusedSimpArgs false
namespace Go.Proofs.Ytgbdbeaflilmlaa
open Go.RowKit Go.Maps

set_option maxRecDepth 100000 in
set_option maxHeartbeats 1000000 in
theorem rflows_any {w : World} {B : Nat} {v : Value} {R : List Rf} (h : SlR w B v R) (hR : R.length ≤ 300) :
    Calls Try.prog 33 #[v] w fun e w' => ∃ v' F, e = .returned v' ∧ SrtF F ∧ (∀ f, f ∈ F ↔ f ∈ (livesR R).map (·.1)) ∧ SlFo w' w.heap.size v' F ∧ Chg [] w w' := by
  obtain ⟨A, c, rfl⟩ := Sl.form h.1
  have HR := Lib.hid (fun W (hc : Chg [] w W) i (r : Rf) (hr : R[i]? = some r) => SlR.one (h.chg0 hc) rfl hr)
  have HX : Hid (∀ i, i < R.length → ∃ r, R[i]? = some r ∧ okR w B r) := Lib.hid fun i hi => ⟨_, List.getElem?_eq_getElem hi, h.2 _ (List.getElem_mem hi)⟩
  have HOK : Hid (∀ r ∈ R, okF r.f) := Lib.hid fun r hr => (h.2 r hr).1
  clear h
  generalize hN : R.length = N at *
  have HNN : Hid (R.length = N) := Lib.hid hN
  clear hN
  have h0 : w.ownsRow w.heap.size 73 34 (.slice none 0 0) ((R.take 0).map (·.f)).length (((R.take 0).map (·.f)).flatMap encF) := by
    rw [List.take_zero]; exact World.ownsRow_nil ..
  go_enter Try.func33, Try.ntmps33
  go_wp2_with fail
  go_loopw [3, 4] (fun ov iv wr => ∃ k : Nat, k ≤ N ∧ iv = .int .i64 k ∧ wr.ownsRow w.heap.size 73 34 ov ((R.take k).map (·.f)).length (((R.take k).map (·.f)).flatMap encF) ∧ Hid (Chg [] w wr)) (fun _ iv _ => N - (intOf iv).toNat)
  case atStart => exact ⟨0, by omega, rfl, h0, Lib.hid (Chg.refl _ _)⟩
  case round =>
    obtain ⟨k, hk, rfl, hrow, HC⟩ := hrel
    have hln : ((R.take k).map (·.f)).length = k := by have := HNN.out; simp; omega
    rw [hln] at hrow
    have hwr := HC.out.size
    clear h0
    by_cases hlt : k < N
    · obtain ⟨r, hr, hok⟩ := HX.out k hlt
      obtain ⟨b, o, rfl, hrg⟩ := HR.out _ HC.out k r hr
      have r1 := rg_fl hrg
      have HM : Hid ((R.take (k + 1)).map (·.f) = (R.take k).map (·.f) ++ [r.f]) := Lib.hid (by rw [List.take_add_one, hr, List.map_append]; rfl)
      have hcat := litFl wr r.f
      have hone : Hid (∀ u ∈ encF r.f, u.oneCell' = true) := Lib.hid (encF_one r.f)
      have hc3 := (Chg.refl [] wr).alloc (.cells (arrF r.f) 73)
      have hrow3 := own_chg hrow hc3 (by simp)
      clear hrg hr hok hrow
      go_wp2_with (first
        | (refine wpList_row 73 (.tmp 15) rfl rfl b _ rfl (arrF r.f) _ r1 Try.underlying73 rfl infF ?_)
        | (at_builtin; refine wpList_app elFl rfl (.tmp 11) (.tmp 17) rfl w.heap.size rfl hrow3 rfl hcat hone.out (by unfold maxLen; omega) (by omega) (by simp; omega) ?_; intro v9 w9 hown9 hc9 hb9)
        | fail)
      have hlt9 := own_lt hrow3
      have HC9 : Hid (Chg [] w w9) := Lib.hid ((HC.out.trans hc3).trans' hc9 (fun y hy => .inr (hlt9 y hy).1))
      have hrow9 : w9.ownsRow w.heap.size 73 34 v9 ((R.take (k + 1)).map (·.f)).length (((R.take (k + 1)).map (·.f)).flatMap encF) := by
        rw [HM.out, ← flat_snoc, List.length_append, hln]; exact hown9
      clear hc9 hb9 hcat hrow3 hlt9 hown9 hc3
      go_roundw
      case rel => exact ⟨k + 1, by omega, by go_num, hrow9, HC9⟩
      case measure => simp [intOf]; omega
    · obtain rfl : k = N := by omega
      have htk : R.take k = R := by rw [List.take_of_length_le (by have := HNN.out; omega)]
      rw [htk] at hrow hln
      have hs1 : SlF wr u3 (R.map (·.f)) := by
        have := (Sl.of_own hrow).less (Nat.zero_le _)
        unfold SlF
        rw [hln]; exact this
      have FS := Lib.hid (fsort14_any hs1 (by omega) (fun x hx => by obtain ⟨r, hr, rfl⟩ := List.mem_map.1 hx; exact HOK.out r hr))
      clear hrow hs1 htk
      go_wp2_with fail
      refine FS.out.mono ?_
      rintro e w5 ⟨v5, F, rfl, hs, hm, hsl, hc5⟩
      have HZ := Lib.hid (And.intro hs (And.intro hm (And.intro hsl hc5)))
      clear hs hm hsl hc5 FS
      go_wp2_with fail
      go_ret
      refine ⟨_, F, rfl, HZ.out.1, fun f => ?_, HZ.out.2.2.1.less (by omega), HC.out.trans HZ.out.2.2.2⟩
      rw [HZ.out.2.1]
      unfold livesR
      rw [List.map_map]
      rfl
set_option maxRecDepth 100000 in
set_option maxHeartbeats 1000000 in
theorem ints_any {w : World} {B B' : Nat} {v v' : Value} {l l' : List Int} (h : SlZ w B v l) (h' : SlZ w B' v' l') (hl : l.length ≤ 1000) (hl' : l'.length ≤ 1000) :
    Calls Try.prog 30 #[v, v'] w fun e w' => e = .returned (.bool (decide (l = l'))) ∧ Chg [] w w' := by
  obtain ⟨A, c, rfl⟩ := Sl.form h
  obtain ⟨A', c', rfl⟩ := Sl.form h'
  have HX : Hid (∀ i, i < l.length → ∃ b o y, A = some ⟨b, o, none⟩ ∧ l[i]? = some y ∧ ∀ W, Chg [] w W → W.cell? ⟨b, o + i, none⟩ = some (.int .i64 y)) := Lib.hid fun i hi => by
    obtain ⟨b, o, hA, hc⟩ := SlZ.one h (List.getElem?_eq_getElem hi)
    exact ⟨b, o, _, hA, List.getElem?_eq_getElem hi, fun W hW => hW.cell hc (by simp)⟩
  have HX' : Hid (∀ i, i < l'.length → ∃ b o y, A' = some ⟨b, o, none⟩ ∧ l'[i]? = some y ∧ ∀ W, Chg [] w W → W.cell? ⟨b, o + i, none⟩ = some (.int .i64 y)) := Lib.hid fun i hi => by
    obtain ⟨b, o, hA, hc⟩ := SlZ.one h' (List.getElem?_eq_getElem hi)
    exact ⟨b, o, _, hA, List.getElem?_eq_getElem hi, fun W hW => hW.cell hc (by simp)⟩
  clear h h'
  by_cases hll : l.length = l'.length
  · have HNN' : Hid (l'.length = l.length) := Lib.hid hll.symm
    rw [← hll] at HX' hl' ⊢
    clear hll
    generalize hN : l.length = N at *
    have HNN : Hid (l.length = N) := Lib.hid hN
    have hbn : ((N : Int) != (N : Int)) = false := by simp
    clear hN
    go_enter Try.func30, Try.ntmps30
    go_wp2_with fail
    go_loopw [5] (fun iv wr => ∃ k : Nat, k ≤ N ∧ iv = .int .i64 k ∧ Hid (Chg [] w wr) ∧ Hid (∀ i, i < k → l[i]? = l'[i]?)) (fun iv _ => N - (intOf iv).toNat)
    case atStart => exact ⟨0, by omega, rfl, Lib.hid (Chg.refl _ _), Lib.hid (fun i hi => by omega)⟩
    case round =>
      obtain ⟨k, hk, rfl, HC, HK⟩ := hrel
      by_cases hlt : k < N
      · obtain ⟨b, o, y, rfl, hy, hc⟩ := HX.out k hlt
        obtain ⟨b', o', y', rfl, hy', hc'⟩ := HX'.out k hlt
        have D1 := Lib.hid (fun W (hW : Chg [] wr W) => hc W (HC.out.trans hW))
        have D2 := Lib.hid (fun W (hW : Chg [] wr W) => hc' W (HC.out.trans hW))
        have HY := Lib.hid (And.intro hy hy')
        clear hy hy' hc hc'
        go_upto_region 6 with fail
        refine wp_region_chg (by kernel_rfl) (by kernel_rfl) ?_
        (with_reducible refine wpQuiet_pure (v := ?_) ?_ (fun w => ?_) ?_); rotate_left; (focus rfl); (focus (go_simp <;> with_reducible rfl)); (try simp only [List.getElem_toArray, List.getElem_cons_succ, List.getElem_cons_zero, Act.put, List.setIfInBounds_toArray, List.set_cons_zero, List.set_cons_succ])
        (with_reducible refine wpQuiet_pure (v := ?_) ?_ (fun w => ?_) ?_); rotate_left; (focus rfl); (focus (go_simp <;> with_reducible rfl)); (try simp only [List.getElem_toArray, List.getElem_cons_succ, List.getElem_cons_zero, Act.put, List.setIfInBounds_toArray, List.set_cons_zero, List.set_cons_succ])
        (with_reducible refine wpQuiet_pure (v := ?_) ?_ (fun w => ?_) ?_); rotate_left; (focus rfl); (focus (go_simp <;> with_reducible rfl)); (try simp only [List.getElem_toArray, List.getElem_cons_succ, List.getElem_cons_zero, Act.put, List.setIfInBounds_toArray, List.set_cons_zero, List.set_cons_succ])
        (with_reducible refine wpQuiet_cellC 3 (.tmp 19) ?_ ?_ b _ ?_ (.int .i64 y) _ D1.out Try.underlying3 ?_ ?_); (focus rfl); (focus rfl); (focus rfl); (focus rfl); (try simp only [List.getElem_toArray, List.getElem_cons_succ, List.getElem_cons_zero, Act.put, List.setIfInBounds_toArray, List.set_cons_zero, List.set_cons_succ])
        (with_reducible refine wpQuiet_pure (v := ?_) ?_ (fun w => ?_) ?_); rotate_left; (focus rfl); (focus (go_simp <;> with_reducible rfl)); (try simp only [List.getElem_toArray, List.getElem_cons_succ, List.getElem_cons_zero, Act.put, List.setIfInBounds_toArray, List.set_cons_zero, List.set_cons_succ])
        (with_reducible refine wpQuiet_pure (v := ?_) ?_ (fun w => ?_) ?_); rotate_left; (focus rfl); (focus (go_simp <;> with_reducible rfl)); (try simp only [List.getElem_toArray, List.getElem_cons_succ, List.getElem_cons_zero, Act.put, List.setIfInBounds_toArray, List.set_cons_zero, List.set_cons_succ])
        (with_reducible refine wpQuiet_pure (v := ?_) ?_ (fun w => ?_) ?_); rotate_left; (focus rfl); (focus (go_simp <;> with_reducible rfl)); (try simp only [List.getElem_toArray, List.getElem_cons_succ, List.getElem_cons_zero, Act.put, List.setIfInBounds_toArray, List.set_cons_zero, List.set_cons_succ])
        (with_reducible refine wpQuiet_cellC 3 (.tmp 23) ?_ ?_ b' _ ?_ (.int .i64 y') _ D2.out Try.underlying3 ?_ ?_); (focus rfl); (focus rfl); (focus rfl); (focus rfl); (try simp only [List.getElem_toArray, List.getElem_cons_succ, List.getElem_cons_zero, Act.put, List.setIfInBounds_toArray, List.set_cons_zero, List.set_cons_succ])
        (with_reducible refine wpQuiet_pure (v := ?_) ?_ (fun w => ?_) ?_); rotate_left; (focus rfl); (focus (go_simp <;> with_reducible rfl)); (try simp only [List.getElem_toArray, List.getElem_cons_succ, List.getElem_cons_zero, Act.put, List.setIfInBounds_toArray, List.set_cons_zero, List.set_cons_succ])
        refine wpQuiet_nil ?_
        intro w2 hc2
        have HC2 := Lib.hid (HC.out.trans hc2)
        clear hc2 D1 D2
        by_cases he : y = y'
        · have hb : (y != y') = false := by simp [he]
          have HE : Hid (y = y') := Lib.hid he
          clear he
          go_wp2_with fail
          go_roundw
          case rel =>
            refine ⟨k + 1, by omega, by go_num, HC2, Lib.hid fun i hi => ?_⟩
            rcases Nat.lt_or_ge i k with h1 | h1
            · exact HK.out i h1
            · rw [show i = k by omega, HY.out.1, HY.out.2, HE.out]
          case measure => simp [intOf]; omega
        · have hb : (y != y') = true := by simp [he]
          have HV : Hid (decide (l = l') = false) := Lib.hid (decide_eq_false (fun e => by
            have h1 := HY.out.1
            have h2 := HY.out.2
            rw [e, h2] at h1
            injection h1 with h1; exact he h1.symm))
          clear he
          go_wp2_with fail
          go_ret
          exact ⟨by rw [HV.out]; rfl, HC2.out⟩
      · obtain rfl : k = N := by omega
        have HV : Hid (decide (l = l') = true) := Lib.hid (decide_eq_true (by
          apply List.ext_getElem?
          intro i
          rcases Nat.lt_or_ge i k with h1 | h1
          · exact HK.out i h1
          · rw [List.getElem?_eq_none (by have := HNN.out; omega), List.getElem?_eq_none (by have := HNN.out; have := HNN'.out; omega)]))
        go_wp2_with fail
        go_ret
        exact ⟨by rw [HV.out]; rfl, HC.out⟩
  · have HV : Hid (decide (l = l') = false) := Lib.hid (decide_eq_false (fun e => hll (by rw [e])))
    have hbn : ((l.length : Int) != (l'.length : Int)) = true := by simp; omega
    go_enter Try.func30, Try.ntmps30
    go_wp2_with fail
    go_ret
    exact ⟨by rw [HV.out]; rfl, Chg.refl _ _⟩
set_option maxRecDepth 100000 in
set_option maxHeartbeats 1000000 in
theorem mstep_zero {W w : World} {mb m kk : Nat} {D : Fl → Option Lf} (h : MoS W w mb m kk D) {e : Ev} (he : okE e) (hz : e.flow = zF) :
    Calls Try.prog 26 #[.pointer (some ⟨mb, 0, none⟩), .agg (arrE e)] w fun r w' => r = .returned (.bool true) ∧ MoS W w' mb m (kk + 1) D ∧ Chg [m] w w' := by
  have hz' : decide (e.flow = zF) = true := by simp [hz]
  have hE1 := fun W => eq_fl W he okF_z
  rw [hz'] at hE1
  have hcA := (Chg.refl [] w).alloc (.cells (arrE e) 75)
  have hBe : Blk (w.alloc (.cells (arrE e) 75)) w.heap.size 75 (arrE e) := Blk.new _ _ _
  have RF := Lib.hid (ev_flow hBe)
  have HI := Lib.hid (And.intro hcA ((h.chg0 hcA).mono (Nat.le_succ kk)))
  obtain ⟨nn, V, s, hm, _, _⟩ := h.chg0 hcA
  have F1 := Lib.hid (mis_any hm.blk)
  clear hcA hBe h hz' hz hm
  go_enter Try.func26, Try.ntmps26
  go_wp2_with fail
  refine F1.out.mono ?_
  rintro r w2 ⟨rfl, rfl⟩
  go_wp2_with (first
    | (refine wpList_row 73 (.tmp 9) rfl rfl w.heap.size 2 rfl (arrF e.flow) _ RF.out Try.underlying73 rfl infF ?_)
    | fail)
  go_ret
  exact ⟨rfl, HI.out.2, HI.out.1.more (by simp)⟩
theorem mstep_any {W w : World} {mb m kk : Nat} {L : List (Fl × Lf)} (h : MoS W w mb m kk (DR L)) (hK : kk ≤ 300) {e : Ev} (he : okE e) :
    Calls Try.prog 26 #[.pointer (some ⟨mb, 0, none⟩), .agg (arrE e)] w fun r w' => r = .returned (.bool (stepL L e).2) ∧ MoS W w' mb m (kk + 1) (DR (stepL L e).1) ∧ Chg [m] w w' := by
  unfold stepL
  by_cases h0 : e.flow = zF
  · simp only [if_pos h0]; exact mstep_zero h he h0
  simp only [if_neg h0]
  by_cases h1 : e.kind = 1
  · simp only [if_pos h1, DR_with]; exact mstep_kind h hK he h0 h1
  simp only [if_neg h1]
  by_cases h5 : e.kind = 5
  · simp only [if_pos h5]
    by_cases h6 : ((DR L e.flow).getD zL).st = 1 ∧ e.node ∈ ((DR L e.flow).getD zL).ls
    · simp only [if_pos h6, DR_with]; exact mstep_own h hK he h0 h5 h6.1 h6.2
    · simp only [if_neg h6]; exact mstep_no h hK he h0 h5 h6
  simp only [if_neg h5]
  by_cases hk : e.kind = 3 ∨ e.kind = 4 ∨ e.kind = 7 ∨ e.kind = 10
  · simp only [if_pos hk]; exact mstep_has h hK he h0 hk
  · simp only [if_neg hk]; exact mstep_else h hK he h0 h1 h5 hk
theorem rstep_any {w : World} {B kk : Nat} {v : Value} {R : List Rf} (h : SlR w B v R) (hI : LI kk (livesR R)) (hK : kk ≤ 300) (hB : B ≤ w.heap.size) {e : Ev} (he : okE e) :
    Calls Try.prog 25 #[v, .agg (arrE e)] w fun r w' => RS w B R (stepL (livesR R) e).1 (stepL (livesR R) e).2 r w' := by
  have ha := hI.at_ e.flow
  have hR : R.length ≤ 300 := by have := hI.len; unfold livesR at this; rw [List.length_map] at this; omega
  unfold stepL
  by_cases h0 : e.flow = zF
  · simp only [if_pos h0]; exact rstep_zero h hR hB he h0
  simp only [if_neg h0]
  by_cases h1 : e.kind = 1
  · simp only [if_pos h1]; exact rstep_kind h hR hB he h0 h1 (by omega) ha.1
  simp only [if_neg h1]
  by_cases h5 : e.kind = 5
  · simp only [if_pos h5]
    by_cases h6 : ((DR (livesR R) e.flow).getD zL).st = 1 ∧ e.node ∈ ((DR (livesR R) e.flow).getD zL).ls
    · simp only [if_pos h6]; exact rstep_own h hR hB he h0 h5 h6.1 h6.2 (by omega)
    · simp only [if_neg h6]; exact rstep_no h hR hB he h0 h5 h6 (by omega)
  simp only [if_neg h5]
  by_cases hk : e.kind = 3 ∨ e.kind = 4 ∨ e.kind = 7 ∨ e.kind = 10
  · simp only [if_pos hk]; exact rstep_has h hR hB he h0 hk
  · simp only [if_neg hk]; exact rstep_else h hR hB he h0 h1 h5 hk
/-- Two rows in order of the same flows are one. -/
theorem SrtF.eq {l l' : List Fl} (h : SrtF l) (h' : SrtF l') (hm : ∀ f, f ∈ l ↔ f ∈ l') : l = l' := by
  have hp : l.Perm l' := (List.perm_ext_iff_of_nodup h.nodup h'.nodup).2 hm
  exact List.Perm.eq_of_pairwise (le := fun a b => lessF a b = true) (fun a b _ _ h1 h2 => by
    have := lessF_trans h1 h2
    rw [lessF_irrefl] at this; cases this) h h' hp
end Go.Proofs.Ytgbdbeaflilmlaa
