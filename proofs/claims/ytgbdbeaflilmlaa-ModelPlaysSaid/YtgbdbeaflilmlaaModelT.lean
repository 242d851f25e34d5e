/-
  WALKS over package model: Step by the other kinds of events. Condition: at most 300 calls.
-/
import Derived.Test.YtgbdbeaflilmlaaModelS
import Derived.Deep.DeepCutAuto
set_option linter.unusedVariables false
set_option linter.unusedSimpArgs false
namespace Go.Proofs.Ytgbdbeaflilmlaa
open Go.RowKit Go.Maps

set_option maxRecDepth 100000 in
set_option maxHeartbeats 1000000 in
theorem mstep_no {W w : World} {mb m kk : Nat} {D : Fl → Option Lf} (h : MoS W w mb m kk D) (hK : kk ≤ 300) {e : Ev} (he : okE e) (hz : ¬ e.flow = zF) (h5 : e.kind = 5) (hno : ¬ (((D e.flow).getD zL).st = 1 ∧ e.node ∈ ((D e.flow).getD zL).ls)) :
    Calls Try.prog 26 #[.pointer (some ⟨mb, 0, none⟩), .agg (arrE e)] w fun r w' => r = .returned (.bool false) ∧ MoS W w' mb m (kk + 1) (D) ∧ Chg [m] w w' := by
  obtain ⟨nn, V, s, hm, hWm, hWb⟩ := h
  have hz' : decide (e.flow = zF) = false := by simp [hz]
  have hE1 := fun W => eq_fl W he okF_z
  rw [hz'] at hE1
  have hcA := (Chg.refl [] w).alloc (.cells (arrE e) 75)
  have hBe : Blk (w.alloc (.cells (arrE e) 75)) w.heap.size 75 (arrE e) := Blk.new _ _ _
  have hm1 := hm.chg0 hcA
  have hml := hm.lt
  have HI := Lib.hid (And.intro hcA (And.intro hBe hm1))
  have hge : w.heap.size < (w.alloc (.cells (arrE e) 75)).heap.size := by simp
  clear hcA hBe hm1 hm hz'
  go_enter Try.func26, Try.ntmps26
  go_upto_region 1 with fail
  generalize w.alloc (.cells (arrE e) 75) = w1 at *
  generalize hg : w.heap.size = ge at *
  obtain ⟨hcA, hBe, hm1⟩ := HI.out
  have F1 := Lib.hid (mis_any hm1.blk)
  have e0 : w1.cell? ⟨ge, 0, none⟩ = some (.int .i64 e.kind) := ev_at hBe 0
  have RF := Lib.hid (ev_flow hBe)
  clear hBe hm1 hcA
  go_wp2_with fail
  refine F1.out.mono ?_
  rintro r w2 ⟨rfl, rfl⟩
  clear F1
  have hS0 : Chg [] w1 w1.drew := (Chg.refl [] w1).drew
  have HC0 : ∀ W, Chg [] w1 W → W.cell? ⟨mb, 0, none⟩ = some (.map (some m)) := fun W hc => hc.cell (HI.out.2.2.blk.cell 0) (by simp)
  have HRF : ∀ W, Chg [] w1 W → W.rangeAt ge 2 (arrF e.flow).toList := fun W hc => rangeAt_chg RF.out hc (by simp)
  have HLK : ∀ W, Chg [] w1 W → (Instr.lookup 89 (.map (some m)) e.flow.v false).run Try.prog W = .ok (.agg (arrL ((D e.flow).getD zL) (vOf V D e.flow))) W := fun W hc => (HI.out.2.2.chg0 hc).look he
  have HLI := Lib.hid (HI.out.2.2.list he)
  generalize hx : (D e.flow).getD zL = x at *
  generalize hv : vOf V D e.flow = v at *
  obtain ⟨A, c, rfl⟩ := Sl.form HLI.out.1
  have HC0' := Lib.hid HC0
  have HRF' := Lib.hid HRF
  have HX := Lib.hid hx
  clear hx hv
  go_upto_region 5 with (first
    | (refine wpList_row 73 (.tmp 9) rfl rfl ge 2 rfl (arrF e.flow) _ RF.out Try.underlying73 rfl infF ?_)
    | fail)
  have hBx : Blk (w1.alloc (.cells #[.int .i64 0, .int .i64 0, .slice none 0 0] 146)).drew w1.heap.size 146 #[.int .i64 0, .int .i64 0, .slice none 0 0] := (Blk.new _ _ _).drew
  have hcB := ((Chg.refl [] w1).alloc (.cells #[.int .i64 0, .int .i64 0, .slice none 0 0] 146)).drew
  refine wp_region_noPanic ?_
  refine wp_region_held_drew (S := Chg [] w1) (by kernel_rfl) hS0 (fun _ => ?_)
  refine wpAnyH_take (i := 0) (v := ?_) rfl (by kernel_rfl) (by kernel_rfl) (by kernel_rfl) (fun _ _ _ h => h) (yields_pure (by rfl) (fun w => ?_)) (by with_reducible assumption) ?_
  rotate_left
  · (go_simp <;> with_reducible rfl)
  try simp only [List.getElem_toArray, List.getElem_cons_succ, List.getElem_cons_zero, Act.put, List.setIfInBounds_toArray, List.set_cons_zero, List.set_cons_succ]
  refine wpAnyH_take (i := 1) (v := ?_) rfl (by kernel_rfl) (by kernel_rfl) (by kernel_rfl) (fun _ _ _ h => h) (yields_pure (by rfl) (fun w => ?_)) (by with_reducible assumption) ?_
  rotate_left
  · (go_simp <;> with_reducible rfl)
  try simp only [List.getElem_toArray, List.getElem_cons_succ, List.getElem_cons_zero, Act.put, List.setIfInBounds_toArray, List.set_cons_zero, List.set_cons_succ]
  refine wpAnyH_take (i := 2) (v := ?_) rfl (by kernel_rfl) (by kernel_rfl) (by kernel_rfl) (fun _ _ _ h => h) (yields_pure (by rfl) (fun w => ?_)) (by with_reducible assumption) ?_
  rotate_left
  · (go_simp <;> with_reducible rfl)
  try simp only [List.getElem_toArray, List.getElem_cons_succ, List.getElem_cons_zero, Act.put, List.setIfInBounds_toArray, List.set_cons_zero, List.set_cons_succ]
  refine wpAnyH_take (i := 3) rfl (by kernel_rfl) (by kernel_rfl) (by kernel_rfl) (fun _ _ _ h => h) (yields_cell (by rfl) 89 (.tmp 15) rfl mb 0 rfl (.map (some m)) _ HC0 Try.underlying89 rfl) (by with_reducible assumption) ?_
  try simp only [List.getElem_toArray, List.getElem_cons_succ, List.getElem_cons_zero, Act.put, List.setIfInBounds_toArray, List.set_cons_zero, List.set_cons_succ]
  refine wpAnyH_take (i := 4) (v := ?_) rfl (by kernel_rfl) (by kernel_rfl) (by kernel_rfl) (fun _ _ _ h => h) (yields_pure (by rfl) (fun w => ?_)) (by with_reducible assumption) ?_
  rotate_left
  · (go_simp <;> with_reducible rfl)
  try simp only [List.getElem_toArray, List.getElem_cons_succ, List.getElem_cons_zero, Act.put, List.setIfInBounds_toArray, List.set_cons_zero, List.set_cons_succ]
  refine wpAnyH_take (i := 5) rfl (by kernel_rfl) (by kernel_rfl) (by kernel_rfl) (fun _ _ _ h => h) (yields_row (by rfl) 73 (.tmp 17) rfl ge 2 rfl (arrF e.flow) _ HRF Try.underlying73 rfl infF) (by with_reducible assumption) ?_
  try simp only [List.getElem_toArray, List.getElem_cons_succ, List.getElem_cons_zero, Act.put, List.setIfInBounds_toArray, List.set_cons_zero, List.set_cons_succ]
  refine wpAnyH_take (i := 6) rfl (by kernel_rfl) (by kernel_rfl) (by kernel_rfl) (fun _ _ _ h => h) (yields_lookup (by rfl) 89 (.tmp 16) (.tmp 18) rfl rfl rfl (HLK)) (by with_reducible assumption) ?_
  try simp only [List.getElem_toArray, List.getElem_cons_succ, List.getElem_cons_zero, Act.put, List.setIfInBounds_toArray, List.set_cons_zero, List.set_cons_succ]
  refine wpAnyH_ready (rs := [7]) (by kernel_rfl) (by simp) (AllReadyH.cons rfl (fun K hK => ?_) AllReadyH.nil)
  go_simp
  refine hK.out _ _ (by with_reducible assumption) (fun _ => ?_)
  clear hK K
  try simp only [List.getElem_toArray, List.getElem_cons_succ, List.getElem_cons_zero, Act.put, List.setIfInBounds_toArray, List.set_cons_zero, List.set_cons_succ]
  refine wpAnyH_ready (rs := [8]) (by kernel_rfl) (by simp) (AllReadyH.cons rfl (fun K hK => ?_) AllReadyH.nil)
  refine step_store_blk rfl 146 (.tmp 5) (.tmp 19) rfl hBx rfl rfl rfl (infL (x := x)) rfl ?_
  intro w5 hB5 hc5
  have hc6 : Chg [] w1 w5 := hcB.trans' hc5 (by intro y hy; simp at hy; subst hy; exact .inr (Nat.le_refl _))
  refine hK.out _ _ (by with_reducible assumption) (fun _ => ?_)
  clear hK K
  try simp only [List.getElem_toArray, List.getElem_cons_succ, List.getElem_cons_zero, Act.put, List.setIfInBounds_toArray, List.set_cons_zero, List.set_cons_succ]
  refine wpAnyH_done (by kernel_rfl) ?_ _
  refine NoPanic.normal ?_
  generalize hgx : w1.heap.size = gx at *
  have q0 : w5.cell? ⟨ge, 0, none⟩ = some (.int .i64 e.kind) := hc6.cell e0 (by simp)
  have HB5 := Lib.hid hB5
  have HC6 := Lib.hid hc6
  clear hS0 HC0 HRF HLK hBx hcB hB5 hc5 hc6 e0 RF
  have hk1 : (e.kind == 1) = false := by simp [h5]
  have hk5 : (e.kind == 5) = true := by simp [h5]
  have d0 : w5.cell? ⟨gx, 0, none⟩ = some (.int .i64 x.st) := HB5.out.cell 0
  have d2 : w5.cell? ⟨gx, 2, none⟩ = some (.slice A x.ls.length c) := HB5.out.cell 2
  have d1 : w5.cell? ⟨ge, 1, none⟩ = some (.int .i64 e.node) := ev_at (HI.out.2.1.chg HC6.out (by simp)) 1
  have F2 := Lib.hid (contains_any (HLI.out.1.chg0 HC6.out) (by have := HLI.out.2.2; omega) e.node)
  by_cases hs1 : x.st = 1
  · have hb : (x.st != 1) = false := by simp [hs1]
    have hm : ¬ e.node ∈ x.ls := fun hm => hno ⟨hs1, hm⟩
    rw [decide_eq_false hm] at F2
    clear hno hm hs1 h5
    go_wp2_with fail
    refine F2.out.mono ?_
    rintro r w6 ⟨rfl, rfl⟩
    go_wp2_with fail
    go_ret
    refine ⟨rfl, ?_, ((HI.out.1.more (by simp)).trans (HC6.out.more (by simp))).trans (Chg.refl _ _)⟩
    exact (MoS.chg0 (W := W) (mb := mb) (m := m) (K := kk) (D := D) ⟨nn, V, s, HI.out.2.2, hWm, hWb⟩ (HC6.out.trans (Chg.refl _ _))).mono (by omega)
  · have hb : (x.st != 1) = true := by simp [hs1]
    clear hno hs1 h5 F2
    go_wp2_with fail
    go_ret
    refine ⟨rfl, ?_, ((HI.out.1.more (by simp)).trans (HC6.out.more (by simp))).trans (Chg.refl _ _)⟩
    exact (MoS.chg0 (W := W) (mb := mb) (m := m) (K := kk) (D := D) ⟨nn, V, s, HI.out.2.2, hWm, hWb⟩ (HC6.out.trans (Chg.refl _ _))).mono (by omega)
set_option maxRecDepth 100000 in
set_option maxHeartbeats 1000000 in
theorem mstep_has {W w : World} {mb m kk : Nat} {D : Fl → Option Lf} (h : MoS W w mb m kk D) (hK : kk ≤ 300) {e : Ev} (he : okE e) (hz : ¬ e.flow = zF) (hk : e.kind = 3 ∨ e.kind = 4 ∨ e.kind = 7 ∨ e.kind = 10) :
    Calls Try.prog 26 #[.pointer (some ⟨mb, 0, none⟩), .agg (arrE e)] w fun r w' => r = .returned (.bool (decide (((D e.flow).getD zL).st = 2 ∧ ((D e.flow).getD zL).ow = e.node))) ∧ MoS W w' mb m (kk + 1) (D) ∧ Chg [m] w w' := by
  obtain ⟨nn, V, s, hm, hWm, hWb⟩ := h
  have hz' : decide (e.flow = zF) = false := by simp [hz]
  have hE1 := fun W => eq_fl W he okF_z
  rw [hz'] at hE1
  have hcA := (Chg.refl [] w).alloc (.cells (arrE e) 75)
  have hBe : Blk (w.alloc (.cells (arrE e) 75)) w.heap.size 75 (arrE e) := Blk.new _ _ _
  have hm1 := hm.chg0 hcA
  have hml := hm.lt
  have HI := Lib.hid (And.intro hcA (And.intro hBe hm1))
  have hge : w.heap.size < (w.alloc (.cells (arrE e) 75)).heap.size := by simp
  clear hcA hBe hm1 hm hz'
  go_enter Try.func26, Try.ntmps26
  go_upto_region 1 with fail
  generalize w.alloc (.cells (arrE e) 75) = w1 at *
  generalize hg : w.heap.size = ge at *
  obtain ⟨hcA, hBe, hm1⟩ := HI.out
  have F1 := Lib.hid (mis_any hm1.blk)
  have e0 : w1.cell? ⟨ge, 0, none⟩ = some (.int .i64 e.kind) := ev_at hBe 0
  have RF := Lib.hid (ev_flow hBe)
  clear hBe hm1 hcA
  go_wp2_with fail
  refine F1.out.mono ?_
  rintro r w2 ⟨rfl, rfl⟩
  clear F1
  have hS0 : Chg [] w1 w1.drew := (Chg.refl [] w1).drew
  have HC0 : ∀ W, Chg [] w1 W → W.cell? ⟨mb, 0, none⟩ = some (.map (some m)) := fun W hc => hc.cell (HI.out.2.2.blk.cell 0) (by simp)
  have HRF : ∀ W, Chg [] w1 W → W.rangeAt ge 2 (arrF e.flow).toList := fun W hc => rangeAt_chg RF.out hc (by simp)
  have HLK : ∀ W, Chg [] w1 W → (Instr.lookup 89 (.map (some m)) e.flow.v false).run Try.prog W = .ok (.agg (arrL ((D e.flow).getD zL) (vOf V D e.flow))) W := fun W hc => (HI.out.2.2.chg0 hc).look he
  have HLI := Lib.hid (HI.out.2.2.list he)
  generalize hx : (D e.flow).getD zL = x at *
  generalize hv : vOf V D e.flow = v at *
  obtain ⟨A, c, rfl⟩ := Sl.form HLI.out.1
  have HC0' := Lib.hid HC0
  have HRF' := Lib.hid HRF
  have HX := Lib.hid hx
  clear hx hv
  go_upto_region 5 with (first
    | (refine wpList_row 73 (.tmp 9) rfl rfl ge 2 rfl (arrF e.flow) _ RF.out Try.underlying73 rfl infF ?_)
    | fail)
  have hBx : Blk (w1.alloc (.cells #[.int .i64 0, .int .i64 0, .slice none 0 0] 146)).drew w1.heap.size 146 #[.int .i64 0, .int .i64 0, .slice none 0 0] := (Blk.new _ _ _).drew
  have hcB := ((Chg.refl [] w1).alloc (.cells #[.int .i64 0, .int .i64 0, .slice none 0 0] 146)).drew
  refine wp_region_noPanic ?_
  refine wp_region_held_drew (S := Chg [] w1) (by kernel_rfl) hS0 (fun _ => ?_)
  refine wpAnyH_take (i := 0) (v := ?_) rfl (by kernel_rfl) (by kernel_rfl) (by kernel_rfl) (fun _ _ _ h => h) (yields_pure (by rfl) (fun w => ?_)) (by with_reducible assumption) ?_
  rotate_left
  · (go_simp <;> with_reducible rfl)
  try simp only [List.getElem_toArray, List.getElem_cons_succ, List.getElem_cons_zero, Act.put, List.setIfInBounds_toArray, List.set_cons_zero, List.set_cons_succ]
  refine wpAnyH_take (i := 1) (v := ?_) rfl (by kernel_rfl) (by kernel_rfl) (by kernel_rfl) (fun _ _ _ h => h) (yields_pure (by rfl) (fun w => ?_)) (by with_reducible assumption) ?_
  rotate_left
  · (go_simp <;> with_reducible rfl)
  try simp only [List.getElem_toArray, List.getElem_cons_succ, List.getElem_cons_zero, Act.put, List.setIfInBounds_toArray, List.set_cons_zero, List.set_cons_succ]
  refine wpAnyH_take (i := 2) (v := ?_) rfl (by kernel_rfl) (by kernel_rfl) (by kernel_rfl) (fun _ _ _ h => h) (yields_pure (by rfl) (fun w => ?_)) (by with_reducible assumption) ?_
  rotate_left
  · (go_simp <;> with_reducible rfl)
  try simp only [List.getElem_toArray, List.getElem_cons_succ, List.getElem_cons_zero, Act.put, List.setIfInBounds_toArray, List.set_cons_zero, List.set_cons_succ]
  refine wpAnyH_take (i := 3) rfl (by kernel_rfl) (by kernel_rfl) (by kernel_rfl) (fun _ _ _ h => h) (yields_cell (by rfl) 89 (.tmp 15) rfl mb 0 rfl (.map (some m)) _ HC0 Try.underlying89 rfl) (by with_reducible assumption) ?_
  try simp only [List.getElem_toArray, List.getElem_cons_succ, List.getElem_cons_zero, Act.put, List.setIfInBounds_toArray, List.set_cons_zero, List.set_cons_succ]
  refine wpAnyH_take (i := 4) (v := ?_) rfl (by kernel_rfl) (by kernel_rfl) (by kernel_rfl) (fun _ _ _ h => h) (yields_pure (by rfl) (fun w => ?_)) (by with_reducible assumption) ?_
  rotate_left
  · (go_simp <;> with_reducible rfl)
  try simp only [List.getElem_toArray, List.getElem_cons_succ, List.getElem_cons_zero, Act.put, List.setIfInBounds_toArray, List.set_cons_zero, List.set_cons_succ]
  refine wpAnyH_take (i := 5) rfl (by kernel_rfl) (by kernel_rfl) (by kernel_rfl) (fun _ _ _ h => h) (yields_row (by rfl) 73 (.tmp 17) rfl ge 2 rfl (arrF e.flow) _ HRF Try.underlying73 rfl infF) (by with_reducible assumption) ?_
  try simp only [List.getElem_toArray, List.getElem_cons_succ, List.getElem_cons_zero, Act.put, List.setIfInBounds_toArray, List.set_cons_zero, List.set_cons_succ]
  refine wpAnyH_take (i := 6) rfl (by kernel_rfl) (by kernel_rfl) (by kernel_rfl) (fun _ _ _ h => h) (yields_lookup (by rfl) 89 (.tmp 16) (.tmp 18) rfl rfl rfl (HLK)) (by with_reducible assumption) ?_
  try simp only [List.getElem_toArray, List.getElem_cons_succ, List.getElem_cons_zero, Act.put, List.setIfInBounds_toArray, List.set_cons_zero, List.set_cons_succ]
  refine wpAnyH_ready (rs := [7]) (by kernel_rfl) (by simp) (AllReadyH.cons rfl (fun K hK => ?_) AllReadyH.nil)
  go_simp
  refine hK.out _ _ (by with_reducible assumption) (fun _ => ?_)
  clear hK K
  try simp only [List.getElem_toArray, List.getElem_cons_succ, List.getElem_cons_zero, Act.put, List.setIfInBounds_toArray, List.set_cons_zero, List.set_cons_succ]
  refine wpAnyH_ready (rs := [8]) (by kernel_rfl) (by simp) (AllReadyH.cons rfl (fun K hK => ?_) AllReadyH.nil)
  refine step_store_blk rfl 146 (.tmp 5) (.tmp 19) rfl hBx rfl rfl rfl (infL (x := x)) rfl ?_
  intro w5 hB5 hc5
  have hc6 : Chg [] w1 w5 := hcB.trans' hc5 (by intro y hy; simp at hy; subst hy; exact .inr (Nat.le_refl _))
  refine hK.out _ _ (by with_reducible assumption) (fun _ => ?_)
  clear hK K
  try simp only [List.getElem_toArray, List.getElem_cons_succ, List.getElem_cons_zero, Act.put, List.setIfInBounds_toArray, List.set_cons_zero, List.set_cons_succ]
  refine wpAnyH_done (by kernel_rfl) ?_ _
  refine NoPanic.normal ?_
  generalize hgx : w1.heap.size = gx at *
  have q0 : w5.cell? ⟨ge, 0, none⟩ = some (.int .i64 e.kind) := hc6.cell e0 (by simp)
  have HB5 := Lib.hid hB5
  have HC6 := Lib.hid hc6
  clear hS0 HC0 HRF HLK hBx hcB hB5 hc5 hc6 e0 RF
  have hk1 : (e.kind == 1) = false := by rcases hk with h | h | h | h <;> simp [h]
  have hk5 : (e.kind == 5) = false := by rcases hk with h | h | h | h <;> simp [h]
  have d1 : w5.cell? ⟨ge, 1, none⟩ = some (.int .i64 e.node) := ev_at (HI.out.2.1.chg HC6.out (by simp)) 1
  have RX := Lib.hid HB5.out.rangeQ
  have F2 := Lib.hid (has_any x (.slice A x.ls.length c) e.node w5)
  rcases hk with hk | hk | hk | hk
  · have b3 : (e.kind == 3) = true := by simp [hk]
    have b4 : (e.kind == 4) = false := by simp [hk]
    have b7 : (e.kind == 7) = false := by simp [hk]
    have b10 : (e.kind == 10) = false := by simp [hk]
    clear hk
    go_wp2_with (first | (refine wpList_row 146 (.tmp 5) rfl rfl gx 0 rfl (arrL x (.slice A x.ls.length c)) _ RX.out Try.underlying146 rfl (infL (x := x)) ?_) | fail)
    refine F2.out.mono ?_
    rintro r w6 ⟨rfl, hc6⟩
    have HC7 := Lib.hid hc6
    clear hc6 F2
    go_wp2_with fail
    go_ret
    refine ⟨by rw [HX.out, Bool.decide_and]; rfl, ?_, ((HI.out.1.more (by simp)).trans (HC6.out.more (by simp))).trans (HC7.out.more (by simp))⟩
    exact (MoS.chg0 (W := W) (mb := mb) (m := m) (K := kk) (D := D) ⟨nn, V, s, HI.out.2.2, hWm, hWb⟩ (HC6.out.trans (HC7.out))).mono (by omega)
  · have b3 : (e.kind == 3) = false := by simp [hk]
    have b4 : (e.kind == 4) = true := by simp [hk]
    have b7 : (e.kind == 7) = false := by simp [hk]
    have b10 : (e.kind == 10) = false := by simp [hk]
    clear hk
    go_wp2_with (first | (refine wpList_row 146 (.tmp 5) rfl rfl gx 0 rfl (arrL x (.slice A x.ls.length c)) _ RX.out Try.underlying146 rfl (infL (x := x)) ?_) | fail)
    refine F2.out.mono ?_
    rintro r w6 ⟨rfl, hc6⟩
    have HC7 := Lib.hid hc6
    clear hc6 F2
    go_wp2_with fail
    go_ret
    refine ⟨by rw [HX.out, Bool.decide_and]; rfl, ?_, ((HI.out.1.more (by simp)).trans (HC6.out.more (by simp))).trans (HC7.out.more (by simp))⟩
    exact (MoS.chg0 (W := W) (mb := mb) (m := m) (K := kk) (D := D) ⟨nn, V, s, HI.out.2.2, hWm, hWb⟩ (HC6.out.trans (HC7.out))).mono (by omega)
  · have b3 : (e.kind == 3) = false := by simp [hk]
    have b4 : (e.kind == 4) = false := by simp [hk]
    have b7 : (e.kind == 7) = true := by simp [hk]
    have b10 : (e.kind == 10) = false := by simp [hk]
    clear hk
    go_wp2_with (first | (refine wpList_row 146 (.tmp 5) rfl rfl gx 0 rfl (arrL x (.slice A x.ls.length c)) _ RX.out Try.underlying146 rfl (infL (x := x)) ?_) | fail)
    refine F2.out.mono ?_
    rintro r w6 ⟨rfl, hc6⟩
    have HC7 := Lib.hid hc6
    clear hc6 F2
    go_wp2_with fail
    go_ret
    refine ⟨by rw [HX.out, Bool.decide_and]; rfl, ?_, ((HI.out.1.more (by simp)).trans (HC6.out.more (by simp))).trans (HC7.out.more (by simp))⟩
    exact (MoS.chg0 (W := W) (mb := mb) (m := m) (K := kk) (D := D) ⟨nn, V, s, HI.out.2.2, hWm, hWb⟩ (HC6.out.trans (HC7.out))).mono (by omega)
  · have b3 : (e.kind == 3) = false := by simp [hk]
    have b4 : (e.kind == 4) = false := by simp [hk]
    have b7 : (e.kind == 7) = false := by simp [hk]
    have b10 : (e.kind == 10) = true := by simp [hk]
    clear hk
    go_wp2_with (first | (refine wpList_row 146 (.tmp 5) rfl rfl gx 0 rfl (arrL x (.slice A x.ls.length c)) _ RX.out Try.underlying146 rfl (infL (x := x)) ?_) | fail)
    refine F2.out.mono ?_
    rintro r w6 ⟨rfl, hc6⟩
    have HC7 := Lib.hid hc6
    clear hc6 F2
    go_wp2_with fail
    go_ret
    refine ⟨by rw [HX.out, Bool.decide_and]; rfl, ?_, ((HI.out.1.more (by simp)).trans (HC6.out.more (by simp))).trans (HC7.out.more (by simp))⟩
    exact (MoS.chg0 (W := W) (mb := mb) (m := m) (K := kk) (D := D) ⟨nn, V, s, HI.out.2.2, hWm, hWb⟩ (HC6.out.trans (HC7.out))).mono (by omega)
set_option maxRecDepth 100000 in
set_option maxHeartbeats 1000000 in
theorem mstep_else {W w : World} {mb m kk : Nat} {D : Fl → Option Lf} (h : MoS W w mb m kk D) (hK : kk ≤ 300) {e : Ev} (he : okE e) (hz : ¬ e.flow = zF) (h1 : e.kind ≠ 1) (h5 : e.kind ≠ 5) (hk : ¬ (e.kind = 3 ∨ e.kind = 4 ∨ e.kind = 7 ∨ e.kind = 10)) :
    Calls Try.prog 26 #[.pointer (some ⟨mb, 0, none⟩), .agg (arrE e)] w fun r w' => r = .returned (.bool true) ∧ MoS W w' mb m (kk + 1) (D) ∧ Chg [m] w w' := by
  obtain ⟨nn, V, s, hm, hWm, hWb⟩ := h
  have hz' : decide (e.flow = zF) = false := by simp [hz]
  have hE1 := fun W => eq_fl W he okF_z
  rw [hz'] at hE1
  have hcA := (Chg.refl [] w).alloc (.cells (arrE e) 75)
  have hBe : Blk (w.alloc (.cells (arrE e) 75)) w.heap.size 75 (arrE e) := Blk.new _ _ _
  have hm1 := hm.chg0 hcA
  have hml := hm.lt
  have HI := Lib.hid (And.intro hcA (And.intro hBe hm1))
  have hge : w.heap.size < (w.alloc (.cells (arrE e) 75)).heap.size := by simp
  clear hcA hBe hm1 hm hz'
  go_enter Try.func26, Try.ntmps26
  go_upto_region 1 with fail
  generalize w.alloc (.cells (arrE e) 75) = w1 at *
  generalize hg : w.heap.size = ge at *
  obtain ⟨hcA, hBe, hm1⟩ := HI.out
  have F1 := Lib.hid (mis_any hm1.blk)
  have e0 : w1.cell? ⟨ge, 0, none⟩ = some (.int .i64 e.kind) := ev_at hBe 0
  have RF := Lib.hid (ev_flow hBe)
  clear hBe hm1 hcA
  go_wp2_with fail
  refine F1.out.mono ?_
  rintro r w2 ⟨rfl, rfl⟩
  clear F1
  have hS0 : Chg [] w1 w1.drew := (Chg.refl [] w1).drew
  have HC0 : ∀ W, Chg [] w1 W → W.cell? ⟨mb, 0, none⟩ = some (.map (some m)) := fun W hc => hc.cell (HI.out.2.2.blk.cell 0) (by simp)
  have HRF : ∀ W, Chg [] w1 W → W.rangeAt ge 2 (arrF e.flow).toList := fun W hc => rangeAt_chg RF.out hc (by simp)
  have HLK : ∀ W, Chg [] w1 W → (Instr.lookup 89 (.map (some m)) e.flow.v false).run Try.prog W = .ok (.agg (arrL ((D e.flow).getD zL) (vOf V D e.flow))) W := fun W hc => (HI.out.2.2.chg0 hc).look he
  have HLI := Lib.hid (HI.out.2.2.list he)
  generalize hx : (D e.flow).getD zL = x at *
  generalize hv : vOf V D e.flow = v at *
  obtain ⟨A, c, rfl⟩ := Sl.form HLI.out.1
  have HC0' := Lib.hid HC0
  have HRF' := Lib.hid HRF
  have HX := Lib.hid hx
  clear hx hv
  go_upto_region 5 with (first
    | (refine wpList_row 73 (.tmp 9) rfl rfl ge 2 rfl (arrF e.flow) _ RF.out Try.underlying73 rfl infF ?_)
    | fail)
  have hBx : Blk (w1.alloc (.cells #[.int .i64 0, .int .i64 0, .slice none 0 0] 146)).drew w1.heap.size 146 #[.int .i64 0, .int .i64 0, .slice none 0 0] := (Blk.new _ _ _).drew
  have hcB := ((Chg.refl [] w1).alloc (.cells #[.int .i64 0, .int .i64 0, .slice none 0 0] 146)).drew
  refine wp_region_noPanic ?_
  refine wp_region_held_drew (S := Chg [] w1) (by kernel_rfl) hS0 (fun _ => ?_)
  refine wpAnyH_take (i := 0) (v := ?_) rfl (by kernel_rfl) (by kernel_rfl) (by kernel_rfl) (fun _ _ _ h => h) (yields_pure (by rfl) (fun w => ?_)) (by with_reducible assumption) ?_
  rotate_left
  · (go_simp <;> with_reducible rfl)
  try simp only [List.getElem_toArray, List.getElem_cons_succ, List.getElem_cons_zero, Act.put, List.setIfInBounds_toArray, List.set_cons_zero, List.set_cons_succ]
  refine wpAnyH_take (i := 1) (v := ?_) rfl (by kernel_rfl) (by kernel_rfl) (by kernel_rfl) (fun _ _ _ h => h) (yields_pure (by rfl) (fun w => ?_)) (by with_reducible assumption) ?_
  rotate_left
  · (go_simp <;> with_reducible rfl)
  try simp only [List.getElem_toArray, List.getElem_cons_succ, List.getElem_cons_zero, Act.put, List.setIfInBounds_toArray, List.set_cons_zero, List.set_cons_succ]
  refine wpAnyH_take (i := 2) (v := ?_) rfl (by kernel_rfl) (by kernel_rfl) (by kernel_rfl) (fun _ _ _ h => h) (yields_pure (by rfl) (fun w => ?_)) (by with_reducible assumption) ?_
  rotate_left
  · (go_simp <;> with_reducible rfl)
  try simp only [List.getElem_toArray, List.getElem_cons_succ, List.getElem_cons_zero, Act.put, List.setIfInBounds_toArray, List.set_cons_zero, List.set_cons_succ]
  refine wpAnyH_take (i := 3) rfl (by kernel_rfl) (by kernel_rfl) (by kernel_rfl) (fun _ _ _ h => h) (yields_cell (by rfl) 89 (.tmp 15) rfl mb 0 rfl (.map (some m)) _ HC0 Try.underlying89 rfl) (by with_reducible assumption) ?_
  try simp only [List.getElem_toArray, List.getElem_cons_succ, List.getElem_cons_zero, Act.put, List.setIfInBounds_toArray, List.set_cons_zero, List.set_cons_succ]
  refine wpAnyH_take (i := 4) (v := ?_) rfl (by kernel_rfl) (by kernel_rfl) (by kernel_rfl) (fun _ _ _ h => h) (yields_pure (by rfl) (fun w => ?_)) (by with_reducible assumption) ?_
  rotate_left
  · (go_simp <;> with_reducible rfl)
  try simp only [List.getElem_toArray, List.getElem_cons_succ, List.getElem_cons_zero, Act.put, List.setIfInBounds_toArray, List.set_cons_zero, List.set_cons_succ]
  refine wpAnyH_take (i := 5) rfl (by kernel_rfl) (by kernel_rfl) (by kernel_rfl) (fun _ _ _ h => h) (yields_row (by rfl) 73 (.tmp 17) rfl ge 2 rfl (arrF e.flow) _ HRF Try.underlying73 rfl infF) (by with_reducible assumption) ?_
  try simp only [List.getElem_toArray, List.getElem_cons_succ, List.getElem_cons_zero, Act.put, List.setIfInBounds_toArray, List.set_cons_zero, List.set_cons_succ]
  refine wpAnyH_take (i := 6) rfl (by kernel_rfl) (by kernel_rfl) (by kernel_rfl) (fun _ _ _ h => h) (yields_lookup (by rfl) 89 (.tmp 16) (.tmp 18) rfl rfl rfl (HLK)) (by with_reducible assumption) ?_
  try simp only [List.getElem_toArray, List.getElem_cons_succ, List.getElem_cons_zero, Act.put, List.setIfInBounds_toArray, List.set_cons_zero, List.set_cons_succ]
  refine wpAnyH_ready (rs := [7]) (by kernel_rfl) (by simp) (AllReadyH.cons rfl (fun K hK => ?_) AllReadyH.nil)
  go_simp
  refine hK.out _ _ (by with_reducible assumption) (fun _ => ?_)
  clear hK K
  try simp only [List.getElem_toArray, List.getElem_cons_succ, List.getElem_cons_zero, Act.put, List.setIfInBounds_toArray, List.set_cons_zero, List.set_cons_succ]
  refine wpAnyH_ready (rs := [8]) (by kernel_rfl) (by simp) (AllReadyH.cons rfl (fun K hK => ?_) AllReadyH.nil)
  refine step_store_blk rfl 146 (.tmp 5) (.tmp 19) rfl hBx rfl rfl rfl (infL (x := x)) rfl ?_
  intro w5 hB5 hc5
  have hc6 : Chg [] w1 w5 := hcB.trans' hc5 (by intro y hy; simp at hy; subst hy; exact .inr (Nat.le_refl _))
  refine hK.out _ _ (by with_reducible assumption) (fun _ => ?_)
  clear hK K
  try simp only [List.getElem_toArray, List.getElem_cons_succ, List.getElem_cons_zero, Act.put, List.setIfInBounds_toArray, List.set_cons_zero, List.set_cons_succ]
  refine wpAnyH_done (by kernel_rfl) ?_ _
  refine NoPanic.normal ?_
  generalize hgx : w1.heap.size = gx at *
  have q0 : w5.cell? ⟨ge, 0, none⟩ = some (.int .i64 e.kind) := hc6.cell e0 (by simp)
  have HB5 := Lib.hid hB5
  have HC6 := Lib.hid hc6
  clear hS0 HC0 HRF HLK hBx hcB hB5 hc5 hc6 e0 RF
  have hk1 : (e.kind == 1) = false := by simp [h1]
  have hk5 : (e.kind == 5) = false := by simp [h5]
  have b3 : (e.kind == 3) = false := by simp; omega
  have b4 : (e.kind == 4) = false := by simp; omega
  have b7 : (e.kind == 7) = false := by simp; omega
  have b10 : (e.kind == 10) = false := by simp; omega
  clear h1 h5 hk
  go_wp2_with fail
  go_ret
  refine ⟨rfl, ?_, ((HI.out.1.more (by simp)).trans (HC6.out.more (by simp))).trans (Chg.refl _ _)⟩
  exact (MoS.chg0 (W := W) (mb := mb) (m := m) (K := kk) (D := D) ⟨nn, V, s, HI.out.2.2, hWm, hWb⟩ (HC6.out.trans (Chg.refl _ _))).mono (by omega)
set_option maxRecDepth 100000 in
set_option maxHeartbeats 1000000 in
theorem mstep_own {W w : World} {mb m kk : Nat} {D : Fl → Option Lf} (h : MoS W w mb m kk D) (hK : kk ≤ 300) {e : Ev} (he : okE e) (hz : ¬ e.flow = zF) (h5 : e.kind = 5) (hs1 : ((D e.flow).getD zL).st = 1) (hin : e.node ∈ ((D e.flow).getD zL).ls) :
    Calls Try.prog 26 #[.pointer (some ⟨mb, 0, none⟩), .agg (arrE e)] w fun r w' => r = .returned (.bool true) ∧ MoS W w' mb m (kk + 1) (fun g => if g = e.flow then some ⟨2, e.node, ((D e.flow).getD zL).ls⟩ else D g) ∧ Chg [m] w w' := by
  obtain ⟨nn, V, s, hm, hWm, hWb⟩ := h
  have hz' : decide (e.flow = zF) = false := by simp [hz]
  have hE1 := fun W => eq_fl W he okF_z
  rw [hz'] at hE1
  have hcA := (Chg.refl [] w).alloc (.cells (arrE e) 75)
  have hBe : Blk (w.alloc (.cells (arrE e) 75)) w.heap.size 75 (arrE e) := Blk.new _ _ _
  have hm1 := hm.chg0 hcA
  have hml := hm.lt
  have HI := Lib.hid (And.intro hcA (And.intro hBe hm1))
  have hge : w.heap.size < (w.alloc (.cells (arrE e) 75)).heap.size := by simp
  clear hcA hBe hm1 hm hz'
  go_enter Try.func26, Try.ntmps26
  go_upto_region 1 with fail
  generalize w.alloc (.cells (arrE e) 75) = w1 at *
  generalize hg : w.heap.size = ge at *
  obtain ⟨hcA, hBe, hm1⟩ := HI.out
  have F1 := Lib.hid (mis_any hm1.blk)
  have e0 : w1.cell? ⟨ge, 0, none⟩ = some (.int .i64 e.kind) := ev_at hBe 0
  have RF := Lib.hid (ev_flow hBe)
  clear hBe hm1 hcA
  go_wp2_with fail
  refine F1.out.mono ?_
  rintro r w2 ⟨rfl, rfl⟩
  clear F1
  have hS0 : Chg [] w1 w1.drew := (Chg.refl [] w1).drew
  have HC0 : ∀ W, Chg [] w1 W → W.cell? ⟨mb, 0, none⟩ = some (.map (some m)) := fun W hc => hc.cell (HI.out.2.2.blk.cell 0) (by simp)
  have HRF : ∀ W, Chg [] w1 W → W.rangeAt ge 2 (arrF e.flow).toList := fun W hc => rangeAt_chg RF.out hc (by simp)
  have HLK : ∀ W, Chg [] w1 W → (Instr.lookup 89 (.map (some m)) e.flow.v false).run Try.prog W = .ok (.agg (arrL ((D e.flow).getD zL) (vOf V D e.flow))) W := fun W hc => (HI.out.2.2.chg0 hc).look he
  have HLI := Lib.hid (HI.out.2.2.list he)
  generalize hx : (D e.flow).getD zL = x at *
  generalize hv : vOf V D e.flow = v at *
  obtain ⟨A, c, rfl⟩ := Sl.form HLI.out.1
  have HC0' := Lib.hid HC0
  have HRF' := Lib.hid HRF
  have HX := Lib.hid hx
  clear hx hv
  go_upto_region 5 with (first
    | (refine wpList_row 73 (.tmp 9) rfl rfl ge 2 rfl (arrF e.flow) _ RF.out Try.underlying73 rfl infF ?_)
    | fail)
  have hBx : Blk (w1.alloc (.cells #[.int .i64 0, .int .i64 0, .slice none 0 0] 146)).drew w1.heap.size 146 #[.int .i64 0, .int .i64 0, .slice none 0 0] := (Blk.new _ _ _).drew
  have hcB := ((Chg.refl [] w1).alloc (.cells #[.int .i64 0, .int .i64 0, .slice none 0 0] 146)).drew
  refine wp_region_noPanic ?_
  refine wp_region_held_drew (S := Chg [] w1) (by kernel_rfl) hS0 (fun _ => ?_)
  refine wpAnyH_take (i := 0) (v := ?_) rfl (by kernel_rfl) (by kernel_rfl) (by kernel_rfl) (fun _ _ _ h => h) (yields_pure (by rfl) (fun w => ?_)) (by with_reducible assumption) ?_
  rotate_left
  · (go_simp <;> with_reducible rfl)
  try simp only [List.getElem_toArray, List.getElem_cons_succ, List.getElem_cons_zero, Act.put, List.setIfInBounds_toArray, List.set_cons_zero, List.set_cons_succ]
  refine wpAnyH_take (i := 1) (v := ?_) rfl (by kernel_rfl) (by kernel_rfl) (by kernel_rfl) (fun _ _ _ h => h) (yields_pure (by rfl) (fun w => ?_)) (by with_reducible assumption) ?_
  rotate_left
  · (go_simp <;> with_reducible rfl)
  try simp only [List.getElem_toArray, List.getElem_cons_succ, List.getElem_cons_zero, Act.put, List.setIfInBounds_toArray, List.set_cons_zero, List.set_cons_succ]
  refine wpAnyH_take (i := 2) (v := ?_) rfl (by kernel_rfl) (by kernel_rfl) (by kernel_rfl) (fun _ _ _ h => h) (yields_pure (by rfl) (fun w => ?_)) (by with_reducible assumption) ?_
  rotate_left
  · (go_simp <;> with_reducible rfl)
  try simp only [List.getElem_toArray, List.getElem_cons_succ, List.getElem_cons_zero, Act.put, List.setIfInBounds_toArray, List.set_cons_zero, List.set_cons_succ]
  refine wpAnyH_take (i := 3) rfl (by kernel_rfl) (by kernel_rfl) (by kernel_rfl) (fun _ _ _ h => h) (yields_cell (by rfl) 89 (.tmp 15) rfl mb 0 rfl (.map (some m)) _ HC0 Try.underlying89 rfl) (by with_reducible assumption) ?_
  try simp only [List.getElem_toArray, List.getElem_cons_succ, List.getElem_cons_zero, Act.put, List.setIfInBounds_toArray, List.set_cons_zero, List.set_cons_succ]
  refine wpAnyH_take (i := 4) (v := ?_) rfl (by kernel_rfl) (by kernel_rfl) (by kernel_rfl) (fun _ _ _ h => h) (yields_pure (by rfl) (fun w => ?_)) (by with_reducible assumption) ?_
  rotate_left
  · (go_simp <;> with_reducible rfl)
  try simp only [List.getElem_toArray, List.getElem_cons_succ, List.getElem_cons_zero, Act.put, List.setIfInBounds_toArray, List.set_cons_zero, List.set_cons_succ]
  refine wpAnyH_take (i := 5) rfl (by kernel_rfl) (by kernel_rfl) (by kernel_rfl) (fun _ _ _ h => h) (yields_row (by rfl) 73 (.tmp 17) rfl ge 2 rfl (arrF e.flow) _ HRF Try.underlying73 rfl infF) (by with_reducible assumption) ?_
  try simp only [List.getElem_toArray, List.getElem_cons_succ, List.getElem_cons_zero, Act.put, List.setIfInBounds_toArray, List.set_cons_zero, List.set_cons_succ]
  refine wpAnyH_take (i := 6) rfl (by kernel_rfl) (by kernel_rfl) (by kernel_rfl) (fun _ _ _ h => h) (yields_lookup (by rfl) 89 (.tmp 16) (.tmp 18) rfl rfl rfl (HLK)) (by with_reducible assumption) ?_
  try simp only [List.getElem_toArray, List.getElem_cons_succ, List.getElem_cons_zero, Act.put, List.setIfInBounds_toArray, List.set_cons_zero, List.set_cons_succ]
  refine wpAnyH_ready (rs := [7]) (by kernel_rfl) (by simp) (AllReadyH.cons rfl (fun K hK => ?_) AllReadyH.nil)
  go_simp
  refine hK.out _ _ (by with_reducible assumption) (fun _ => ?_)
  clear hK K
  try simp only [List.getElem_toArray, List.getElem_cons_succ, List.getElem_cons_zero, Act.put, List.setIfInBounds_toArray, List.set_cons_zero, List.set_cons_succ]
  refine wpAnyH_ready (rs := [8]) (by kernel_rfl) (by simp) (AllReadyH.cons rfl (fun K hK => ?_) AllReadyH.nil)
  refine step_store_blk rfl 146 (.tmp 5) (.tmp 19) rfl hBx rfl rfl rfl (infL (x := x)) rfl ?_
  intro w5 hB5 hc5
  have hc6 : Chg [] w1 w5 := hcB.trans' hc5 (by intro y hy; simp at hy; subst hy; exact .inr (Nat.le_refl _))
  refine hK.out _ _ (by with_reducible assumption) (fun _ => ?_)
  clear hK K
  try simp only [List.getElem_toArray, List.getElem_cons_succ, List.getElem_cons_zero, Act.put, List.setIfInBounds_toArray, List.set_cons_zero, List.set_cons_succ]
  refine wpAnyH_done (by kernel_rfl) ?_ _
  refine NoPanic.normal ?_
  generalize hgx : w1.heap.size = gx at *
  have q0 : w5.cell? ⟨ge, 0, none⟩ = some (.int .i64 e.kind) := hc6.cell e0 (by simp)
  have HB5 := Lib.hid hB5
  have HC6 := Lib.hid hc6
  clear hS0 HC0 HRF HLK hBx hcB hB5 hc5 hc6 e0 RF
  have hk1 : (e.kind == 1) = false := by simp [h5]
  have hk5 : (e.kind == 5) = true := by simp [h5]
  have d0 : w5.cell? ⟨gx, 0, none⟩ = some (.int .i64 x.st) := HB5.out.cell 0
  have d2 : w5.cell? ⟨gx, 2, none⟩ = some (.slice A x.ls.length c) := HB5.out.cell 2
  have d1 : w5.cell? ⟨ge, 1, none⟩ = some (.int .i64 e.node) := ev_at (HI.out.2.1.chg HC6.out (by simp)) 1
  have F2 := Lib.hid (contains_any (HLI.out.1.chg0 HC6.out) (by have := HLI.out.2.2; omega) e.node)
  have hb : (x.st != 1) = false := by simp [hs1]
  rw [decide_eq_true hin] at F2
  have hz5 := HC6.out.size
  have hgm : ge ≠ m := by omega
  have hxm : gx ≠ m := by omega
  clear hs1 hin h5
  go_upto_region 12 with fail
  refine F2.out.mono ?_
  rintro r w6 ⟨rfl, rfl⟩
  clear F2
  go_upto_region 12 with fail
  have hfx := HB5.out.frozen
  have dx1 : w5.cell? ⟨gx, 1, none⟩ = some (.int .i64 x.ow) := HB5.out.cell 1
  have hegx : ge ≠ gx := by have := HI.out.1.size; omega
  have hegy : gx ≠ ge := hegx.symm
  go_cut [] (fun wx => Blk wx gx 146 (arrL ⟨2, e.node, x.ls⟩ (.slice A x.ls.length c)) ∧ Chg [gx] w5 wx)
  case first =>
    have HF := Lib.hid HB5.out.drew
    go_region_with fail
    all_goals go_wp2_with fail
    all_goals go_meet
    · exact ⟨(HF.out.set_ 0 (.int .i64 2)).set_ 1 (.int .i64 e.node), ((Chg.refl [gx] w5).drew.setCell (.inl (by simp)) _).setCell (.inl (by simp)) _⟩
    · first | exact ⟨(HF.out.set_ 0 (.int .i64 2)).set_ 1 (.int .i64 e.node), ((Chg.refl [gx] w5).drew.setCell (.inl (by simp)) _).setCell (.inl (by simp)) _⟩ | exact ⟨(HF.out.set_ 1 (.int .i64 e.node)).set_ 0 (.int .i64 2), ((Chg.refl [gx] w5).drew.setCell (.inl (by simp)) _).setCell (.inl (by simp)) _⟩
  case rest =>
    obtain ⟨hBc, hcc⟩ := hcut
    have hm5 := (HI.out.2.2.chg0 HC6.out)
    have hcc0 : Chg [] w w → Chg [] w1 wc := fun _ => HC6.out.trans' hcc (by intro y hy; simp at hy; subst hy; exact .inr (by have := HI.out.1.size; omega))
    have hc1 : Chg [] w1 wc := hcc0 (Chg.refl _ _)
    have hmc := HI.out.2.2.chg0 hc1
    have hS0 : Chg [m] wc wc.drew := (Chg.refl [m] wc).drew
    have HC0 : ∀ W, Chg [m] wc W → W.cell? ⟨mb, 0, none⟩ = some (.map (some m)) := fun W hc => hc.cell (hmc.blk.cell 0) (by simpa using hmc.ne)
    have hBe5 := HI.out.2.1.chg hc1 (by simp)
    have HRF : ∀ W, Chg [m] wc W → W.rangeAt ge 2 (arrF e.flow).toList := fun W hc => rangeAt_chg (ev_flow hBe5) hc (by simpa using hgm)
    have HRX : ∀ W, Chg [m] wc W → W.rangeAt gx 0 (arrL ⟨2, e.node, x.ls⟩ (.slice A x.ls.length c)).toList := fun W hc => (hBc.chg hc (by simpa using hxm)).rangeQ
    have hlen : (⟨2, e.node, x.ls⟩ : Lf).ls.length ≤ 2 * (kk + 1) := by have := HLI.out.2.2; simp only; omega
    obtain ⟨w7, hr7, hm7, hc7⟩ := (hmc.chg0 (Chg.refl [] wc).drew).put (x := ⟨2, e.node, x.ls⟩) (v := .slice A x.ls.length c) he ((HLI.out.1.chg0 hc1).chg0 (Chg.refl [] wc).drew) HLI.out.2.1 hlen (by omega)
    have hS7 : Chg [m] wc w7 := (Chg.refl [m] wc).drew.trans hc7
    have HM7 := Lib.hid hm7
    have HW7 := Lib.hid (((HI.out.1.trans hc1).more (by simp)).trans hS7)
    clear hm7 hmc hm5 hcc0 hBe5 hBc hcc hc1 hlen
    go_upto_region 13 with fail
    refine wp_region_noPanic ?_
    refine wp_region_held_drew (S := Chg [m] wc) (by kernel_rfl) hS0 (fun _ => ?_)
    refine wpAnyH_take (i := 0) (v := ?_) rfl (by kernel_rfl) (by kernel_rfl) (by kernel_rfl) (fun _ _ _ h => h) (yields_pure (by rfl) (fun w => ?_)) (by with_reducible assumption) ?_
    rotate_left
    · (go_simp <;> with_reducible rfl)
    try simp only [List.getElem_toArray, List.getElem_cons_succ, List.getElem_cons_zero, Act.put, List.setIfInBounds_toArray, List.set_cons_zero, List.set_cons_succ]
    refine wpAnyH_take (i := 1) (v := ?_) rfl (by kernel_rfl) (by kernel_rfl) (by kernel_rfl) (fun _ _ _ h => h) (yields_pure (by rfl) (fun w => ?_)) (by with_reducible assumption) ?_
    rotate_left
    · (go_simp <;> with_reducible rfl)
    try simp only [List.getElem_toArray, List.getElem_cons_succ, List.getElem_cons_zero, Act.put, List.setIfInBounds_toArray, List.set_cons_zero, List.set_cons_succ]
    refine wpAnyH_take (i := 2) (v := ?_) rfl (by kernel_rfl) (by kernel_rfl) (by kernel_rfl) (fun _ _ _ h => h) (yields_pure (by rfl) (fun w => ?_)) (by with_reducible assumption) ?_
    rotate_left
    · (go_simp <;> with_reducible rfl)
    try simp only [List.getElem_toArray, List.getElem_cons_succ, List.getElem_cons_zero, Act.put, List.setIfInBounds_toArray, List.set_cons_zero, List.set_cons_succ]
    refine wpAnyH_take (i := 3) rfl (by kernel_rfl) (by kernel_rfl) (by kernel_rfl) (fun _ _ _ h => h) (yields_cell (by rfl) 89 (.tmp 55) rfl mb 0 rfl (.map (some m)) _ HC0 Try.underlying89 rfl) (by with_reducible assumption) ?_
    try simp only [List.getElem_toArray, List.getElem_cons_succ, List.getElem_cons_zero, Act.put, List.setIfInBounds_toArray, List.set_cons_zero, List.set_cons_succ]
    refine wpAnyH_take (i := 4) (v := ?_) rfl (by kernel_rfl) (by kernel_rfl) (by kernel_rfl) (fun _ _ _ h => h) (yields_pure (by rfl) (fun w => ?_)) (by with_reducible assumption) ?_
    rotate_left
    · (go_simp <;> with_reducible rfl)
    try simp only [List.getElem_toArray, List.getElem_cons_succ, List.getElem_cons_zero, Act.put, List.setIfInBounds_toArray, List.set_cons_zero, List.set_cons_succ]
    refine wpAnyH_take (i := 5) rfl (by kernel_rfl) (by kernel_rfl) (by kernel_rfl) (fun _ _ _ h => h) (yields_row (by rfl) 73 (.tmp 57) rfl ge 2 rfl (arrF e.flow) _ HRF Try.underlying73 rfl infF) (by with_reducible assumption) ?_
    try simp only [List.getElem_toArray, List.getElem_cons_succ, List.getElem_cons_zero, Act.put, List.setIfInBounds_toArray, List.set_cons_zero, List.set_cons_succ]
    refine wpAnyH_take (i := 6) rfl (by kernel_rfl) (by kernel_rfl) (by kernel_rfl) (fun _ _ _ h => h) (yields_row (by rfl) 146 (.tmp 5) rfl gx 0 rfl ((arrL ⟨2, e.node, x.ls⟩ (.slice A x.ls.length c))) _ HRX Try.underlying146 rfl (infL (x := x))) (by with_reducible assumption) ?_
    try simp only [List.getElem_toArray, List.getElem_cons_succ, List.getElem_cons_zero, Act.put, List.setIfInBounds_toArray, List.set_cons_zero, List.set_cons_succ]
    refine wpAnyH_ready (rs := [7]) (by kernel_rfl) (by simp) (AllReadyH.cons rfl (fun K hK => ?_) AllReadyH.nil)
    refine step_mapUpdate rfl 89 (.tmp 56) (.tmp 58) (.tmp 59) rfl rfl rfl rfl rfl hr7 ?_
    refine hK.out _ _ (by with_reducible assumption) (fun _ => ?_)
    clear hK K
    try simp only [List.getElem_toArray, List.getElem_cons_succ, List.getElem_cons_zero, Act.put, List.setIfInBounds_toArray, List.set_cons_zero, List.set_cons_succ]
    refine wpAnyH_done (by kernel_rfl) ?_ _
    refine NoPanic.normal ?_
    clear hS0 hS7 hr7 hc7 HC0 HRF HRX
    go_wp2_with fail
    go_ret
    refine ⟨rfl, ?_, HW7.out⟩
    obtain ⟨s7, h7⟩ := HM7.out
    rw [HX.out]
    exact ⟨_, _, s7, h7, hWm, hWb⟩
end Go.Proofs.Ytgbdbeaflilmlaa
