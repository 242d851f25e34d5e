/-
  WALK: the document's answer of chapter 44: Step. Condition: at most 300 flows, 900 nodes in a row.
-/
import Derived.Test.YtgbdbeaflilmlaaModelH
import Derived.Test.YtgbdbeaflilmlaaReg
import Derived.Deep.DeepCutAuto
set_option linter.unusedVariables false
set_option linter.unusedSimpArgs false
namespace Go.Proofs.Ytgbdbeaflilmlaa
open Go.RowKit Go.Maps

theorem step_load_one {P : Program} {ops : Array Oper} {op : Oper} {a : Act} {w : World} {K : Act → World → Prop} {Q : Exit → Act → World → Prop} {E : Prop} (hgd : op.guard = none) (ty : TypeId) (x : Operand) (ho : op.op = .load ty x) (b off : Nat) (hx : a.eval x = .pointer (some ⟨b, off, none⟩)) (v : Value) (d : TypeDesc)
    (hS : w.cell? ⟨b, off, none⟩ = some v) (hu : P.underlying ty = some d) (hd : d.isRow = false) (h : K (a.put op.dst v) w) : if Region.wanted op (yielded ops a.tmps) = true then Oper.wp P op a w K Q else E := by
  rw [if_pos (by simp [Region.wanted, hgd])]
  unfold Oper.wp execOp
  simp only [ho, hx, Instr.loadAt, Instr.sureAddr, Sem.run_bind, Sem.run_pure, Result.andThen_ok, run_loadVar_one w _ ty d v hS hu hd]
  exact h
def RS (w : World) (B : Nat) (R : List Rf) (L : List (Fl × Lf)) (b : Bool) (r : Ending) (w' : World) : Prop := ∃ v' R', r = .returned (.tuple #[v', .bool b]) ∧ SlR w' B v' R' ∧ livesR R' = L ∧ Chg [] w w'
set_option maxRecDepth 100000 in
set_option maxHeartbeats 1000000 in
theorem rstep_zero {w : World} {B : Nat} {v : Value} {R : List Rf} (h : SlR w B v R) (hR : R.length ≤ 300) (hB : B ≤ w.heap.size) {e : Ev} (he : okE e) (hz : e.flow = zF)  :
    Calls Try.prog 25 #[v, .agg (arrE e)] w fun r w' => RS w B R (livesR R) true r w' := by
  have hz' : decide (e.flow = zF) = true := by simp [hz]
  have hE1 := fun W => eq_fl W he okF_z
  rw [hz'] at hE1
  have hcA := (Chg.refl [] w).alloc (.cells (arrE e) 75)
  have hBe : Blk (w.alloc (.cells (arrE e) 75)) w.heap.size 75 (arrE e) := Blk.new _ _ _
  have RF := Lib.hid (ev_flow hBe)
  have HI := Lib.hid (And.intro hcA (h.chg0 hcA))
  obtain ⟨A0, c0, hv0⟩ := Sl.form h.1
  subst hv0
  clear hcA hBe h hz' hz
  go_enter Try.func25, Try.ntmps25
  go_wp2_with (first
    | (refine wpList_row 73 (.tmp 7) rfl rfl w.heap.size 2 rfl (arrF e.flow) _ RF.out Try.underlying73 rfl infF ?_)
    | fail)
  go_ret2
  exact ⟨_, R, rfl, HI.out.2, rfl, HI.out.1⟩
set_option maxRecDepth 100000 in
set_option maxHeartbeats 1000000 in
theorem rstep_no {w : World} {B : Nat} {v : Value} {R : List Rf} (h : SlR w B v R) (hR : R.length ≤ 300) (hB : B ≤ w.heap.size) {e : Ev} (he : okE e) (hz : ¬ e.flow = zF) (h5 : e.kind = 5) (hno : ¬ (((DR (livesR R) e.flow).getD zL).st = 1 ∧ e.node ∈ ((DR (livesR R) e.flow).getD zL).ls)) (hl : ((DR (livesR R) e.flow).getD zL).ls.length ≤ 900) :
    Calls Try.prog 25 #[v, .agg (arrE e)] w fun r w' => RS w B R (livesR R) false r w' := by
  have hz' : decide (e.flow = zF) = false := by simp [hz]
  have hE1 := fun W => eq_fl W he okF_z
  rw [hz'] at hE1
  have hcA := (Chg.refl [] w).alloc (.cells (arrE e) 75)
  have hBe : Blk (w.alloc (.cells (arrE e) 75)) w.heap.size 75 (arrE e) := Blk.new _ _ _
  have hge : w.heap.size < (w.alloc (.cells (arrE e) 75)).heap.size := by simp
  have HI := Lib.hid (And.intro hcA (And.intro hBe (h.chg0 hcA)))
  have HQ := Lib.hid (And.intro (find_lives R e.flow) (find_ok (h.chg0 hcA).2 he))
  have HX : Hid ((DR (livesR R) e.flow).getD zL = (findR44 R e.flow).x) := Lib.hid HQ.out.1.2.symm
  obtain ⟨A0, c0, hv0⟩ := Sl.form h.1
  subst hv0
  clear hcA hBe h hz'
  go_enter Try.func25, Try.ntmps25
  go_upto_region 1 with fail
  generalize w.alloc (.cells (arrE e) 75) = w1 at *
  generalize hg : w.heap.size = ge at *
  have e0 : w1.cell? ⟨ge, 0, none⟩ = some (.int .i64 e.kind) := ev_at HI.out.2.1 0
  have RF := Lib.hid (ev_flow HI.out.2.1)
  have F1 := Lib.hid (rfind_any HI.out.2.2 hR he)
  go_wp2_with (first
    | (refine wpList_row 73 (.tmp 7) rfl rfl ge 2 rfl (arrF e.flow) _ RF.out Try.underlying73 rfl infF ?_)
    | (refine wpList_row 73 (.tmp 13) rfl rfl ge 2 rfl (arrF e.flow) _ RF.out Try.underlying73 rfl infF ?_)
    | fail)
  refine F1.out.mono ?_
  rintro r w2 ⟨rfl, hc2⟩
  have HQ2 : Hid (okR w2 B (findR44 R e.flow)) := Lib.hid (HQ.out.2.chg hc2 (by simp))
  have HQ1 := Lib.hid HQ.out.1.1
  have hcx := (Chg.refl [] w2).alloc (.cells arrZ78 78)
  have hBl : Blk (w2.alloc (.cells arrZ78 78)) w2.heap.size 78 arrZ78 := Blk.new _ _ _
  have ho := Lib.hid HQ2.out.oneA
  generalize findR44 R e.flow = q at *
  have hz2 := hc2.size
  have HC2 := Lib.hid hc2
  clear F1 hc2
  go_upto_region 4 with (first
    | (refine wpList_store_blk rfl 78 _ _ rfl rfl hBl rfl rfl rfl (infR (r := q)) ho.out ?_; intro w5 hB5 hc5)
    | fail)
  have hc6 : Chg [] w1 w5 := HC2.out.trans (hcx.trans' hc5 (by intro y hy; simp at hy; subst hy; exact .inr (Nat.le_refl _)))
  have HQ5 : Hid (okR w5 B q) := Lib.hid (HQ2.out.chg (hcx.trans' hc5 (by intro y hy; simp at hy; subst hy; exact .inr (Nat.le_refl _))) (by simp))
  generalize hgl : w2.heap.size = gl at *
  have q0 : w5.cell? ⟨ge, 0, none⟩ = some (.int .i64 e.kind) := hc6.cell e0 (by simp)
  have HB5 := Lib.hid hB5
  have HC6 := Lib.hid hc6
  have hegl : ge ≠ gl := by omega
  have HBE := Lib.hid (HI.out.2.1.chg hc6 (by simp))
  have HSL := Lib.hid (HI.out.2.2.chg0 hc6)
  clear hcx hBl hB5 hc5 hc6 e0 RF HQ2 HC2
  rw [HX.out] at hno hl
  have hk1 : (e.kind == 1) = false := by simp [h5]
  have hk5 : (e.kind == 5) = true := by simp [h5]
  have d0 : w5.cell? ⟨gl, 34, none⟩ = some (.int .i64 q.x.st) := HB5.out.cell 34
  obtain ⟨A1, k1, hv1⟩ := Sl.form HQ5.out.2.1
  have d2 : w5.cell? ⟨gl, 36, none⟩ = some (.slice A1 q.x.ls.length k1) := by rw [← hv1]; exact HB5.out.cell 36
  have d1 : w5.cell? ⟨ge, 1, none⟩ = some (.int .i64 e.node) := ev_at HBE.out 1
  have F2 := rin_any HQ5.out.2.1 (by omega) e.node
  rw [hv1] at F2
  have hgl' := hgl
  clear hv1
  by_cases hs1 : q.x.st = 1
  · have hb : (q.x.st != 1) = false := by simp [hs1]
    have hm : ¬ e.node ∈ q.x.ls := fun hm => hno ⟨hs1, hm⟩
    rw [decide_eq_false hm] at F2
    have F3 := Lib.hid F2
    clear hno hm hs1 h5 F2
    go_wp2_with fail
    refine F3.out.mono ?_
    rintro r w6 ⟨rfl, rfl⟩
    go_wp2_with fail
    go_ret2
    refine ⟨_, R, rfl, HSL.out, rfl, HI.out.1.trans HC6.out⟩
  · have hb : (q.x.st != 1) = true := by simp [hs1]
    clear hno hs1 h5 F2
    go_wp2_with fail
    go_ret2
    refine ⟨_, R, rfl, HSL.out, rfl, HI.out.1.trans HC6.out⟩
set_option maxRecDepth 100000 in
set_option maxHeartbeats 1000000 in
theorem rstep_has {w : World} {B : Nat} {v : Value} {R : List Rf} (h : SlR w B v R) (hR : R.length ≤ 300) (hB : B ≤ w.heap.size) {e : Ev} (he : okE e) (hz : ¬ e.flow = zF) (hk : e.kind = 3 ∨ e.kind = 4 ∨ e.kind = 7 ∨ e.kind = 10) :
    Calls Try.prog 25 #[v, .agg (arrE e)] w fun r w' => RS w B R (livesR R) (decide (((DR (livesR R) e.flow).getD zL).st = 2 ∧ ((DR (livesR R) e.flow).getD zL).ow = e.node)) r w' := by
  have hz' : decide (e.flow = zF) = false := by simp [hz]
  have hE1 := fun W => eq_fl W he okF_z
  rw [hz'] at hE1
  have hcA := (Chg.refl [] w).alloc (.cells (arrE e) 75)
  have hBe : Blk (w.alloc (.cells (arrE e) 75)) w.heap.size 75 (arrE e) := Blk.new _ _ _
  have hge : w.heap.size < (w.alloc (.cells (arrE e) 75)).heap.size := by simp
  have HI := Lib.hid (And.intro hcA (And.intro hBe (h.chg0 hcA)))
  have HQ := Lib.hid (And.intro (find_lives R e.flow) (find_ok (h.chg0 hcA).2 he))
  have HX : Hid ((DR (livesR R) e.flow).getD zL = (findR44 R e.flow).x) := Lib.hid HQ.out.1.2.symm
  obtain ⟨A0, c0, hv0⟩ := Sl.form h.1
  subst hv0
  clear hcA hBe h hz'
  go_enter Try.func25, Try.ntmps25
  go_upto_region 1 with fail
  generalize w.alloc (.cells (arrE e) 75) = w1 at *
  generalize hg : w.heap.size = ge at *
  have e0 : w1.cell? ⟨ge, 0, none⟩ = some (.int .i64 e.kind) := ev_at HI.out.2.1 0
  have RF := Lib.hid (ev_flow HI.out.2.1)
  have F1 := Lib.hid (rfind_any HI.out.2.2 hR he)
  go_wp2_with (first
    | (refine wpList_row 73 (.tmp 7) rfl rfl ge 2 rfl (arrF e.flow) _ RF.out Try.underlying73 rfl infF ?_)
    | (refine wpList_row 73 (.tmp 13) rfl rfl ge 2 rfl (arrF e.flow) _ RF.out Try.underlying73 rfl infF ?_)
    | fail)
  refine F1.out.mono ?_
  rintro r w2 ⟨rfl, hc2⟩
  have HQ2 : Hid (okR w2 B (findR44 R e.flow)) := Lib.hid (HQ.out.2.chg hc2 (by simp))
  have HQ1 := Lib.hid HQ.out.1.1
  have hcx := (Chg.refl [] w2).alloc (.cells arrZ78 78)
  have hBl : Blk (w2.alloc (.cells arrZ78 78)) w2.heap.size 78 arrZ78 := Blk.new _ _ _
  have ho := Lib.hid HQ2.out.oneA
  generalize findR44 R e.flow = q at *
  have hz2 := hc2.size
  have HC2 := Lib.hid hc2
  clear F1 hc2
  go_upto_region 4 with (first
    | (refine wpList_store_blk rfl 78 _ _ rfl rfl hBl rfl rfl rfl (infR (r := q)) ho.out ?_; intro w5 hB5 hc5)
    | fail)
  have hc6 : Chg [] w1 w5 := HC2.out.trans (hcx.trans' hc5 (by intro y hy; simp at hy; subst hy; exact .inr (Nat.le_refl _)))
  have HQ5 : Hid (okR w5 B q) := Lib.hid (HQ2.out.chg (hcx.trans' hc5 (by intro y hy; simp at hy; subst hy; exact .inr (Nat.le_refl _))) (by simp))
  generalize hgl : w2.heap.size = gl at *
  have q0 : w5.cell? ⟨ge, 0, none⟩ = some (.int .i64 e.kind) := hc6.cell e0 (by simp)
  have HB5 := Lib.hid hB5
  have HC6 := Lib.hid hc6
  have hegl : ge ≠ gl := by omega
  have HBE := Lib.hid (HI.out.2.1.chg hc6 (by simp))
  have HSL := Lib.hid (HI.out.2.2.chg0 hc6)
  clear hcx hBl hB5 hc5 hc6 e0 RF HQ2 HC2
  have hk1 : (e.kind == 1) = false := by rcases hk with h | h | h | h <;> simp [h]
  have hk5 : (e.kind == 5) = false := by rcases hk with h | h | h | h <;> simp [h]
  have D0 := Lib.hid (fun w' (hc : Chg [] w5 w') => (hc.cell (HB5.out.cell 34) (by simp) : w'.cell? ⟨gl, 34, none⟩ = some (.int .i64 q.x.st)))
  have D1 := Lib.hid (fun w' (hc : Chg [] w5 w') => (hc.cell (HB5.out.cell 35) (by simp) : w'.cell? ⟨gl, 35, none⟩ = some (.int .i64 q.x.ow)))
  have D2 := Lib.hid (fun w' (hc : Chg [] w5 w') => (hc.cell (ev_at HBE.out 1) (by simp) : w'.cell? ⟨ge, 1, none⟩ = some (.int .i64 e.node)))
  rcases hk with hk | hk | hk | hk
  · have b3 : (e.kind == 3) = true := by simp [hk]
    have b4 : (e.kind == 4) = false := by simp [hk]
    have b7 : (e.kind == 7) = false := by simp [hk]
    have b10 : (e.kind == 10) = false := by simp [hk]
    clear hk
    go_upto_region 19 with fail
    by_cases h2 : q.x.st = 2
    · have b2 : (q.x.st == 2) = true := by simp [h2]
      have HV : Hid ((decide (q.x.st = 2 ∧ q.x.ow = e.node)) = (q.x.ow == e.node)) := Lib.hid (by simp [h2]; rfl)
      clear h2
      refine wp_region_chg (by kernel_rfl) (by kernel_rfl) ?_
      (with_reducible refine wpQuiet_pure (v := ?_) ?_ (fun w => ?_) ?_); rotate_left; (focus rfl); (focus (go_simp <;> with_reducible rfl)); (try simp only [List.getElem_toArray, List.getElem_cons_succ, List.getElem_cons_zero, Act.put, List.setIfInBounds_toArray, List.set_cons_zero, List.set_cons_succ])
      (with_reducible refine wpQuiet_pure (v := ?_) ?_ (fun w => ?_) ?_); rotate_left; (focus rfl); (focus (go_simp <;> with_reducible rfl)); (try simp only [List.getElem_toArray, List.getElem_cons_succ, List.getElem_cons_zero, Act.put, List.setIfInBounds_toArray, List.set_cons_zero, List.set_cons_succ])
      (with_reducible refine wpQuiet_cellC 3 (.tmp 63) ?_ ?_ gl 34 ?_ (.int .i64 q.x.st) _ D0.out Try.underlying3 ?_ ?_); (focus rfl); (focus rfl); (focus rfl); (focus rfl); (try simp only [List.getElem_toArray, List.getElem_cons_succ, List.getElem_cons_zero, Act.put, List.setIfInBounds_toArray, List.set_cons_zero, List.set_cons_succ])
      skip
      (with_reducible refine wpQuiet_pure (v := ?_) ?_ (fun w => ?_) ?_); rotate_left; (focus rfl); (focus (go_simp <;> with_reducible rfl)); (try simp only [List.getElem_toArray, List.getElem_cons_succ, List.getElem_cons_zero, Act.put, List.setIfInBounds_toArray, List.set_cons_zero, List.set_cons_succ])
      (try simp only [b2])
      (with_reducible refine wpQuiet_pure (v := ?_) ?_ (fun w => ?_) ?_); rotate_left; (focus rfl); (focus (go_simp <;> with_reducible rfl)); (try simp only [List.getElem_toArray, List.getElem_cons_succ, List.getElem_cons_zero, Act.put, List.setIfInBounds_toArray, List.set_cons_zero, List.set_cons_succ])
      (with_reducible refine wpQuiet_pure (v := ?_) ?_ (fun w => ?_) ?_); rotate_left; (focus rfl); (focus (go_simp <;> with_reducible rfl)); (try simp only [List.getElem_toArray, List.getElem_cons_succ, List.getElem_cons_zero, Act.put, List.setIfInBounds_toArray, List.set_cons_zero, List.set_cons_succ])
      (with_reducible refine wpQuiet_cellC 3 (.tmp 67) ?_ ?_ gl 35 ?_ (.int .i64 q.x.ow) _ D1.out Try.underlying3 ?_ ?_); (focus rfl); (focus rfl); (focus rfl); (focus rfl); (try simp only [List.getElem_toArray, List.getElem_cons_succ, List.getElem_cons_zero, Act.put, List.setIfInBounds_toArray, List.set_cons_zero, List.set_cons_succ])
      (with_reducible refine wpQuiet_pure (v := ?_) ?_ (fun w => ?_) ?_); rotate_left; (focus rfl); (focus (go_simp <;> with_reducible rfl)); (try simp only [List.getElem_toArray, List.getElem_cons_succ, List.getElem_cons_zero, Act.put, List.setIfInBounds_toArray, List.set_cons_zero, List.set_cons_succ])
      (with_reducible refine wpQuiet_cellC 3 (.tmp 69) ?_ ?_ ge 1 ?_ (.int .i64 e.node) _ D2.out Try.underlying3 ?_ ?_); (focus rfl); (focus rfl); (focus rfl); (focus rfl); (try simp only [List.getElem_toArray, List.getElem_cons_succ, List.getElem_cons_zero, Act.put, List.setIfInBounds_toArray, List.set_cons_zero, List.set_cons_succ])
      (with_reducible refine wpQuiet_pure (v := ?_) ?_ (fun w => ?_) ?_); rotate_left; (focus rfl); (focus (go_simp <;> with_reducible rfl)); (try simp only [List.getElem_toArray, List.getElem_cons_succ, List.getElem_cons_zero, Act.put, List.setIfInBounds_toArray, List.set_cons_zero, List.set_cons_succ])
      (with_reducible refine wpQuiet_pure (v := ?_) ?_ (fun w => ?_) ?_); rotate_left; (focus rfl); (focus (go_simp <;> with_reducible rfl)); (try simp only [List.getElem_toArray, List.getElem_cons_succ, List.getElem_cons_zero, Act.put, List.setIfInBounds_toArray, List.set_cons_zero, List.set_cons_succ])
      (with_reducible refine wpQuiet_pure (v := ?_) ?_ (fun w => ?_) ?_); rotate_left; (focus rfl); (focus (go_simp <;> with_reducible rfl)); (try simp only [List.getElem_toArray, List.getElem_cons_succ, List.getElem_cons_zero, Act.put, List.setIfInBounds_toArray, List.set_cons_zero, List.set_cons_succ])
      (with_reducible refine wpQuiet_pure (v := ?_) ?_ (fun w => ?_) ?_); rotate_left; (focus rfl); (focus (go_simp <;> with_reducible rfl)); (try simp only [List.getElem_toArray, List.getElem_cons_succ, List.getElem_cons_zero, Act.put, List.setIfInBounds_toArray, List.set_cons_zero, List.set_cons_succ])
      refine wpQuiet_nil ?_
      intro w6 hc6
      have HC7 := Lib.hid hc6
      clear hc6 D0 D1 D2
      go_wp2_with fail
      go_ret2
      refine ⟨_, R, by rw [HX.out, HV.out]; rfl, HSL.out.chg0 HC7.out, rfl, (HI.out.1.trans HC6.out).trans HC7.out⟩
    · have b2 : (q.x.st == 2) = false := by simp [h2]
      have HV : Hid ((decide (q.x.st = 2 ∧ q.x.ow = e.node)) = false) := Lib.hid (decide_eq_false (fun h => h2 h.1))
      clear h2
      refine wp_region_chg (by kernel_rfl) (by kernel_rfl) ?_
      (with_reducible refine wpQuiet_pure (v := ?_) ?_ (fun w => ?_) ?_); rotate_left; (focus rfl); (focus (go_simp <;> with_reducible rfl)); (try simp only [List.getElem_toArray, List.getElem_cons_succ, List.getElem_cons_zero, Act.put, List.setIfInBounds_toArray, List.set_cons_zero, List.set_cons_succ])
      (with_reducible refine wpQuiet_pure (v := ?_) ?_ (fun w => ?_) ?_); rotate_left; (focus rfl); (focus (go_simp <;> with_reducible rfl)); (try simp only [List.getElem_toArray, List.getElem_cons_succ, List.getElem_cons_zero, Act.put, List.setIfInBounds_toArray, List.set_cons_zero, List.set_cons_succ])
      (with_reducible refine wpQuiet_cellC 3 (.tmp 63) ?_ ?_ gl 34 ?_ (.int .i64 q.x.st) _ D0.out Try.underlying3 ?_ ?_); (focus rfl); (focus rfl); (focus rfl); (focus rfl); (try simp only [List.getElem_toArray, List.getElem_cons_succ, List.getElem_cons_zero, Act.put, List.setIfInBounds_toArray, List.set_cons_zero, List.set_cons_succ])
      (with_reducible refine wpQuiet_pure (v := ?_) ?_ (fun w => ?_) ?_); rotate_left; (focus rfl); (focus (go_simp <;> with_reducible rfl)); (try simp only [List.getElem_toArray, List.getElem_cons_succ, List.getElem_cons_zero, Act.put, List.setIfInBounds_toArray, List.set_cons_zero, List.set_cons_succ])
      (try simp only [b2])
      (with_reducible refine wpQuiet_pure (v := ?_) ?_ (fun w => ?_) ?_); rotate_left; (focus rfl); (focus (go_simp <;> with_reducible rfl)); (try simp only [List.getElem_toArray, List.getElem_cons_succ, List.getElem_cons_zero, Act.put, List.setIfInBounds_toArray, List.set_cons_zero, List.set_cons_succ])
      (with_reducible refine wpQuiet_skip ?_ ?_); (focus rfl); (try simp only [List.getElem_toArray, List.getElem_cons_succ, List.getElem_cons_zero, Act.put, List.setIfInBounds_toArray, List.set_cons_zero, List.set_cons_succ])
      (with_reducible refine wpQuiet_skip ?_ ?_); (focus rfl); (try simp only [List.getElem_toArray, List.getElem_cons_succ, List.getElem_cons_zero, Act.put, List.setIfInBounds_toArray, List.set_cons_zero, List.set_cons_succ])
      (with_reducible refine wpQuiet_skip ?_ ?_); (focus rfl); (try simp only [List.getElem_toArray, List.getElem_cons_succ, List.getElem_cons_zero, Act.put, List.setIfInBounds_toArray, List.set_cons_zero, List.set_cons_succ])
      (with_reducible refine wpQuiet_skip ?_ ?_); (focus rfl); (try simp only [List.getElem_toArray, List.getElem_cons_succ, List.getElem_cons_zero, Act.put, List.setIfInBounds_toArray, List.set_cons_zero, List.set_cons_succ])
      (with_reducible refine wpQuiet_skip ?_ ?_); (focus rfl); (try simp only [List.getElem_toArray, List.getElem_cons_succ, List.getElem_cons_zero, Act.put, List.setIfInBounds_toArray, List.set_cons_zero, List.set_cons_succ])
      (with_reducible refine wpQuiet_pure (v := ?_) ?_ (fun w => ?_) ?_); rotate_left; (focus rfl); (focus (go_simp <;> with_reducible rfl)); (try simp only [List.getElem_toArray, List.getElem_cons_succ, List.getElem_cons_zero, Act.put, List.setIfInBounds_toArray, List.set_cons_zero, List.set_cons_succ])
      (with_reducible refine wpQuiet_pure (v := ?_) ?_ (fun w => ?_) ?_); rotate_left; (focus rfl); (focus (go_simp <;> with_reducible rfl)); (try simp only [List.getElem_toArray, List.getElem_cons_succ, List.getElem_cons_zero, Act.put, List.setIfInBounds_toArray, List.set_cons_zero, List.set_cons_succ])
      (with_reducible refine wpQuiet_pure (v := ?_) ?_ (fun w => ?_) ?_); rotate_left; (focus rfl); (focus (go_simp <;> with_reducible rfl)); (try simp only [List.getElem_toArray, List.getElem_cons_succ, List.getElem_cons_zero, Act.put, List.setIfInBounds_toArray, List.set_cons_zero, List.set_cons_succ])
      refine wpQuiet_nil ?_
      intro w6 hc6
      have HC7 := Lib.hid hc6
      clear hc6 D0 D1 D2
      go_wp2_with fail
      go_ret2
      refine ⟨_, R, by rw [HX.out, HV.out]; rfl, HSL.out.chg0 HC7.out, rfl, (HI.out.1.trans HC6.out).trans HC7.out⟩
  · have b3 : (e.kind == 3) = false := by simp [hk]
    have b4 : (e.kind == 4) = true := by simp [hk]
    have b7 : (e.kind == 7) = false := by simp [hk]
    have b10 : (e.kind == 10) = false := by simp [hk]
    clear hk
    go_upto_region 19 with fail
    by_cases h2 : q.x.st = 2
    · have b2 : (q.x.st == 2) = true := by simp [h2]
      have HV : Hid ((decide (q.x.st = 2 ∧ q.x.ow = e.node)) = (q.x.ow == e.node)) := Lib.hid (by simp [h2]; rfl)
      clear h2
      refine wp_region_chg (by kernel_rfl) (by kernel_rfl) ?_
      (with_reducible refine wpQuiet_pure (v := ?_) ?_ (fun w => ?_) ?_); rotate_left; (focus rfl); (focus (go_simp <;> with_reducible rfl)); (try simp only [List.getElem_toArray, List.getElem_cons_succ, List.getElem_cons_zero, Act.put, List.setIfInBounds_toArray, List.set_cons_zero, List.set_cons_succ])
      (with_reducible refine wpQuiet_pure (v := ?_) ?_ (fun w => ?_) ?_); rotate_left; (focus rfl); (focus (go_simp <;> with_reducible rfl)); (try simp only [List.getElem_toArray, List.getElem_cons_succ, List.getElem_cons_zero, Act.put, List.setIfInBounds_toArray, List.set_cons_zero, List.set_cons_succ])
      (with_reducible refine wpQuiet_cellC 3 (.tmp 63) ?_ ?_ gl 34 ?_ (.int .i64 q.x.st) _ D0.out Try.underlying3 ?_ ?_); (focus rfl); (focus rfl); (focus rfl); (focus rfl); (try simp only [List.getElem_toArray, List.getElem_cons_succ, List.getElem_cons_zero, Act.put, List.setIfInBounds_toArray, List.set_cons_zero, List.set_cons_succ])
      skip
      (with_reducible refine wpQuiet_pure (v := ?_) ?_ (fun w => ?_) ?_); rotate_left; (focus rfl); (focus (go_simp <;> with_reducible rfl)); (try simp only [List.getElem_toArray, List.getElem_cons_succ, List.getElem_cons_zero, Act.put, List.setIfInBounds_toArray, List.set_cons_zero, List.set_cons_succ])
      (try simp only [b2])
      (with_reducible refine wpQuiet_pure (v := ?_) ?_ (fun w => ?_) ?_); rotate_left; (focus rfl); (focus (go_simp <;> with_reducible rfl)); (try simp only [List.getElem_toArray, List.getElem_cons_succ, List.getElem_cons_zero, Act.put, List.setIfInBounds_toArray, List.set_cons_zero, List.set_cons_succ])
      (with_reducible refine wpQuiet_pure (v := ?_) ?_ (fun w => ?_) ?_); rotate_left; (focus rfl); (focus (go_simp <;> with_reducible rfl)); (try simp only [List.getElem_toArray, List.getElem_cons_succ, List.getElem_cons_zero, Act.put, List.setIfInBounds_toArray, List.set_cons_zero, List.set_cons_succ])
      (with_reducible refine wpQuiet_cellC 3 (.tmp 67) ?_ ?_ gl 35 ?_ (.int .i64 q.x.ow) _ D1.out Try.underlying3 ?_ ?_); (focus rfl); (focus rfl); (focus rfl); (focus rfl); (try simp only [List.getElem_toArray, List.getElem_cons_succ, List.getElem_cons_zero, Act.put, List.setIfInBounds_toArray, List.set_cons_zero, List.set_cons_succ])
      (with_reducible refine wpQuiet_pure (v := ?_) ?_ (fun w => ?_) ?_); rotate_left; (focus rfl); (focus (go_simp <;> with_reducible rfl)); (try simp only [List.getElem_toArray, List.getElem_cons_succ, List.getElem_cons_zero, Act.put, List.setIfInBounds_toArray, List.set_cons_zero, List.set_cons_succ])
      (with_reducible refine wpQuiet_cellC 3 (.tmp 69) ?_ ?_ ge 1 ?_ (.int .i64 e.node) _ D2.out Try.underlying3 ?_ ?_); (focus rfl); (focus rfl); (focus rfl); (focus rfl); (try simp only [List.getElem_toArray, List.getElem_cons_succ, List.getElem_cons_zero, Act.put, List.setIfInBounds_toArray, List.set_cons_zero, List.set_cons_succ])
      (with_reducible refine wpQuiet_pure (v := ?_) ?_ (fun w => ?_) ?_); rotate_left; (focus rfl); (focus (go_simp <;> with_reducible rfl)); (try simp only [List.getElem_toArray, List.getElem_cons_succ, List.getElem_cons_zero, Act.put, List.setIfInBounds_toArray, List.set_cons_zero, List.set_cons_succ])
      (with_reducible refine wpQuiet_pure (v := ?_) ?_ (fun w => ?_) ?_); rotate_left; (focus rfl); (focus (go_simp <;> with_reducible rfl)); (try simp only [List.getElem_toArray, List.getElem_cons_succ, List.getElem_cons_zero, Act.put, List.setIfInBounds_toArray, List.set_cons_zero, List.set_cons_succ])
      (with_reducible refine wpQuiet_pure (v := ?_) ?_ (fun w => ?_) ?_); rotate_left; (focus rfl); (focus (go_simp <;> with_reducible rfl)); (try simp only [List.getElem_toArray, List.getElem_cons_succ, List.getElem_cons_zero, Act.put, List.setIfInBounds_toArray, List.set_cons_zero, List.set_cons_succ])
      (with_reducible refine wpQuiet_pure (v := ?_) ?_ (fun w => ?_) ?_); rotate_left; (focus rfl); (focus (go_simp <;> with_reducible rfl)); (try simp only [List.getElem_toArray, List.getElem_cons_succ, List.getElem_cons_zero, Act.put, List.setIfInBounds_toArray, List.set_cons_zero, List.set_cons_succ])
      refine wpQuiet_nil ?_
      intro w6 hc6
      have HC7 := Lib.hid hc6
      clear hc6 D0 D1 D2
      go_wp2_with fail
      go_ret2
      refine ⟨_, R, by rw [HX.out, HV.out]; rfl, HSL.out.chg0 HC7.out, rfl, (HI.out.1.trans HC6.out).trans HC7.out⟩
    · have b2 : (q.x.st == 2) = false := by simp [h2]
      have HV : Hid ((decide (q.x.st = 2 ∧ q.x.ow = e.node)) = false) := Lib.hid (decide_eq_false (fun h => h2 h.1))
      clear h2
      refine wp_region_chg (by kernel_rfl) (by kernel_rfl) ?_
      (with_reducible refine wpQuiet_pure (v := ?_) ?_ (fun w => ?_) ?_); rotate_left; (focus rfl); (focus (go_simp <;> with_reducible rfl)); (try simp only [List.getElem_toArray, List.getElem_cons_succ, List.getElem_cons_zero, Act.put, List.setIfInBounds_toArray, List.set_cons_zero, List.set_cons_succ])
      (with_reducible refine wpQuiet_pure (v := ?_) ?_ (fun w => ?_) ?_); rotate_left; (focus rfl); (focus (go_simp <;> with_reducible rfl)); (try simp only [List.getElem_toArray, List.getElem_cons_succ, List.getElem_cons_zero, Act.put, List.setIfInBounds_toArray, List.set_cons_zero, List.set_cons_succ])
      (with_reducible refine wpQuiet_cellC 3 (.tmp 63) ?_ ?_ gl 34 ?_ (.int .i64 q.x.st) _ D0.out Try.underlying3 ?_ ?_); (focus rfl); (focus rfl); (focus rfl); (focus rfl); (try simp only [List.getElem_toArray, List.getElem_cons_succ, List.getElem_cons_zero, Act.put, List.setIfInBounds_toArray, List.set_cons_zero, List.set_cons_succ])
      (with_reducible refine wpQuiet_pure (v := ?_) ?_ (fun w => ?_) ?_); rotate_left; (focus rfl); (focus (go_simp <;> with_reducible rfl)); (try simp only [List.getElem_toArray, List.getElem_cons_succ, List.getElem_cons_zero, Act.put, List.setIfInBounds_toArray, List.set_cons_zero, List.set_cons_succ])
      (try simp only [b2])
      (with_reducible refine wpQuiet_pure (v := ?_) ?_ (fun w => ?_) ?_); rotate_left; (focus rfl); (focus (go_simp <;> with_reducible rfl)); (try simp only [List.getElem_toArray, List.getElem_cons_succ, List.getElem_cons_zero, Act.put, List.setIfInBounds_toArray, List.set_cons_zero, List.set_cons_succ])
      (with_reducible refine wpQuiet_skip ?_ ?_); (focus rfl); (try simp only [List.getElem_toArray, List.getElem_cons_succ, List.getElem_cons_zero, Act.put, List.setIfInBounds_toArray, List.set_cons_zero, List.set_cons_succ])
      (with_reducible refine wpQuiet_skip ?_ ?_); (focus rfl); (try simp only [List.getElem_toArray, List.getElem_cons_succ, List.getElem_cons_zero, Act.put, List.setIfInBounds_toArray, List.set_cons_zero, List.set_cons_succ])
      (with_reducible refine wpQuiet_skip ?_ ?_); (focus rfl); (try simp only [List.getElem_toArray, List.getElem_cons_succ, List.getElem_cons_zero, Act.put, List.setIfInBounds_toArray, List.set_cons_zero, List.set_cons_succ])
      (with_reducible refine wpQuiet_skip ?_ ?_); (focus rfl); (try simp only [List.getElem_toArray, List.getElem_cons_succ, List.getElem_cons_zero, Act.put, List.setIfInBounds_toArray, List.set_cons_zero, List.set_cons_succ])
      (with_reducible refine wpQuiet_skip ?_ ?_); (focus rfl); (try simp only [List.getElem_toArray, List.getElem_cons_succ, List.getElem_cons_zero, Act.put, List.setIfInBounds_toArray, List.set_cons_zero, List.set_cons_succ])
      (with_reducible refine wpQuiet_pure (v := ?_) ?_ (fun w => ?_) ?_); rotate_left; (focus rfl); (focus (go_simp <;> with_reducible rfl)); (try simp only [List.getElem_toArray, List.getElem_cons_succ, List.getElem_cons_zero, Act.put, List.setIfInBounds_toArray, List.set_cons_zero, List.set_cons_succ])
      (with_reducible refine wpQuiet_pure (v := ?_) ?_ (fun w => ?_) ?_); rotate_left; (focus rfl); (focus (go_simp <;> with_reducible rfl)); (try simp only [List.getElem_toArray, List.getElem_cons_succ, List.getElem_cons_zero, Act.put, List.setIfInBounds_toArray, List.set_cons_zero, List.set_cons_succ])
      (with_reducible refine wpQuiet_pure (v := ?_) ?_ (fun w => ?_) ?_); rotate_left; (focus rfl); (focus (go_simp <;> with_reducible rfl)); (try simp only [List.getElem_toArray, List.getElem_cons_succ, List.getElem_cons_zero, Act.put, List.setIfInBounds_toArray, List.set_cons_zero, List.set_cons_succ])
      refine wpQuiet_nil ?_
      intro w6 hc6
      have HC7 := Lib.hid hc6
      clear hc6 D0 D1 D2
      go_wp2_with fail
      go_ret2
      refine ⟨_, R, by rw [HX.out, HV.out]; rfl, HSL.out.chg0 HC7.out, rfl, (HI.out.1.trans HC6.out).trans HC7.out⟩
  · have b3 : (e.kind == 3) = false := by simp [hk]
    have b4 : (e.kind == 4) = false := by simp [hk]
    have b7 : (e.kind == 7) = true := by simp [hk]
    have b10 : (e.kind == 10) = false := by simp [hk]
    clear hk
    go_upto_region 19 with fail
    by_cases h2 : q.x.st = 2
    · have b2 : (q.x.st == 2) = true := by simp [h2]
      have HV : Hid ((decide (q.x.st = 2 ∧ q.x.ow = e.node)) = (q.x.ow == e.node)) := Lib.hid (by simp [h2]; rfl)
      clear h2
      refine wp_region_chg (by kernel_rfl) (by kernel_rfl) ?_
      (with_reducible refine wpQuiet_pure (v := ?_) ?_ (fun w => ?_) ?_); rotate_left; (focus rfl); (focus (go_simp <;> with_reducible rfl)); (try simp only [List.getElem_toArray, List.getElem_cons_succ, List.getElem_cons_zero, Act.put, List.setIfInBounds_toArray, List.set_cons_zero, List.set_cons_succ])
      (with_reducible refine wpQuiet_pure (v := ?_) ?_ (fun w => ?_) ?_); rotate_left; (focus rfl); (focus (go_simp <;> with_reducible rfl)); (try simp only [List.getElem_toArray, List.getElem_cons_succ, List.getElem_cons_zero, Act.put, List.setIfInBounds_toArray, List.set_cons_zero, List.set_cons_succ])
      (with_reducible refine wpQuiet_cellC 3 (.tmp 63) ?_ ?_ gl 34 ?_ (.int .i64 q.x.st) _ D0.out Try.underlying3 ?_ ?_); (focus rfl); (focus rfl); (focus rfl); (focus rfl); (try simp only [List.getElem_toArray, List.getElem_cons_succ, List.getElem_cons_zero, Act.put, List.setIfInBounds_toArray, List.set_cons_zero, List.set_cons_succ])
      skip
      (with_reducible refine wpQuiet_pure (v := ?_) ?_ (fun w => ?_) ?_); rotate_left; (focus rfl); (focus (go_simp <;> with_reducible rfl)); (try simp only [List.getElem_toArray, List.getElem_cons_succ, List.getElem_cons_zero, Act.put, List.setIfInBounds_toArray, List.set_cons_zero, List.set_cons_succ])
      (try simp only [b2])
      (with_reducible refine wpQuiet_pure (v := ?_) ?_ (fun w => ?_) ?_); rotate_left; (focus rfl); (focus (go_simp <;> with_reducible rfl)); (try simp only [List.getElem_toArray, List.getElem_cons_succ, List.getElem_cons_zero, Act.put, List.setIfInBounds_toArray, List.set_cons_zero, List.set_cons_succ])
      (with_reducible refine wpQuiet_pure (v := ?_) ?_ (fun w => ?_) ?_); rotate_left; (focus rfl); (focus (go_simp <;> with_reducible rfl)); (try simp only [List.getElem_toArray, List.getElem_cons_succ, List.getElem_cons_zero, Act.put, List.setIfInBounds_toArray, List.set_cons_zero, List.set_cons_succ])
      (with_reducible refine wpQuiet_cellC 3 (.tmp 67) ?_ ?_ gl 35 ?_ (.int .i64 q.x.ow) _ D1.out Try.underlying3 ?_ ?_); (focus rfl); (focus rfl); (focus rfl); (focus rfl); (try simp only [List.getElem_toArray, List.getElem_cons_succ, List.getElem_cons_zero, Act.put, List.setIfInBounds_toArray, List.set_cons_zero, List.set_cons_succ])
      (with_reducible refine wpQuiet_pure (v := ?_) ?_ (fun w => ?_) ?_); rotate_left; (focus rfl); (focus (go_simp <;> with_reducible rfl)); (try simp only [List.getElem_toArray, List.getElem_cons_succ, List.getElem_cons_zero, Act.put, List.setIfInBounds_toArray, List.set_cons_zero, List.set_cons_succ])
      (with_reducible refine wpQuiet_cellC 3 (.tmp 69) ?_ ?_ ge 1 ?_ (.int .i64 e.node) _ D2.out Try.underlying3 ?_ ?_); (focus rfl); (focus rfl); (focus rfl); (focus rfl); (try simp only [List.getElem_toArray, List.getElem_cons_succ, List.getElem_cons_zero, Act.put, List.setIfInBounds_toArray, List.set_cons_zero, List.set_cons_succ])
      (with_reducible refine wpQuiet_pure (v := ?_) ?_ (fun w => ?_) ?_); rotate_left; (focus rfl); (focus (go_simp <;> with_reducible rfl)); (try simp only [List.getElem_toArray, List.getElem_cons_succ, List.getElem_cons_zero, Act.put, List.setIfInBounds_toArray, List.set_cons_zero, List.set_cons_succ])
      (with_reducible refine wpQuiet_pure (v := ?_) ?_ (fun w => ?_) ?_); rotate_left; (focus rfl); (focus (go_simp <;> with_reducible rfl)); (try simp only [List.getElem_toArray, List.getElem_cons_succ, List.getElem_cons_zero, Act.put, List.setIfInBounds_toArray, List.set_cons_zero, List.set_cons_succ])
      (with_reducible refine wpQuiet_pure (v := ?_) ?_ (fun w => ?_) ?_); rotate_left; (focus rfl); (focus (go_simp <;> with_reducible rfl)); (try simp only [List.getElem_toArray, List.getElem_cons_succ, List.getElem_cons_zero, Act.put, List.setIfInBounds_toArray, List.set_cons_zero, List.set_cons_succ])
      (with_reducible refine wpQuiet_pure (v := ?_) ?_ (fun w => ?_) ?_); rotate_left; (focus rfl); (focus (go_simp <;> with_reducible rfl)); (try simp only [List.getElem_toArray, List.getElem_cons_succ, List.getElem_cons_zero, Act.put, List.setIfInBounds_toArray, List.set_cons_zero, List.set_cons_succ])
      refine wpQuiet_nil ?_
      intro w6 hc6
      have HC7 := Lib.hid hc6
      clear hc6 D0 D1 D2
      go_wp2_with fail
      go_ret2
      refine ⟨_, R, by rw [HX.out, HV.out]; rfl, HSL.out.chg0 HC7.out, rfl, (HI.out.1.trans HC6.out).trans HC7.out⟩
    · have b2 : (q.x.st == 2) = false := by simp [h2]
      have HV : Hid ((decide (q.x.st = 2 ∧ q.x.ow = e.node)) = false) := Lib.hid (decide_eq_false (fun h => h2 h.1))
      clear h2
      refine wp_region_chg (by kernel_rfl) (by kernel_rfl) ?_
      (with_reducible refine wpQuiet_pure (v := ?_) ?_ (fun w => ?_) ?_); rotate_left; (focus rfl); (focus (go_simp <;> with_reducible rfl)); (try simp only [List.getElem_toArray, List.getElem_cons_succ, List.getElem_cons_zero, Act.put, List.setIfInBounds_toArray, List.set_cons_zero, List.set_cons_succ])
      (with_reducible refine wpQuiet_pure (v := ?_) ?_ (fun w => ?_) ?_); rotate_left; (focus rfl); (focus (go_simp <;> with_reducible rfl)); (try simp only [List.getElem_toArray, List.getElem_cons_succ, List.getElem_cons_zero, Act.put, List.setIfInBounds_toArray, List.set_cons_zero, List.set_cons_succ])
      (with_reducible refine wpQuiet_cellC 3 (.tmp 63) ?_ ?_ gl 34 ?_ (.int .i64 q.x.st) _ D0.out Try.underlying3 ?_ ?_); (focus rfl); (focus rfl); (focus rfl); (focus rfl); (try simp only [List.getElem_toArray, List.getElem_cons_succ, List.getElem_cons_zero, Act.put, List.setIfInBounds_toArray, List.set_cons_zero, List.set_cons_succ])
      (with_reducible refine wpQuiet_pure (v := ?_) ?_ (fun w => ?_) ?_); rotate_left; (focus rfl); (focus (go_simp <;> with_reducible rfl)); (try simp only [List.getElem_toArray, List.getElem_cons_succ, List.getElem_cons_zero, Act.put, List.setIfInBounds_toArray, List.set_cons_zero, List.set_cons_succ])
      (try simp only [b2])
      (with_reducible refine wpQuiet_pure (v := ?_) ?_ (fun w => ?_) ?_); rotate_left; (focus rfl); (focus (go_simp <;> with_reducible rfl)); (try simp only [List.getElem_toArray, List.getElem_cons_succ, List.getElem_cons_zero, Act.put, List.setIfInBounds_toArray, List.set_cons_zero, List.set_cons_succ])
      (with_reducible refine wpQuiet_skip ?_ ?_); (focus rfl); (try simp only [List.getElem_toArray, List.getElem_cons_succ, List.getElem_cons_zero, Act.put, List.setIfInBounds_toArray, List.set_cons_zero, List.set_cons_succ])
      (with_reducible refine wpQuiet_skip ?_ ?_); (focus rfl); (try simp only [List.getElem_toArray, List.getElem_cons_succ, List.getElem_cons_zero, Act.put, List.setIfInBounds_toArray, List.set_cons_zero, List.set_cons_succ])
      (with_reducible refine wpQuiet_skip ?_ ?_); (focus rfl); (try simp only [List.getElem_toArray, List.getElem_cons_succ, List.getElem_cons_zero, Act.put, List.setIfInBounds_toArray, List.set_cons_zero, List.set_cons_succ])
      (with_reducible refine wpQuiet_skip ?_ ?_); (focus rfl); (try simp only [List.getElem_toArray, List.getElem_cons_succ, List.getElem_cons_zero, Act.put, List.setIfInBounds_toArray, List.set_cons_zero, List.set_cons_succ])
      (with_reducible refine wpQuiet_skip ?_ ?_); (focus rfl); (try simp only [List.getElem_toArray, List.getElem_cons_succ, List.getElem_cons_zero, Act.put, List.setIfInBounds_toArray, List.set_cons_zero, List.set_cons_succ])
      (with_reducible refine wpQuiet_pure (v := ?_) ?_ (fun w => ?_) ?_); rotate_left; (focus rfl); (focus (go_simp <;> with_reducible rfl)); (try simp only [List.getElem_toArray, List.getElem_cons_succ, List.getElem_cons_zero, Act.put, List.setIfInBounds_toArray, List.set_cons_zero, List.set_cons_succ])
      (with_reducible refine wpQuiet_pure (v := ?_) ?_ (fun w => ?_) ?_); rotate_left; (focus rfl); (focus (go_simp <;> with_reducible rfl)); (try simp only [List.getElem_toArray, List.getElem_cons_succ, List.getElem_cons_zero, Act.put, List.setIfInBounds_toArray, List.set_cons_zero, List.set_cons_succ])
      (with_reducible refine wpQuiet_pure (v := ?_) ?_ (fun w => ?_) ?_); rotate_left; (focus rfl); (focus (go_simp <;> with_reducible rfl)); (try simp only [List.getElem_toArray, List.getElem_cons_succ, List.getElem_cons_zero, Act.put, List.setIfInBounds_toArray, List.set_cons_zero, List.set_cons_succ])
      refine wpQuiet_nil ?_
      intro w6 hc6
      have HC7 := Lib.hid hc6
      clear hc6 D0 D1 D2
      go_wp2_with fail
      go_ret2
      refine ⟨_, R, by rw [HX.out, HV.out]; rfl, HSL.out.chg0 HC7.out, rfl, (HI.out.1.trans HC6.out).trans HC7.out⟩
  · have b3 : (e.kind == 3) = false := by simp [hk]
    have b4 : (e.kind == 4) = false := by simp [hk]
    have b7 : (e.kind == 7) = false := by simp [hk]
    have b10 : (e.kind == 10) = true := by simp [hk]
    clear hk
    go_upto_region 19 with fail
    by_cases h2 : q.x.st = 2
    · have b2 : (q.x.st == 2) = true := by simp [h2]
      have HV : Hid ((decide (q.x.st = 2 ∧ q.x.ow = e.node)) = (q.x.ow == e.node)) := Lib.hid (by simp [h2]; rfl)
      clear h2
      refine wp_region_chg (by kernel_rfl) (by kernel_rfl) ?_
      (with_reducible refine wpQuiet_pure (v := ?_) ?_ (fun w => ?_) ?_); rotate_left; (focus rfl); (focus (go_simp <;> with_reducible rfl)); (try simp only [List.getElem_toArray, List.getElem_cons_succ, List.getElem_cons_zero, Act.put, List.setIfInBounds_toArray, List.set_cons_zero, List.set_cons_succ])
      (with_reducible refine wpQuiet_pure (v := ?_) ?_ (fun w => ?_) ?_); rotate_left; (focus rfl); (focus (go_simp <;> with_reducible rfl)); (try simp only [List.getElem_toArray, List.getElem_cons_succ, List.getElem_cons_zero, Act.put, List.setIfInBounds_toArray, List.set_cons_zero, List.set_cons_succ])
      (with_reducible refine wpQuiet_cellC 3 (.tmp 63) ?_ ?_ gl 34 ?_ (.int .i64 q.x.st) _ D0.out Try.underlying3 ?_ ?_); (focus rfl); (focus rfl); (focus rfl); (focus rfl); (try simp only [List.getElem_toArray, List.getElem_cons_succ, List.getElem_cons_zero, Act.put, List.setIfInBounds_toArray, List.set_cons_zero, List.set_cons_succ])
      skip
      (with_reducible refine wpQuiet_pure (v := ?_) ?_ (fun w => ?_) ?_); rotate_left; (focus rfl); (focus (go_simp <;> with_reducible rfl)); (try simp only [List.getElem_toArray, List.getElem_cons_succ, List.getElem_cons_zero, Act.put, List.setIfInBounds_toArray, List.set_cons_zero, List.set_cons_succ])
      (try simp only [b2])
      (with_reducible refine wpQuiet_pure (v := ?_) ?_ (fun w => ?_) ?_); rotate_left; (focus rfl); (focus (go_simp <;> with_reducible rfl)); (try simp only [List.getElem_toArray, List.getElem_cons_succ, List.getElem_cons_zero, Act.put, List.setIfInBounds_toArray, List.set_cons_zero, List.set_cons_succ])
      (with_reducible refine wpQuiet_pure (v := ?_) ?_ (fun w => ?_) ?_); rotate_left; (focus rfl); (focus (go_simp <;> with_reducible rfl)); (try simp only [List.getElem_toArray, List.getElem_cons_succ, List.getElem_cons_zero, Act.put, List.setIfInBounds_toArray, List.set_cons_zero, List.set_cons_succ])
      (with_reducible refine wpQuiet_cellC 3 (.tmp 67) ?_ ?_ gl 35 ?_ (.int .i64 q.x.ow) _ D1.out Try.underlying3 ?_ ?_); (focus rfl); (focus rfl); (focus rfl); (focus rfl); (try simp only [List.getElem_toArray, List.getElem_cons_succ, List.getElem_cons_zero, Act.put, List.setIfInBounds_toArray, List.set_cons_zero, List.set_cons_succ])
      (with_reducible refine wpQuiet_pure (v := ?_) ?_ (fun w => ?_) ?_); rotate_left; (focus rfl); (focus (go_simp <;> with_reducible rfl)); (try simp only [List.getElem_toArray, List.getElem_cons_succ, List.getElem_cons_zero, Act.put, List.setIfInBounds_toArray, List.set_cons_zero, List.set_cons_succ])
      (with_reducible refine wpQuiet_cellC 3 (.tmp 69) ?_ ?_ ge 1 ?_ (.int .i64 e.node) _ D2.out Try.underlying3 ?_ ?_); (focus rfl); (focus rfl); (focus rfl); (focus rfl); (try simp only [List.getElem_toArray, List.getElem_cons_succ, List.getElem_cons_zero, Act.put, List.setIfInBounds_toArray, List.set_cons_zero, List.set_cons_succ])
      (with_reducible refine wpQuiet_pure (v := ?_) ?_ (fun w => ?_) ?_); rotate_left; (focus rfl); (focus (go_simp <;> with_reducible rfl)); (try simp only [List.getElem_toArray, List.getElem_cons_succ, List.getElem_cons_zero, Act.put, List.setIfInBounds_toArray, List.set_cons_zero, List.set_cons_succ])
      (with_reducible refine wpQuiet_pure (v := ?_) ?_ (fun w => ?_) ?_); rotate_left; (focus rfl); (focus (go_simp <;> with_reducible rfl)); (try simp only [List.getElem_toArray, List.getElem_cons_succ, List.getElem_cons_zero, Act.put, List.setIfInBounds_toArray, List.set_cons_zero, List.set_cons_succ])
      (with_reducible refine wpQuiet_pure (v := ?_) ?_ (fun w => ?_) ?_); rotate_left; (focus rfl); (focus (go_simp <;> with_reducible rfl)); (try simp only [List.getElem_toArray, List.getElem_cons_succ, List.getElem_cons_zero, Act.put, List.setIfInBounds_toArray, List.set_cons_zero, List.set_cons_succ])
      (with_reducible refine wpQuiet_pure (v := ?_) ?_ (fun w => ?_) ?_); rotate_left; (focus rfl); (focus (go_simp <;> with_reducible rfl)); (try simp only [List.getElem_toArray, List.getElem_cons_succ, List.getElem_cons_zero, Act.put, List.setIfInBounds_toArray, List.set_cons_zero, List.set_cons_succ])
      refine wpQuiet_nil ?_
      intro w6 hc6
      have HC7 := Lib.hid hc6
      clear hc6 D0 D1 D2
      go_wp2_with fail
      go_ret2
      refine ⟨_, R, by rw [HX.out, HV.out]; rfl, HSL.out.chg0 HC7.out, rfl, (HI.out.1.trans HC6.out).trans HC7.out⟩
    · have b2 : (q.x.st == 2) = false := by simp [h2]
      have HV : Hid ((decide (q.x.st = 2 ∧ q.x.ow = e.node)) = false) := Lib.hid (decide_eq_false (fun h => h2 h.1))
      clear h2
      refine wp_region_chg (by kernel_rfl) (by kernel_rfl) ?_
      (with_reducible refine wpQuiet_pure (v := ?_) ?_ (fun w => ?_) ?_); rotate_left; (focus rfl); (focus (go_simp <;> with_reducible rfl)); (try simp only [List.getElem_toArray, List.getElem_cons_succ, List.getElem_cons_zero, Act.put, List.setIfInBounds_toArray, List.set_cons_zero, List.set_cons_succ])
      (with_reducible refine wpQuiet_pure (v := ?_) ?_ (fun w => ?_) ?_); rotate_left; (focus rfl); (focus (go_simp <;> with_reducible rfl)); (try simp only [List.getElem_toArray, List.getElem_cons_succ, List.getElem_cons_zero, Act.put, List.setIfInBounds_toArray, List.set_cons_zero, List.set_cons_succ])
      (with_reducible refine wpQuiet_cellC 3 (.tmp 63) ?_ ?_ gl 34 ?_ (.int .i64 q.x.st) _ D0.out Try.underlying3 ?_ ?_); (focus rfl); (focus rfl); (focus rfl); (focus rfl); (try simp only [List.getElem_toArray, List.getElem_cons_succ, List.getElem_cons_zero, Act.put, List.setIfInBounds_toArray, List.set_cons_zero, List.set_cons_succ])
      (with_reducible refine wpQuiet_pure (v := ?_) ?_ (fun w => ?_) ?_); rotate_left; (focus rfl); (focus (go_simp <;> with_reducible rfl)); (try simp only [List.getElem_toArray, List.getElem_cons_succ, List.getElem_cons_zero, Act.put, List.setIfInBounds_toArray, List.set_cons_zero, List.set_cons_succ])
      (try simp only [b2])
      (with_reducible refine wpQuiet_pure (v := ?_) ?_ (fun w => ?_) ?_); rotate_left; (focus rfl); (focus (go_simp <;> with_reducible rfl)); (try simp only [List.getElem_toArray, List.getElem_cons_succ, List.getElem_cons_zero, Act.put, List.setIfInBounds_toArray, List.set_cons_zero, List.set_cons_succ])
      (with_reducible refine wpQuiet_skip ?_ ?_); (focus rfl); (try simp only [List.getElem_toArray, List.getElem_cons_succ, List.getElem_cons_zero, Act.put, List.setIfInBounds_toArray, List.set_cons_zero, List.set_cons_succ])
      (with_reducible refine wpQuiet_skip ?_ ?_); (focus rfl); (try simp only [List.getElem_toArray, List.getElem_cons_succ, List.getElem_cons_zero, Act.put, List.setIfInBounds_toArray, List.set_cons_zero, List.set_cons_succ])
      (with_reducible refine wpQuiet_skip ?_ ?_); (focus rfl); (try simp only [List.getElem_toArray, List.getElem_cons_succ, List.getElem_cons_zero, Act.put, List.setIfInBounds_toArray, List.set_cons_zero, List.set_cons_succ])
      (with_reducible refine wpQuiet_skip ?_ ?_); (focus rfl); (try simp only [List.getElem_toArray, List.getElem_cons_succ, List.getElem_cons_zero, Act.put, List.setIfInBounds_toArray, List.set_cons_zero, List.set_cons_succ])
      (with_reducible refine wpQuiet_skip ?_ ?_); (focus rfl); (try simp only [List.getElem_toArray, List.getElem_cons_succ, List.getElem_cons_zero, Act.put, List.setIfInBounds_toArray, List.set_cons_zero, List.set_cons_succ])
      (with_reducible refine wpQuiet_pure (v := ?_) ?_ (fun w => ?_) ?_); rotate_left; (focus rfl); (focus (go_simp <;> with_reducible rfl)); (try simp only [List.getElem_toArray, List.getElem_cons_succ, List.getElem_cons_zero, Act.put, List.setIfInBounds_toArray, List.set_cons_zero, List.set_cons_succ])
      (with_reducible refine wpQuiet_pure (v := ?_) ?_ (fun w => ?_) ?_); rotate_left; (focus rfl); (focus (go_simp <;> with_reducible rfl)); (try simp only [List.getElem_toArray, List.getElem_cons_succ, List.getElem_cons_zero, Act.put, List.setIfInBounds_toArray, List.set_cons_zero, List.set_cons_succ])
      (with_reducible refine wpQuiet_pure (v := ?_) ?_ (fun w => ?_) ?_); rotate_left; (focus rfl); (focus (go_simp <;> with_reducible rfl)); (try simp only [List.getElem_toArray, List.getElem_cons_succ, List.getElem_cons_zero, Act.put, List.setIfInBounds_toArray, List.set_cons_zero, List.set_cons_succ])
      refine wpQuiet_nil ?_
      intro w6 hc6
      have HC7 := Lib.hid hc6
      clear hc6 D0 D1 D2
      go_wp2_with fail
      go_ret2
      refine ⟨_, R, by rw [HX.out, HV.out]; rfl, HSL.out.chg0 HC7.out, rfl, (HI.out.1.trans HC6.out).trans HC7.out⟩
set_option maxRecDepth 100000 in
set_option maxHeartbeats 1000000 in
theorem rstep_else {w : World} {B : Nat} {v : Value} {R : List Rf} (h : SlR w B v R) (hR : R.length ≤ 300) (hB : B ≤ w.heap.size) {e : Ev} (he : okE e) (hz : ¬ e.flow = zF) (h1 : e.kind ≠ 1) (h5 : e.kind ≠ 5) (hk : ¬ (e.kind = 3 ∨ e.kind = 4 ∨ e.kind = 7 ∨ e.kind = 10)) :
    Calls Try.prog 25 #[v, .agg (arrE e)] w fun r w' => RS w B R (livesR R) true r w' := by
  have hz' : decide (e.flow = zF) = false := by simp [hz]
  have hE1 := fun W => eq_fl W he okF_z
  rw [hz'] at hE1
  have hcA := (Chg.refl [] w).alloc (.cells (arrE e) 75)
  have hBe : Blk (w.alloc (.cells (arrE e) 75)) w.heap.size 75 (arrE e) := Blk.new _ _ _
  have hge : w.heap.size < (w.alloc (.cells (arrE e) 75)).heap.size := by simp
  have HI := Lib.hid (And.intro hcA (And.intro hBe (h.chg0 hcA)))
  have HQ := Lib.hid (And.intro (find_lives R e.flow) (find_ok (h.chg0 hcA).2 he))
  have HX : Hid ((DR (livesR R) e.flow).getD zL = (findR44 R e.flow).x) := Lib.hid HQ.out.1.2.symm
  obtain ⟨A0, c0, hv0⟩ := Sl.form h.1
  subst hv0
  clear hcA hBe h hz'
  go_enter Try.func25, Try.ntmps25
  go_upto_region 1 with fail
  generalize w.alloc (.cells (arrE e) 75) = w1 at *
  generalize hg : w.heap.size = ge at *
  have e0 : w1.cell? ⟨ge, 0, none⟩ = some (.int .i64 e.kind) := ev_at HI.out.2.1 0
  have RF := Lib.hid (ev_flow HI.out.2.1)
  have F1 := Lib.hid (rfind_any HI.out.2.2 hR he)
  go_wp2_with (first
    | (refine wpList_row 73 (.tmp 7) rfl rfl ge 2 rfl (arrF e.flow) _ RF.out Try.underlying73 rfl infF ?_)
    | (refine wpList_row 73 (.tmp 13) rfl rfl ge 2 rfl (arrF e.flow) _ RF.out Try.underlying73 rfl infF ?_)
    | fail)
  refine F1.out.mono ?_
  rintro r w2 ⟨rfl, hc2⟩
  have HQ2 : Hid (okR w2 B (findR44 R e.flow)) := Lib.hid (HQ.out.2.chg hc2 (by simp))
  have HQ1 := Lib.hid HQ.out.1.1
  have hcx := (Chg.refl [] w2).alloc (.cells arrZ78 78)
  have hBl : Blk (w2.alloc (.cells arrZ78 78)) w2.heap.size 78 arrZ78 := Blk.new _ _ _
  have ho := Lib.hid HQ2.out.oneA
  generalize findR44 R e.flow = q at *
  have hz2 := hc2.size
  have HC2 := Lib.hid hc2
  clear F1 hc2
  go_upto_region 4 with (first
    | (refine wpList_store_blk rfl 78 _ _ rfl rfl hBl rfl rfl rfl (infR (r := q)) ho.out ?_; intro w5 hB5 hc5)
    | fail)
  have hc6 : Chg [] w1 w5 := HC2.out.trans (hcx.trans' hc5 (by intro y hy; simp at hy; subst hy; exact .inr (Nat.le_refl _)))
  have HQ5 : Hid (okR w5 B q) := Lib.hid (HQ2.out.chg (hcx.trans' hc5 (by intro y hy; simp at hy; subst hy; exact .inr (Nat.le_refl _))) (by simp))
  generalize hgl : w2.heap.size = gl at *
  have q0 : w5.cell? ⟨ge, 0, none⟩ = some (.int .i64 e.kind) := hc6.cell e0 (by simp)
  have HB5 := Lib.hid hB5
  have HC6 := Lib.hid hc6
  have hegl : ge ≠ gl := by omega
  have HBE := Lib.hid (HI.out.2.1.chg hc6 (by simp))
  have HSL := Lib.hid (HI.out.2.2.chg0 hc6)
  clear hcx hBl hB5 hc5 hc6 e0 RF HQ2 HC2
  have hk1 : (e.kind == 1) = false := by simp [h1]
  have hk5 : (e.kind == 5) = false := by simp [h5]
  have b3 : (e.kind == 3) = false := by simp; omega
  have b4 : (e.kind == 4) = false := by simp; omega
  have b7 : (e.kind == 7) = false := by simp; omega
  have b10 : (e.kind == 10) = false := by simp; omega
  clear h1 h5 hk
  go_wp2_with fail
  go_ret2
  refine ⟨_, R, rfl, HSL.out, rfl, HI.out.1.trans HC6.out⟩
set_option maxRecDepth 100000 in
set_option maxHeartbeats 1000000 in
theorem rstep_own {w : World} {B : Nat} {v : Value} {R : List Rf} (h : SlR w B v R) (hR : R.length ≤ 300) (hB : B ≤ w.heap.size) {e : Ev} (he : okE e) (hz : ¬ e.flow = zF) (h5 : e.kind = 5) (hs1 : ((DR (livesR R) e.flow).getD zL).st = 1) (hin : e.node ∈ ((DR (livesR R) e.flow).getD zL).ls) (hl : ((DR (livesR R) e.flow).getD zL).ls.length ≤ 900) :
    Calls Try.prog 25 #[v, .agg (arrE e)] w fun r w' => RS w B R (withL (livesR R) e.flow ⟨2, e.node, ((DR (livesR R) e.flow).getD zL).ls⟩) true r w' := by
  have hz' : decide (e.flow = zF) = false := by simp [hz]
  have hE1 := fun W => eq_fl W he okF_z
  rw [hz'] at hE1
  have hcA := (Chg.refl [] w).alloc (.cells (arrE e) 75)
  have hBe : Blk (w.alloc (.cells (arrE e) 75)) w.heap.size 75 (arrE e) := Blk.new _ _ _
  have hge : w.heap.size < (w.alloc (.cells (arrE e) 75)).heap.size := by simp
  have HI := Lib.hid (And.intro hcA (And.intro hBe (h.chg0 hcA)))
  have HQ := Lib.hid (And.intro (find_lives R e.flow) (find_ok (h.chg0 hcA).2 he))
  have HX : Hid ((DR (livesR R) e.flow).getD zL = (findR44 R e.flow).x) := Lib.hid HQ.out.1.2.symm
  obtain ⟨A0, c0, hv0⟩ := Sl.form h.1
  subst hv0
  clear hcA hBe h hz'
  go_enter Try.func25, Try.ntmps25
  go_upto_region 1 with fail
  generalize w.alloc (.cells (arrE e) 75) = w1 at *
  generalize hg : w.heap.size = ge at *
  have e0 : w1.cell? ⟨ge, 0, none⟩ = some (.int .i64 e.kind) := ev_at HI.out.2.1 0
  have RF := Lib.hid (ev_flow HI.out.2.1)
  have F1 := Lib.hid (rfind_any HI.out.2.2 hR he)
  go_wp2_with (first
    | (refine wpList_row 73 (.tmp 7) rfl rfl ge 2 rfl (arrF e.flow) _ RF.out Try.underlying73 rfl infF ?_)
    | (refine wpList_row 73 (.tmp 13) rfl rfl ge 2 rfl (arrF e.flow) _ RF.out Try.underlying73 rfl infF ?_)
    | fail)
  refine F1.out.mono ?_
  rintro r w2 ⟨rfl, hc2⟩
  have HQ2 : Hid (okR w2 B (findR44 R e.flow)) := Lib.hid (HQ.out.2.chg hc2 (by simp))
  have HQ1 := Lib.hid HQ.out.1.1
  have hcx := (Chg.refl [] w2).alloc (.cells arrZ78 78)
  have hBl : Blk (w2.alloc (.cells arrZ78 78)) w2.heap.size 78 arrZ78 := Blk.new _ _ _
  have ho := Lib.hid HQ2.out.oneA
  generalize findR44 R e.flow = q at *
  have hz2 := hc2.size
  have HC2 := Lib.hid hc2
  clear F1 hc2
  go_upto_region 4 with (first
    | (refine wpList_store_blk rfl 78 _ _ rfl rfl hBl rfl rfl rfl (infR (r := q)) ho.out ?_; intro w5 hB5 hc5)
    | fail)
  have hc6 : Chg [] w1 w5 := HC2.out.trans (hcx.trans' hc5 (by intro y hy; simp at hy; subst hy; exact .inr (Nat.le_refl _)))
  have HQ5 : Hid (okR w5 B q) := Lib.hid (HQ2.out.chg (hcx.trans' hc5 (by intro y hy; simp at hy; subst hy; exact .inr (Nat.le_refl _))) (by simp))
  generalize hgl : w2.heap.size = gl at *
  have q0 : w5.cell? ⟨ge, 0, none⟩ = some (.int .i64 e.kind) := hc6.cell e0 (by simp)
  have HB5 := Lib.hid hB5
  have HC6 := Lib.hid hc6
  have hegl : ge ≠ gl := by omega
  have HBE := Lib.hid (HI.out.2.1.chg hc6 (by simp))
  have HSL := Lib.hid (HI.out.2.2.chg0 hc6)
  clear hcx hBl hB5 hc5 hc6 e0 RF HQ2 HC2
  rw [HX.out] at hs1 hin hl
  have hk1 : (e.kind == 1) = false := by simp [h5]
  have hk5 : (e.kind == 5) = true := by simp [h5]
  have d0 : w5.cell? ⟨gl, 34, none⟩ = some (.int .i64 q.x.st) := HB5.out.cell 34
  obtain ⟨A1, k1, hv1⟩ := Sl.form HQ5.out.2.1
  have d2 : w5.cell? ⟨gl, 36, none⟩ = some (.slice A1 q.x.ls.length k1) := by rw [← hv1]; exact HB5.out.cell 36
  have d1 : w5.cell? ⟨ge, 1, none⟩ = some (.int .i64 e.node) := ev_at HBE.out 1
  have F2 := rin_any HQ5.out.2.1 (by omega) e.node
  rw [hv1] at F2
  have hb : (q.x.st != 1) = false := by simp [hs1]
  rw [decide_eq_true hin] at F2
  have F3 := Lib.hid F2
  clear hin hs1 h5 F2 hv1
  go_wp2_with fail
  refine F3.out.mono ?_
  rintro r w6 ⟨rfl, rfl⟩
  clear F3
  go_upto_region 13 with fail
  have hfx := HB5.out.frozen
  have dx1 : w5.cell? ⟨gl, 35, none⟩ = some (.int .i64 q.x.ow) := HB5.out.cell 35
  have hegy : gl ≠ ge := hegl.symm
  go_cut [] (fun wx => Blk wx gl 78 (arrR ⟨q.f, ⟨2, e.node, q.x.ls⟩, q.v⟩) ∧ Chg [gl] w5 wx)
  case first =>
    have HF := Lib.hid HB5.out.drew
    go_region_with fail
    all_goals go_wp2_with fail
    all_goals go_meet
    · exact ⟨(HF.out.set_ 34 (.int .i64 2)).set_ 35 (.int .i64 e.node), ((Chg.refl [gl] w5).drew.setCell (.inl (by simp)) _).setCell (.inl (by simp)) _⟩
    · first | exact ⟨(HF.out.set_ 34 (.int .i64 2)).set_ 35 (.int .i64 e.node), ((Chg.refl [gl] w5).drew.setCell (.inl (by simp)) _).setCell (.inl (by simp)) _⟩ | exact ⟨(HF.out.set_ 35 (.int .i64 e.node)).set_ 34 (.int .i64 2), ((Chg.refl [gl] w5).drew.setCell (.inl (by simp)) _).setCell (.inl (by simp)) _⟩
  case rest =>
    obtain ⟨hBc, hcc⟩ := hcut
    have hc1 : Chg [] w1 wc := HC6.out.trans' hcc (by intro y hy; simp at hy; subst hy; exact .inr (by omega))
    have hcw : Chg [] w wc := HI.out.1.trans hc1
    have HBN := Lib.hid hBc
    have hqn : okR wc B ⟨q.f, ⟨2, e.node, q.x.ls⟩, q.v⟩ := ⟨HQ5.out.1, (HQ.out.2.2.1.chg0 hc1 : SlZ wc B q.v q.x.ls), HQ5.out.2.2⟩
    have FW := Lib.hid (rwith_any (HI.out.2.2.chg0 hc1) hR hqn (by have := hcw.size; omega))
    have HCW := Lib.hid hcw
    have HL := Lib.hid (lives_with R ⟨q.f, ⟨2, e.node, q.x.ls⟩, q.v⟩)
    generalize hqe : (⟨q.f, ⟨2, e.node, q.x.ls⟩, q.v⟩ : Rf) = qn at *
    have HQE := Lib.hid hqe
    clear hBc hcc hc1 hcw hqn hqe d0 d2 d1 dx1 hfx
    have RX := Lib.hid HBN.out.rangeQ
    go_wp2_with (first
      | (refine wpList_row 78 (.tmp 6) rfl rfl gl 0 rfl (arrR qn) _ RX.out Try.underlying78 rfl (infR (r := qn)) ?_)
      | fail)
    refine FW.out.mono ?_
    rintro r w9 ⟨v9, rfl, hs9, hc9⟩
    have HZ := Lib.hid (And.intro hs9 hc9)
    clear hs9 hc9 FW
    go_wp2_with fail
    go_ret2
    refine ⟨_, _, rfl, HZ.out.1, ?_, HCW.out.trans HZ.out.2⟩
    rw [HL.out, ← HQE.out, HX.out, HQ1.out]
set_option maxRecDepth 100000 in
set_option maxHeartbeats 1000000 in
theorem rstep_kind {w : World} {B : Nat} {v : Value} {R : List Rf} (h : SlR w B v R) (hR : R.length ≤ 300) (hB : B ≤ w.heap.size) {e : Ev} (he : okE e) (hz : ¬ e.flow = zF) (h1 : e.kind = 1) (hl : ((DR (livesR R) e.flow).getD zL).ls.length ≤ 900) (hst : 0 ≤ ((DR (livesR R) e.flow).getD zL).st) :
    Calls Try.prog 25 #[v, .agg (arrE e)] w fun r w' => RS w B R (withL (livesR R) e.flow (huntL ((DR (livesR R) e.flow).getD zL) e.a e.b)) true r w' := by
  have hz' : decide (e.flow = zF) = false := by simp [hz]
  have hE1 := fun W => eq_fl W he okF_z
  rw [hz'] at hE1
  have hcA := (Chg.refl [] w).alloc (.cells (arrE e) 75)
  have hBe : Blk (w.alloc (.cells (arrE e) 75)) w.heap.size 75 (arrE e) := Blk.new _ _ _
  have hge : w.heap.size < (w.alloc (.cells (arrE e) 75)).heap.size := by simp
  have HI := Lib.hid (And.intro hcA (And.intro hBe (h.chg0 hcA)))
  have HQ := Lib.hid (And.intro (find_lives R e.flow) (find_ok (h.chg0 hcA).2 he))
  have HX : Hid ((DR (livesR R) e.flow).getD zL = (findR44 R e.flow).x) := Lib.hid HQ.out.1.2.symm
  obtain ⟨A0, c0, hv0⟩ := Sl.form h.1
  subst hv0
  clear hcA hBe h hz'
  go_enter Try.func25, Try.ntmps25
  go_upto_region 1 with fail
  generalize w.alloc (.cells (arrE e) 75) = w1 at *
  generalize hg : w.heap.size = ge at *
  have e0 : w1.cell? ⟨ge, 0, none⟩ = some (.int .i64 e.kind) := ev_at HI.out.2.1 0
  have RF := Lib.hid (ev_flow HI.out.2.1)
  have F1 := Lib.hid (rfind_any HI.out.2.2 hR he)
  go_wp2_with (first
    | (refine wpList_row 73 (.tmp 7) rfl rfl ge 2 rfl (arrF e.flow) _ RF.out Try.underlying73 rfl infF ?_)
    | (refine wpList_row 73 (.tmp 13) rfl rfl ge 2 rfl (arrF e.flow) _ RF.out Try.underlying73 rfl infF ?_)
    | fail)
  refine F1.out.mono ?_
  rintro r w2 ⟨rfl, hc2⟩
  have HQ2 : Hid (okR w2 B (findR44 R e.flow)) := Lib.hid (HQ.out.2.chg hc2 (by simp))
  have HQ1 := Lib.hid HQ.out.1.1
  have hcx := (Chg.refl [] w2).alloc (.cells arrZ78 78)
  have hBl : Blk (w2.alloc (.cells arrZ78 78)) w2.heap.size 78 arrZ78 := Blk.new _ _ _
  have ho := Lib.hid HQ2.out.oneA
  generalize findR44 R e.flow = q at *
  have hz2 := hc2.size
  have HC2 := Lib.hid hc2
  clear F1 hc2
  go_upto_region 4 with (first
    | (refine wpList_store_blk rfl 78 _ _ rfl rfl hBl rfl rfl rfl (infR (r := q)) ho.out ?_; intro w5 hB5 hc5)
    | fail)
  have hc6 : Chg [] w1 w5 := HC2.out.trans (hcx.trans' hc5 (by intro y hy; simp at hy; subst hy; exact .inr (Nat.le_refl _)))
  have HQ5 : Hid (okR w5 B q) := Lib.hid (HQ2.out.chg (hcx.trans' hc5 (by intro y hy; simp at hy; subst hy; exact .inr (Nat.le_refl _))) (by simp))
  generalize hgl : w2.heap.size = gl at *
  have q0 : w5.cell? ⟨ge, 0, none⟩ = some (.int .i64 e.kind) := hc6.cell e0 (by simp)
  have HB5 := Lib.hid hB5
  have HC6 := Lib.hid hc6
  have hegl : ge ≠ gl := by omega
  have HBE := Lib.hid (HI.out.2.1.chg hc6 (by simp))
  have HSL := Lib.hid (HI.out.2.2.chg0 hc6)
  clear hcx hBl hB5 hc5 hc6 e0 RF HQ2 HC2
  rw [HX.out] at hl hst
  have hkb : (e.kind == 1) = true := by simp [h1]
  obtain ⟨A1, k1, hv1⟩ := Sl.form HQ5.out.2.1
  have hz5 := HC6.out.size
  have hglz : gl < w5.heap.size := HB5.out.lt
  have HCV : Hid (∀ W, Chg [] w5 W → W.cell? ⟨gl, 36, none⟩ = some (.slice A1 q.x.ls.length k1)) := Lib.hid fun W hc => by rw [← hv1]; exact hc.cell (HB5.out.cell 36) (by simp)
  have HA1 : Hid (∀ W, Chg [gl] w5 W → W.cell? ⟨ge, 36, none⟩ = some (.int .i64 e.a)) := Lib.hid fun W hc => hc.cell (ev_at HBE.out 36) (by simpa using hegl)
  have HA2 : Hid (∀ W, Chg [gl] w5 W → W.cell? ⟨ge, 37, none⟩ = some (.int .i64 e.b)) := Lib.hid fun W hc => hc.cell (ev_at HBE.out 37) (by simpa using hegl)
  have hsv : SlZ w5.drew B (.slice A1 q.x.ls.length k1) q.x.ls := by rw [← hv1]; exact HQ5.out.2.1.chg0 (Chg.refl [] w5).drew
  have F2 := Lib.hid (rlist_any hsv (by omega) HQ5.out.2.2 (by have := HI.out.1.size; simp; omega) e.a)
  have HV1 := Lib.hid hv1
  clear hsv hv1
  go_upto_region 6 with fail
  have hS0 : Chg [gl] w5 w5.drew := (Chg.refl [gl] w5).drew
  have k0 : w5.drew.cell? ⟨gl, 36, none⟩ = some (.slice A1 q.x.ls.length k1) := HCV.out _ (Chg.refl [] w5).drew
  refine wp_region_noPanic ?_
  refine wp_region_held_drew (S := Chg [gl] w5) (by kernel_rfl) hS0 (fun _ => ?_)
  refine wpAnyH_take (i := 0) (v := ?_) rfl (by kernel_rfl) (by kernel_rfl) (by kernel_rfl) (fun _ _ _ h => h) (yields_pure (by rfl) (fun w => ?_)) (by with_reducible assumption) ?_
  rotate_left
  · (go_simp <;> with_reducible rfl)
  try simp only [List.getElem_toArray, List.getElem_cons_succ, List.getElem_cons_zero, Act.put, List.setIfInBounds_toArray, List.set_cons_zero, List.set_cons_succ]
  refine wpAnyH_take (i := 2) (v := ?_) rfl (by kernel_rfl) (by kernel_rfl) (by kernel_rfl) (fun _ _ _ h => h) (yields_pure (by rfl) (fun w => ?_)) (by with_reducible assumption) ?_
  rotate_left
  · (go_simp <;> with_reducible rfl)
  try simp only [List.getElem_toArray, List.getElem_cons_succ, List.getElem_cons_zero, Act.put, List.setIfInBounds_toArray, List.set_cons_zero, List.set_cons_succ]
  refine wpAnyH_take (i := 3) rfl (by kernel_rfl) (by kernel_rfl) (by kernel_rfl) (fun _ _ _ h => h) (yields_cell (by rfl) 3 (.tmp 22) rfl ge 36 rfl (.int .i64 e.a) _ HA1.out Try.underlying3 rfl) (by with_reducible assumption) ?_
  try simp only [List.getElem_toArray, List.getElem_cons_succ, List.getElem_cons_zero, Act.put, List.setIfInBounds_toArray, List.set_cons_zero, List.set_cons_succ]
  refine wpAnyH_take (i := 5) (v := ?_) rfl (by kernel_rfl) (by kernel_rfl) (by kernel_rfl) (fun _ _ _ h => h) (yields_pure (by rfl) (fun w => ?_)) (by with_reducible assumption) ?_
  rotate_left
  · (go_simp <;> with_reducible rfl)
  try simp only [List.getElem_toArray, List.getElem_cons_succ, List.getElem_cons_zero, Act.put, List.setIfInBounds_toArray, List.set_cons_zero, List.set_cons_succ]
  refine wpAnyH_take (i := 6) rfl (by kernel_rfl) (by kernel_rfl) (by kernel_rfl) (fun _ _ _ h => h) (yields_cell (by rfl) 3 (.tmp 25) rfl ge 37 rfl (.int .i64 e.b) _ HA2.out Try.underlying3 rfl) (by with_reducible assumption) ?_
  try simp only [List.getElem_toArray, List.getElem_cons_succ, List.getElem_cons_zero, Act.put, List.setIfInBounds_toArray, List.set_cons_zero, List.set_cons_succ]
  refine wpAnyH_ready (rs := [1]) (by kernel_rfl) (by simp) (AllReadyH.cons rfl (fun K hK => ?_) AllReadyH.nil)
  refine step_load_one rfl 22 (.tmp 20) rfl gl 36 rfl (.slice A1 q.x.ls.length k1) _ k0 Try.underlying22 rfl ?_
  refine hK.out _ _ (by with_reducible assumption) (fun _ => ?_)
  clear hK K
  try simp only [List.getElem_toArray, List.getElem_cons_succ, List.getElem_cons_zero, Act.put, List.setIfInBounds_toArray, List.set_cons_zero, List.set_cons_succ]
  refine wpAnyH_ready (rs := [4]) (by kernel_rfl) (by simp) (AllReadyH.cons rfl (fun K hK => ?_) AllReadyH.nil)
  go_simp
  refine F2.out.mono ?_
  rintro r w6 ⟨v6, rfl, hs6, hn6, hc6⟩
  obtain ⟨A6, k6, hv6⟩ := Sl.form hs6
  subst hv6
  have hS6' : Chg [] w5 w6 := (Chg.refl [] w5).drew.trans hc6
  have hS6 : Chg [gl] w5 w6 := hS6'.more (by simp)
  have HS6 := Lib.hid hS6'
  have hz6 := hS6.size
  have hi6 := insZ_len q.x.ls e.a
  have F3 := Lib.hid (rlist_any hs6 (by omega) (insZ_rise HQ5.out.2.2 e.a) (by have := HI.out.1.size; omega) e.b)
  have HN6 := Lib.hid hn6
  clear hs6 hn6 hc6 F2 hS6' k0
  refine hK.out _ _ (by with_reducible assumption) (fun _ => ?_)
  clear hK K
  try simp only [List.getElem_toArray, List.getElem_cons_succ, List.getElem_cons_zero, Act.put, List.setIfInBounds_toArray, List.set_cons_zero, List.set_cons_succ]
  refine wpAnyH_ready (rs := [7]) (by kernel_rfl) (by simp) (AllReadyH.cons rfl (fun K hK => ?_) AllReadyH.nil)
  go_simp
  refine F3.out.mono ?_
  rintro r w7 ⟨v7, rfl, hs7, hn7, hc7⟩
  have hnn : (v7 = .slice A1 q.x.ls.length k1 ∧ insZ (insZ q.x.ls e.a) e.b = q.x.ls) ∨ SlZ w7 w5.heap.size v7 (insZ (insZ q.x.ls e.a) e.b) := by
    rcases hn7 with ⟨e1, e2⟩ | hn7
    · rcases HN6.out with ⟨e3, e4⟩ | hn6
      · exact .inl ⟨e1.trans e3, e2.trans e4⟩
      · right; rw [e1, e2]; exact hn6.chg0 hc7
    · exact .inr (Sl.less hn7 hz6)
  obtain ⟨A7, k7, hv7⟩ := Sl.form hs7
  subst hv7
  have HNN := Lib.hid hnn
  have hS7' : Chg [] w5 w7 := HS6.out.trans hc7
  have hS7 : Chg [gl] w5 w7 := hS7'.more (by simp)
  have hB7 := HB5.out.chg hS7' (by simp)
  have k36 : w7.cell? ⟨gl, 36, none⟩ = some (.slice A1 q.x.ls.length k1) := HCV.out _ hS7'
  have f36 := hB7.frozen 36
  have HB7 := Lib.hid hB7
  have HC7 := Lib.hid hS7'
  have hS8 : Chg [gl] w5 (w7.setCell ⟨gl, 36, none⟩ (.slice A7 (insZ (insZ q.x.ls e.a) e.b).length k7)) := hS7.setCell (.inl (by simp)) _
  clear hs7 hn7 hc7 hnn F3 HN6 hB7 hS7'
  refine hK.out _ _ (by with_reducible assumption) (fun _ => ?_)
  clear hK K
  try simp only [List.getElem_toArray, List.getElem_cons_succ, List.getElem_cons_zero, Act.put, List.setIfInBounds_toArray, List.set_cons_zero, List.set_cons_succ]
  refine wpAnyH_take (i := 8) (v := ?_) rfl (by kernel_rfl) (by kernel_rfl) (by kernel_rfl) (fun _ _ _ h => h) (yields_pure (by rfl) (fun w => ?_)) (by with_reducible assumption) ?_
  rotate_left
  · (go_simp <;> with_reducible rfl)
  try simp only [List.getElem_toArray, List.getElem_cons_succ, List.getElem_cons_zero, Act.put, List.setIfInBounds_toArray, List.set_cons_zero, List.set_cons_succ]
  refine wpAnyH_ready (rs := [9]) (by kernel_rfl) (by simp) (AllReadyH.cons rfl (fun K hK => ?_) AllReadyH.nil)
  go_simp
  refine hK.out _ _ (by with_reducible assumption) (fun _ => ?_)
  clear hK K
  try simp only [List.getElem_toArray, List.getElem_cons_succ, List.getElem_cons_zero, Act.put, List.setIfInBounds_toArray, List.set_cons_zero, List.set_cons_succ]
  refine wpAnyH_done (by kernel_rfl) ?_ _
  refine NoPanic.normal ?_
  have hB8 := HB7.out.set_ 36 (.slice A7 (insZ (insZ q.x.ls e.a) e.b).length k7)
  generalize hv8 : Value.slice A7 (insZ (insZ q.x.ls e.a) e.b).length k7 = v8 at *
  have hc8 : Chg [gl] w7 (w7.setCell ⟨gl, 36, none⟩ v8) := (Chg.refl [gl] w7).setCell (.inl (by simp)) _
  generalize w7.setCell ⟨gl, 36, none⟩ v8 = w8 at *
  have hB9 : Blk w8 gl 78 (arrR ⟨q.f, ⟨q.x.st, q.x.ow, insZ (insZ q.x.ls e.a) e.b⟩, v8⟩) := hB8
  have HB9 := Lib.hid hB9
  have HC8 := Lib.hid (And.intro hS8 hc8)
  have m0 : w8.cell? ⟨gl, 34, none⟩ = some (.int .i64 q.x.st) := hB9.cell 34
  have mf := hB9.frozen 34
  clear hS0 hS6 hS7 hS8 k36 f36 hB8 hc8 hB9
  go_upto_if 31 with fail
  go_cut [] (fun wx => Blk wx gl 78 (arrR ⟨q.f, huntL q.x e.a e.b, v8⟩) ∧ Chg [gl] w8 wx)
  case first =>
    by_cases hs0 : q.x.st = 0
    · have hb : (q.x.st == 0) = true := by simp [hs0]
      have hmx : Hid (max q.x.st 1 = 1) := Lib.hid (by omega)
      clear hs0
      go_wp2_with fail
      go_meet
      refine ⟨?_, (Chg.refl [gl] w8).setCell (.inl (by simp)) _⟩
      have := HB9.out.set_ 34 (.int .i64 1)
      unfold huntL
      rw [hmx.out]
      exact this
    · have hb : (q.x.st == 0) = false := by simp [hs0]
      have hmx : Hid (max q.x.st 1 = q.x.st) := Lib.hid (by omega)
      clear hs0
      go_wp2_with fail
      go_meet
      refine ⟨?_, Chg.refl _ _⟩
      unfold huntL
      rw [hmx.out]
      exact HB9.out
  case rest =>
    obtain ⟨hBc, hcc⟩ := hcut
    have hc5c : Chg [gl] w5 wc := HC8.out.1.trans hcc
    have hc1 : Chg [] w1 wc := HC6.out.trans' hc5c (by intro y hy; simp at hy; subst hy; exact .inr (by omega))
    have hcw : Chg [] w wc := HI.out.1.trans hc1
    have HBN := Lib.hid hBc
    have hls : SlZ wc B v8 (huntL q.x e.a e.b).ls := by
      rcases HNN.out with ⟨e1, e2⟩ | hn
      · have e3 : (huntL q.x e.a e.b).ls = q.x.ls := e2
        rw [e3, e1, ← HV1.out]
        exact HQ.out.2.2.1.chg0 hc1
      · exact Sl.less (B := w5.heap.size) (Sl.chg (S := [gl]) hn (HC8.out.2.trans hcc) (by intro y hy; simp at hy; omega)) (by have := HI.out.1.size; omega)
    have hqn : okR wc B ⟨q.f, huntL q.x e.a e.b, v8⟩ := ⟨HQ5.out.1, hls, insZ_rise (insZ_rise HQ5.out.2.2 e.a) e.b⟩
    have FW := Lib.hid (rwith_any (HI.out.2.2.chg0 hc1) hR hqn (by have := hcw.size; omega))
    have HCW := Lib.hid hcw
    have HL := Lib.hid (lives_with R ⟨q.f, huntL q.x e.a e.b, v8⟩)
    generalize hqe : (⟨q.f, huntL q.x e.a e.b, v8⟩ : Rf) = qn at *
    have HQE := Lib.hid hqe
    clear hBc hcc hc1 hcw hqn hqe hls hc5c m0 mf
    have RX := Lib.hid HBN.out.rangeQ
    go_wp2_with (first
      | (refine wpList_row 78 (.tmp 6) rfl rfl gl 0 rfl (arrR qn) _ RX.out Try.underlying78 rfl (infR (r := qn)) ?_)
      | fail)
    refine FW.out.mono ?_
    rintro r w9 ⟨v9, rfl, hs9, hc9⟩
    have HZ := Lib.hid (And.intro hs9 hc9)
    clear hs9 hc9 FW
    go_wp2_with fail
    go_ret2
    refine ⟨_, _, rfl, HZ.out.1, ?_, HCW.out.trans HZ.out.2⟩
    rw [HL.out, ← HQE.out, HX.out, HQ1.out]
end Go.Proofs.Ytgbdbeaflilmlaa
