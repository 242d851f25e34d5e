/-
  WALKS over package model: Step, State, Owner, Listed on a model that New made. Condition: at most 300 calls.
-/
import Derived.Test.YtgbdbeaflilmlaaModelW
import Derived.Test.YtgbdbeaflilmlaaReg
set_option linter.unusedVariables false
set_option linter.unusedSimpArgs false
namespace Go.Proofs.Ytgbdbeaflilmlaa
open Go.RowKit Go.Maps

/-- An event. -/
structure Ev where
  kind : Int
  node : Int
  flow : Fl
  a : Int
  b : Int
  ver : Int
deriving DecidableEq, Inhabited
def encE (e : Ev) : List Value := .int .i64 e.kind :: .int .i64 e.node :: (encF e.flow ++ [.int .i64 e.a, .int .i64 e.b, .int .i64 e.ver])
def arrE (e : Ev) : Array Value := (encE e).toArray
theorem encE_len (e : Ev) : (encE e).length = 39 := rfl
theorem encE_one (e : Ev) : ∀ u ∈ encE e, u.oneCell' = true := by
  intro u hu
  simp only [encE, List.mem_cons, List.mem_append, List.not_mem_nil, or_false] at hu
  rcases hu with rfl | rfl | hu | rfl | rfl | rfl
  · rfl
  · rfl
  · exact encF_one _ u hu
  · rfl
  · rfl
  · rfl
theorem ev_at {w : World} {g : Nat} {t : TypeId} {e : Ev} (h : Blk w g t (arrE e)) (j : Nat) : w.cell? ⟨g, j, none⟩ = (encE e)[j]? := by
  have h' : Blk w g t (encE e).toArray := h
  rw [h'.cell j]; simp
theorem ev_flow {w : World} {g : Nat} {t : TypeId} {e : Ev} (h : Blk w g t (arrE e)) : w.rangeAt g 2 (arrF e.flow).toList := fun j u hu => by
  have hj : j < 34 := by have := (List.getElem?_eq_some_iff.1 hu).1; exact this
  rw [ev_at h, show 2 + j = (j + 1) + 1 by omega]
  unfold encE
  rw [List.getElem?_cons_succ, List.getElem?_cons_succ, List.getElem?_append_left (by rw [encF_len]; exact hj)]
  exact hu
@[reducible] def zF : Fl := ⟨⟨0, 0, 0, 0, 0, 0, 0, 0, 0, 0, 0, 0, 0, 0, 0, 0⟩, 0, ⟨0, 0, 0, 0, 0, 0, 0, 0, 0, 0, 0, 0, 0, 0, 0, 0⟩, 0⟩
def okE (e : Ev) : Prop := okF e.flow
def stepM (D : Fl → Option Lf) (e : Ev) : (Fl → Option Lf) × Bool :=
  if e.flow = zF then (D, true) else
  if e.kind = 1 then (fun g => if g = e.flow then some (huntL ((D e.flow).getD zL) e.a e.b) else D g, true) else
  if e.kind = 5 then (if ((D e.flow).getD zL).st = 1 ∧ e.node ∈ ((D e.flow).getD zL).ls then (fun g => if g = e.flow then some ⟨2, e.node, ((D e.flow).getD zL).ls⟩ else D g, true) else (D, false)) else
  if e.kind = 3 ∨ e.kind = 4 ∨ e.kind = 7 ∨ e.kind = 10 then (D, decide (((D e.flow).getD zL).st = 2 ∧ ((D e.flow).getD zL).ow = e.node)) else (D, true)
theorem okA_zz : okA ⟨0, 0, 0, 0, 0, 0, 0, 0, 0, 0, 0, 0, 0, 0, 0, 0⟩ := by intro x hx; simp [Ad.l] at hx; rcases hx with rfl; decide
theorem okF_z : okF zF := ⟨okA_zz, by decide, okA_zz, by decide⟩
section
variable {P : Program} {ops : Array Oper} {o : Oper} {a : Act}
theorem step_mapUpdate {w w' : World} {K : Act → World → Prop} {Q : Exit → Act → World → Prop} {E : Prop} (hgd : o.guard = none) (t : TypeId) (m k x : Operand) (ho : o.op = .mapUpdate t m k x) (hd : o.dst = none) {mv kv xv : Value} (hm : a.eval m = mv) (hk : a.eval k = kv) (hx : a.eval x = xv)
    (hr : (Instr.mapUpdate t mv kv xv).run P w = .ok () w') (h : K a w') : if Region.wanted o (yielded ops a.tmps) = true then Oper.wp P o a w K Q else E := by
  rw [if_pos (by simp [Region.wanted, hgd])]
  unfold Oper.wp execOp
  simp only [ho, hm, hk, hx, Sem.run_bind, Sem.run_pure, Result.andThen_ok, hr]
  rw [Oper.upon_skip, hd]
  exact h
end
theorem zeroL (w : World) : (zeroValue 146).run Try.prog w = .ok (.agg #[.int .i64 0, .int .i64 0, .slice none 0 0]) w := by kernel_rfl
set_option maxHeartbeats 400000 in
theorem mis_any {w : World} {mb m : Nat} (h : Blk w mb 91 #[.map (some m)]) : Calls Try.prog 65 #[.pointer (some ⟨mb, 0, none⟩)] w fun e w' => e = .returned (.bool true) ∧ w = w' := by
  have c0 : w.cell? ⟨mb, 0, none⟩ = some (.map (some m)) := h.cell 0
  have hn := fun w => run_neq_map_nil (P := Try.prog) w 89 _ _ (some m) Try.underlying89
  clear h
  go_enter Try.func65, Try.ntmps65
  go_wp2_with fail
  go_ret
  exact ⟨rfl, rfl⟩
set_option maxHeartbeats 400000 in
theorem mnew_any (w : World) : Calls Try.prog 24 #[] w fun e w' => ∃ mb m, e = .returned (.pointer (some ⟨mb, 0, none⟩)) ∧ MoS w w' mb m 0 (fun _ => none) ∧ Chg [] w w' := by
  have hmm := @run_makeMap Try.prog
  have hom := OM.new (K := KF) w
  have hbl : Blk ((w.alloc (.map #[] 0)).alloc (.cells #[.map (some w.heap.size)] 91)) (w.heap.size + 1) 91 #[.map (some w.heap.size)] := Blk.new' (by simp)
  have hc := ((Chg.refl [] w).alloc (.map #[] 0)).alloc (.cells #[.map (some w.heap.size)] 91)
  have HI := Lib.hid (And.intro hom (And.intro hbl hc))
  clear hom hbl hc
  go_enter Try.func24, Try.ntmps24
  go_wp2_with fail
  go_ret
  refine ⟨w.heap.size + 1, w.heap.size, by first | rfl | simp, ⟨0, fun _ => .slice none 0 0, 0, ⟨HI.out.2.1, HI.out.1.chg0 ((Chg.refl _ _).alloc _), (fun f x _ h => by cases h), by omega, by omega⟩, Nat.le_refl _, by omega⟩, HI.out.2.2⟩
set_option maxRecDepth 100000 in
set_option maxHeartbeats 1000000 in
theorem mstep_kind {W w : World} {mb m kk : Nat} {D : Fl → Option Lf} (h : MoS W w mb m kk D) (hK : kk ≤ 300) {e : Ev} (he : okE e) (hz : ¬ e.flow = zF) (h1 : e.kind = 1) :
    Calls Try.prog 26 #[.pointer (some ⟨mb, 0, none⟩), .agg (arrE e)] w fun r w' => r = .returned (.bool true) ∧ MoS W w' mb m (kk + 1) (fun g => if g = e.flow then some (huntL ((D e.flow).getD zL) e.a e.b) else D g) ∧ Chg [m] w w' := by
  obtain ⟨nn, V, s, hm, hWm, hWb⟩ := h
  have hz' : decide (e.flow = zF) = false := by simp [hz]
  have hE1 := fun W => eq_fl W he okF_z
  rw [hz'] at hE1
  have hcA := (Chg.refl [] w).alloc (.cells (arrE e) 75)
  have hBe : Blk (w.alloc (.cells (arrE e) 75)) w.heap.size 75 (arrE e) := Blk.new _ _ _
  have hm1 := hm.chg0 hcA
  have hml := hm.lt
  have HI := Lib.hid (And.intro hcA (And.intro hBe hm1))
  have hge : w.heap.size < (w.alloc (.cells (arrE e) 75)).heap.size := by simp
  clear hcA hBe hm1 hm hz'
  go_enter Try.func26, Try.ntmps26
  go_upto_region 1 with fail
  generalize w.alloc (.cells (arrE e) 75) = w1 at *
  generalize hg : w.heap.size = ge at *
  obtain ⟨hcA, hBe, hm1⟩ := HI.out
  have F1 := Lib.hid (mis_any hm1.blk)
  have e0 : w1.cell? ⟨ge, 0, none⟩ = some (.int .i64 e.kind) := ev_at hBe 0
  have RF := Lib.hid (ev_flow hBe)
  clear hBe hm1 hcA
  go_wp2_with fail
  refine F1.out.mono ?_
  rintro r w2 ⟨rfl, rfl⟩
  clear F1
  have hS0 : Chg [] w1 w1.drew := (Chg.refl [] w1).drew
  have HC0 : ∀ W, Chg [] w1 W → W.cell? ⟨mb, 0, none⟩ = some (.map (some m)) := fun W hc => hc.cell (HI.out.2.2.blk.cell 0) (by simp)
  have HRF : ∀ W, Chg [] w1 W → W.rangeAt ge 2 (arrF e.flow).toList := fun W hc => rangeAt_chg RF.out hc (by simp)
  have HLK : ∀ W, Chg [] w1 W → (Instr.lookup 89 (.map (some m)) e.flow.v false).run Try.prog W = .ok (.agg (arrL ((D e.flow).getD zL) (vOf V D e.flow))) W := fun W hc => (HI.out.2.2.chg0 hc).look he
  have HLI := Lib.hid (HI.out.2.2.list he)
  generalize hx : (D e.flow).getD zL = x at *
  generalize hv : vOf V D e.flow = v at *
  obtain ⟨A, c, rfl⟩ := Sl.form HLI.out.1
  have HC0' := Lib.hid HC0
  have HRF' := Lib.hid HRF
  have HX := Lib.hid hx
  clear hx hv
  go_upto_region 5 with (first
    | (refine wpList_row 73 (.tmp 9) rfl rfl ge 2 rfl (arrF e.flow) _ RF.out Try.underlying73 rfl infF ?_)
    | fail)
  have hBx : Blk (w1.alloc (.cells #[.int .i64 0, .int .i64 0, .slice none 0 0] 146)).drew w1.heap.size 146 #[.int .i64 0, .int .i64 0, .slice none 0 0] := (Blk.new _ _ _).drew
  have hcB := ((Chg.refl [] w1).alloc (.cells #[.int .i64 0, .int .i64 0, .slice none 0 0] 146)).drew
  refine wp_region_noPanic ?_
  refine wp_region_held_drew (S := Chg [] w1) (by kernel_rfl) hS0 (fun _ => ?_)
  refine wpAnyH_take (i := 0) (v := ?_) rfl (by kernel_rfl) (by kernel_rfl) (by kernel_rfl) (fun _ _ _ h => h) (yields_pure (by rfl) (fun w => ?_)) (by with_reducible assumption) ?_
  rotate_left
  · (go_simp <;> with_reducible rfl)
  try simp only [List.getElem_toArray, List.getElem_cons_succ, List.getElem_cons_zero, Act.put, List.setIfInBounds_toArray, List.set_cons_zero, List.set_cons_succ]
  refine wpAnyH_take (i := 1) (v := ?_) rfl (by kernel_rfl) (by kernel_rfl) (by kernel_rfl) (fun _ _ _ h => h) (yields_pure (by rfl) (fun w => ?_)) (by with_reducible assumption) ?_
  rotate_left
  · (go_simp <;> with_reducible rfl)
  try simp only [List.getElem_toArray, List.getElem_cons_succ, List.getElem_cons_zero, Act.put, List.setIfInBounds_toArray, List.set_cons_zero, List.set_cons_succ]
  refine wpAnyH_take (i := 2) (v := ?_) rfl (by kernel_rfl) (by kernel_rfl) (by kernel_rfl) (fun _ _ _ h => h) (yields_pure (by rfl) (fun w => ?_)) (by with_reducible assumption) ?_
  rotate_left
  · (go_simp <;> with_reducible rfl)
  try simp only [List.getElem_toArray, List.getElem_cons_succ, List.getElem_cons_zero, Act.put, List.setIfInBounds_toArray, List.set_cons_zero, List.set_cons_succ]
  refine wpAnyH_take (i := 3) rfl (by kernel_rfl) (by kernel_rfl) (by kernel_rfl) (fun _ _ _ h => h) (yields_cell (by rfl) 89 (.tmp 15) rfl mb 0 rfl (.map (some m)) _ HC0 Try.underlying89 rfl) (by with_reducible assumption) ?_
  try simp only [List.getElem_toArray, List.getElem_cons_succ, List.getElem_cons_zero, Act.put, List.setIfInBounds_toArray, List.set_cons_zero, List.set_cons_succ]
  refine wpAnyH_take (i := 4) (v := ?_) rfl (by kernel_rfl) (by kernel_rfl) (by kernel_rfl) (fun _ _ _ h => h) (yields_pure (by rfl) (fun w => ?_)) (by with_reducible assumption) ?_
  rotate_left
  · (go_simp <;> with_reducible rfl)
  try simp only [List.getElem_toArray, List.getElem_cons_succ, List.getElem_cons_zero, Act.put, List.setIfInBounds_toArray, List.set_cons_zero, List.set_cons_succ]
  refine wpAnyH_take (i := 5) rfl (by kernel_rfl) (by kernel_rfl) (by kernel_rfl) (fun _ _ _ h => h) (yields_row (by rfl) 73 (.tmp 17) rfl ge 2 rfl (arrF e.flow) _ HRF Try.underlying73 rfl infF) (by with_reducible assumption) ?_
  try simp only [List.getElem_toArray, List.getElem_cons_succ, List.getElem_cons_zero, Act.put, List.setIfInBounds_toArray, List.set_cons_zero, List.set_cons_succ]
  refine wpAnyH_take (i := 6) rfl (by kernel_rfl) (by kernel_rfl) (by kernel_rfl) (fun _ _ _ h => h) (yields_lookup (by rfl) 89 (.tmp 16) (.tmp 18) rfl rfl rfl (HLK)) (by with_reducible assumption) ?_
  try simp only [List.getElem_toArray, List.getElem_cons_succ, List.getElem_cons_zero, Act.put, List.setIfInBounds_toArray, List.set_cons_zero, List.set_cons_succ]
  refine wpAnyH_ready (rs := [7]) (by kernel_rfl) (by simp) (AllReadyH.cons rfl (fun K hK => ?_) AllReadyH.nil)
  go_simp
  refine hK.out _ _ (by with_reducible assumption) (fun _ => ?_)
  clear hK K
  try simp only [List.getElem_toArray, List.getElem_cons_succ, List.getElem_cons_zero, Act.put, List.setIfInBounds_toArray, List.set_cons_zero, List.set_cons_succ]
  refine wpAnyH_ready (rs := [8]) (by kernel_rfl) (by simp) (AllReadyH.cons rfl (fun K hK => ?_) AllReadyH.nil)
  refine step_store_blk rfl 146 (.tmp 5) (.tmp 19) rfl hBx rfl rfl rfl (infL (x := x)) rfl ?_
  intro w5 hB5 hc5
  have hc6 : Chg [] w1 w5 := hcB.trans' hc5 (by intro y hy; simp at hy; subst hy; exact .inr (Nat.le_refl _))
  refine hK.out _ _ (by with_reducible assumption) (fun _ => ?_)
  clear hK K
  try simp only [List.getElem_toArray, List.getElem_cons_succ, List.getElem_cons_zero, Act.put, List.setIfInBounds_toArray, List.set_cons_zero, List.set_cons_succ]
  refine wpAnyH_done (by kernel_rfl) ?_ _
  refine NoPanic.normal ?_
  generalize hgx : w1.heap.size = gx at *
  have q0 : w5.cell? ⟨ge, 0, none⟩ = some (.int .i64 e.kind) := hc6.cell e0 (by simp)
  have HB5 := Lib.hid hB5
  have HC6 := Lib.hid hc6
  clear hS0 HC0 HRF HLK hBx hcB hB5 hc5 hc6 e0 RF
  have hkb : (e.kind == 1) = true := by simp [h1]
  have hm5 := HI.out.2.2.chg0 HC6.out
  have hz5 := HC6.out.size
  have hS0 : Chg [m] w5 w5.drew := (Chg.refl [m] w5).drew
  have hgm : ge ≠ m := by omega
  have hxm : gx ≠ m := by omega
  have HC0 : ∀ W, Chg [m] w5 W → W.cell? ⟨mb, 0, none⟩ = some (.map (some m)) := fun W hc => hc.cell (hm5.blk.cell 0) (by simpa using hm5.ne)
  have hBe5 := HI.out.2.1.chg HC6.out (by simp)
  have HRF : ∀ W, Chg [m] w5 W → W.rangeAt ge 2 (arrF e.flow).toList := fun W hc => rangeAt_chg (ev_flow hBe5) hc (by simpa using hgm)
  have HRX : ∀ W, Chg [m] w5 W → W.rangeAt gx 0 (arrL x (.slice A x.ls.length c)).toList := fun W hc => (HB5.out.chg hc (by simpa using hxm)).rangeQ
  have HA1 : ∀ W, Chg [m] w5 W → W.cell? ⟨ge, 36, none⟩ = some (.int .i64 e.a) := fun W hc => hc.cell (ev_at hBe5 36) (by simpa using hgm)
  have HA2 : ∀ W, Chg [m] w5 W → W.cell? ⟨ge, 37, none⟩ = some (.int .i64 e.b) := fun W hc => hc.cell (ev_at hBe5 37) (by simpa using hgm)
  have F2 := Lib.hid (hunt_any (B := m + 1) (x := x) ((HLI.out.1.chg0 HC6.out).chg0 (Chg.refl [] w5).drew) (by have := HLI.out.2.2; omega) HLI.out.2.1 (by have := hm5.lt.2; simp; omega) e.a e.b)
  have HM5 := Lib.hid hm5
  clear hm5 hBe5
  go_upto_region 8 with fail
  refine wp_region_noPanic ?_
  refine wp_region_held_drew (S := Chg [m] w5) (by kernel_rfl) hS0 (fun _ => ?_)
  refine wpAnyH_take (i := 0) (v := ?_) rfl (by kernel_rfl) (by kernel_rfl) (by kernel_rfl) (fun _ _ _ h => h) (yields_pure (by rfl) (fun w => ?_)) (by with_reducible assumption) ?_
  rotate_left
  · (go_simp <;> with_reducible rfl)
  try simp only [List.getElem_toArray, List.getElem_cons_succ, List.getElem_cons_zero, Act.put, List.setIfInBounds_toArray, List.set_cons_zero, List.set_cons_succ]
  refine wpAnyH_take (i := 1) (v := ?_) rfl (by kernel_rfl) (by kernel_rfl) (by kernel_rfl) (fun _ _ _ h => h) (yields_pure (by rfl) (fun w => ?_)) (by with_reducible assumption) ?_
  rotate_left
  · (go_simp <;> with_reducible rfl)
  try simp only [List.getElem_toArray, List.getElem_cons_succ, List.getElem_cons_zero, Act.put, List.setIfInBounds_toArray, List.set_cons_zero, List.set_cons_succ]
  refine wpAnyH_take (i := 2) (v := ?_) rfl (by kernel_rfl) (by kernel_rfl) (by kernel_rfl) (fun _ _ _ h => h) (yields_pure (by rfl) (fun w => ?_)) (by with_reducible assumption) ?_
  rotate_left
  · (go_simp <;> with_reducible rfl)
  try simp only [List.getElem_toArray, List.getElem_cons_succ, List.getElem_cons_zero, Act.put, List.setIfInBounds_toArray, List.set_cons_zero, List.set_cons_succ]
  refine wpAnyH_take (i := 3) rfl (by kernel_rfl) (by kernel_rfl) (by kernel_rfl) (fun _ _ _ h => h) (yields_cell (by rfl) 89 (.tmp 26) rfl mb 0 rfl (.map (some m)) _ HC0 Try.underlying89 rfl) (by with_reducible assumption) ?_
  try simp only [List.getElem_toArray, List.getElem_cons_succ, List.getElem_cons_zero, Act.put, List.setIfInBounds_toArray, List.set_cons_zero, List.set_cons_succ]
  refine wpAnyH_take (i := 4) (v := ?_) rfl (by kernel_rfl) (by kernel_rfl) (by kernel_rfl) (fun _ _ _ h => h) (yields_pure (by rfl) (fun w => ?_)) (by with_reducible assumption) ?_
  rotate_left
  · (go_simp <;> with_reducible rfl)
  try simp only [List.getElem_toArray, List.getElem_cons_succ, List.getElem_cons_zero, Act.put, List.setIfInBounds_toArray, List.set_cons_zero, List.set_cons_succ]
  refine wpAnyH_take (i := 5) rfl (by kernel_rfl) (by kernel_rfl) (by kernel_rfl) (fun _ _ _ h => h) (yields_row (by rfl) 73 (.tmp 28) rfl ge 2 rfl (arrF e.flow) _ HRF Try.underlying73 rfl infF) (by with_reducible assumption) ?_
  try simp only [List.getElem_toArray, List.getElem_cons_succ, List.getElem_cons_zero, Act.put, List.setIfInBounds_toArray, List.set_cons_zero, List.set_cons_succ]
  refine wpAnyH_take (i := 6) rfl (by kernel_rfl) (by kernel_rfl) (by kernel_rfl) (fun _ _ _ h => h) (yields_row (by rfl) 146 (.tmp 5) rfl gx 0 rfl ((arrL x (.slice A x.ls.length c))) _ HRX Try.underlying146 rfl (infL (x := x))) (by with_reducible assumption) ?_
  try simp only [List.getElem_toArray, List.getElem_cons_succ, List.getElem_cons_zero, Act.put, List.setIfInBounds_toArray, List.set_cons_zero, List.set_cons_succ]
  refine wpAnyH_take (i := 7) (v := ?_) rfl (by kernel_rfl) (by kernel_rfl) (by kernel_rfl) (fun _ _ _ h => h) (yields_pure (by rfl) (fun w => ?_)) (by with_reducible assumption) ?_
  rotate_left
  · (go_simp <;> with_reducible rfl)
  try simp only [List.getElem_toArray, List.getElem_cons_succ, List.getElem_cons_zero, Act.put, List.setIfInBounds_toArray, List.set_cons_zero, List.set_cons_succ]
  refine wpAnyH_take (i := 8) rfl (by kernel_rfl) (by kernel_rfl) (by kernel_rfl) (fun _ _ _ h => h) (yields_cell (by rfl) 3 (.tmp 31) rfl ge 36 rfl (.int .i64 e.a) _ HA1 Try.underlying3 rfl) (by with_reducible assumption) ?_
  try simp only [List.getElem_toArray, List.getElem_cons_succ, List.getElem_cons_zero, Act.put, List.setIfInBounds_toArray, List.set_cons_zero, List.set_cons_succ]
  refine wpAnyH_take (i := 9) (v := ?_) rfl (by kernel_rfl) (by kernel_rfl) (by kernel_rfl) (fun _ _ _ h => h) (yields_pure (by rfl) (fun w => ?_)) (by with_reducible assumption) ?_
  rotate_left
  · (go_simp <;> with_reducible rfl)
  try simp only [List.getElem_toArray, List.getElem_cons_succ, List.getElem_cons_zero, Act.put, List.setIfInBounds_toArray, List.set_cons_zero, List.set_cons_succ]
  refine wpAnyH_take (i := 10) rfl (by kernel_rfl) (by kernel_rfl) (by kernel_rfl) (fun _ _ _ h => h) (yields_cell (by rfl) 3 (.tmp 33) rfl ge 37 rfl (.int .i64 e.b) _ HA2 Try.underlying3 rfl) (by with_reducible assumption) ?_
  try simp only [List.getElem_toArray, List.getElem_cons_succ, List.getElem_cons_zero, Act.put, List.setIfInBounds_toArray, List.set_cons_zero, List.set_cons_succ]
  refine wpAnyH_ready (rs := [11]) (by kernel_rfl) (by simp) (AllReadyH.cons rfl (fun K hK => ?_) AllReadyH.nil)
  go_simp
  refine F2.out.mono ?_
  rintro r w6 ⟨v6, rfl, hs6, hc6⟩
  have hS6 : Chg [m] w5 w6 := ((Chg.refl [m] w5).drew.trans (hc6.more (by simp)))
  have hm6 := (HM5.out.chg0 (Chg.refl [] w5).drew).chg0 hc6
  have hlen : (huntL x e.a e.b).ls.length ≤ 2 * (kk + 1) := by
    have a1 := insZ_len x.ls e.a
    have a2 := insZ_len (insZ x.ls e.a) e.b
    have a3 := HLI.out.2.2
    show (insZ (insZ x.ls e.a) e.b).length ≤ _
    omega
  obtain ⟨w7, hr7, hm7, hc7⟩ := hm6.put he hs6 (insZ_rise (insZ_rise HLI.out.2.1 e.a) e.b) hlen (by omega)
  have hS7 : Chg [m] w5 w7 := hS6.trans hc7
  have HM7 := Lib.hid hm7
  have HW7 := Lib.hid hS7
  clear hm6 hm7 hs6 hc6 F2 hlen
  refine hK.out _ _ (by with_reducible assumption) (fun _ => ?_)
  clear hK K
  try simp only [List.getElem_toArray, List.getElem_cons_succ, List.getElem_cons_zero, Act.put, List.setIfInBounds_toArray, List.set_cons_zero, List.set_cons_succ]
  refine wpAnyH_ready (rs := [12]) (by kernel_rfl) (by simp) (AllReadyH.cons rfl (fun K hK => ?_) AllReadyH.nil)
  refine step_mapUpdate rfl 89 (.tmp 27) (.tmp 29) (.tmp 35) rfl rfl rfl rfl rfl hr7 ?_
  refine hK.out _ _ (by with_reducible assumption) (fun _ => ?_)
  clear hK K
  try simp only [List.getElem_toArray, List.getElem_cons_succ, List.getElem_cons_zero, Act.put, List.setIfInBounds_toArray, List.set_cons_zero, List.set_cons_succ]
  refine wpAnyH_done (by kernel_rfl) ?_ _
  refine NoPanic.normal ?_
  clear hS0 hS6 hS7 hr7 hc7 HC0 HRF HRX HA1 HA2
  go_wp2_with fail
  go_ret
  refine ⟨rfl, ?_, ((HI.out.1.more (by simp)).trans (HC6.out.more (by simp))).trans HW7.out⟩
  obtain ⟨s7, h7⟩ := HM7.out
  rw [HX.out]
  exact ⟨_, _, s7, h7, hWm, hWb⟩
end Go.Proofs.Ytgbdbeaflilmlaa
