/-
  WALKS over package model: what is told of a flow (life, State, Owner, Listed). Condition: at most 300 calls.
-/
import Derived.Test.YtgbdbeaflilmlaaModelT
set_option linter.unusedVariables false
set_option linter.unusedSimpArgs false
namespace Go.Proofs.Ytgbdbeaflilmlaa
open Go.RowKit Go.Maps

set_option maxRecDepth 100000 in
set_option maxHeartbeats 1000000 in
theorem mlife_any {w : World} {mb m nn kk s : Nat} {V : Fl → Value} {D : Fl → Option Lf} (hm : MoR w mb m nn kk V D s) {f : Fl} (hf : okF f) :
    Calls Try.prog 69 #[.pointer (some ⟨mb, 0, none⟩), f.v] w fun r w' => r = .returned (.agg (arrL ((D f).getD zL) (vOf V D f))) ∧ Chg [] w w' := by
  have hcA := ((Chg.refl [] w).alloc (.cells (arrF f) 73)).alloc (.cells #[.int .i64 0, .int .i64 0, .slice none 0 0] 146)
  have hBf : Blk ((w.alloc (.cells (arrF f) 73)).alloc (.cells #[.int .i64 0, .int .i64 0, .slice none 0 0] 146)) w.heap.size 73 (arrF f) := (Blk.new _ _ _).alloc _
  have hBl : Blk ((w.alloc (.cells (arrF f) 73)).alloc (.cells #[.int .i64 0, .int .i64 0, .slice none 0 0] 146)) (w.heap.size + 1) 146 #[.int .i64 0, .int .i64 0, .slice none 0 0] := Blk.new' (by simp)
  have hm1 := hm.chg0 hcA
  have hml := hm.lt
  have HI := Lib.hid (And.intro hcA (And.intro hBf (And.intro hBl hm1)))
  clear hcA hBf hBl hm1 hm
  go_enter Try.func69, Try.ntmps69
  go_upto_region 1 with fail
  generalize (w.alloc (.cells (arrF f) 73)).alloc (.cells #[.int .i64 0, .int .i64 0, .slice none 0 0] 146) = w1 at *
  generalize hg : w.heap.size = gf at *
  obtain ⟨hcA, hBf, hBl, hm1⟩ := HI.out
  have F1 := Lib.hid (mis_any hm1.blk)
  have HLK : ∀ W, Chg [gf + 1] w1 W → (Instr.lookup 89 (.map (some m)) f.v false).run Try.prog W = .ok (.agg (arrL ((D f).getD zL) (vOf V D f))) W := fun W hc => look_om (hm1.om.chg hc (by simp; omega)) hf
  have HLI := hm1.list hf
  obtain ⟨A, c, hv⟩ := Sl.form HLI.1
  have HC0 : ∀ W, Chg [gf + 1] w1 W → W.cell? ⟨mb, 0, none⟩ = some (.map (some m)) := fun W hc => hc.cell (hm1.blk.cell 0) (by simp; omega)
  have HRF : ∀ W, Chg [gf + 1] w1 W → W.rangeAt gf 0 (arrF f).toList := fun W hc => (hBf.chg hc (by simp)).rangeQ
  have hBl1 := hBl.drew
  generalize hx : (D f).getD zL = x at *
  generalize hvv : vOf V D f = v at *
  have HX := Lib.hid (And.intro hx (hvv.trans hv))
  clear hBl hBf hm1 HLI hx hvv
  subst hv
  go_wp2_with fail
  refine F1.out.mono ?_
  rintro r w2 ⟨rfl, rfl⟩
  clear F1
  go_upto_region 3 with fail
  have hS0 : Chg [gf + 1] w1 w1.drew := (Chg.refl [gf + 1] w1).drew
  refine wp_region_noPanic ?_
  refine wp_region_held_drew (S := Chg [gf + 1] w1) (by kernel_rfl) hS0 (fun _ => ?_)
  refine wpAnyH_take (i := 0) (v := ?_) rfl (by kernel_rfl) (by kernel_rfl) (by kernel_rfl) (fun _ _ _ h => h) (yields_pure (by rfl) (fun w => ?_)) (by with_reducible assumption) ?_
  rotate_left
  · (go_simp <;> with_reducible rfl)
  try simp only [List.getElem_toArray, List.getElem_cons_succ, List.getElem_cons_zero, Act.put, List.setIfInBounds_toArray, List.set_cons_zero, List.set_cons_succ]
  refine wpAnyH_take (i := 1) (v := ?_) rfl (by kernel_rfl) (by kernel_rfl) (by kernel_rfl) (fun _ _ _ h => h) (yields_pure (by rfl) (fun w => ?_)) (by with_reducible assumption) ?_
  rotate_left
  · (go_simp <;> with_reducible rfl)
  try simp only [List.getElem_toArray, List.getElem_cons_succ, List.getElem_cons_zero, Act.put, List.setIfInBounds_toArray, List.set_cons_zero, List.set_cons_succ]
  refine wpAnyH_take (i := 2) (v := ?_) rfl (by kernel_rfl) (by kernel_rfl) (by kernel_rfl) (fun _ _ _ h => h) (yields_pure (by rfl) (fun w => ?_)) (by with_reducible assumption) ?_
  rotate_left
  · (go_simp <;> with_reducible rfl)
  try simp only [List.getElem_toArray, List.getElem_cons_succ, List.getElem_cons_zero, Act.put, List.setIfInBounds_toArray, List.set_cons_zero, List.set_cons_succ]
  refine wpAnyH_take (i := 3) rfl (by kernel_rfl) (by kernel_rfl) (by kernel_rfl) (fun _ _ _ h => h) (yields_cell (by rfl) 89 (.tmp 11) rfl mb 0 rfl (.map (some m)) _ HC0 Try.underlying89 rfl) (by with_reducible assumption) ?_
  try simp only [List.getElem_toArray, List.getElem_cons_succ, List.getElem_cons_zero, Act.put, List.setIfInBounds_toArray, List.set_cons_zero, List.set_cons_succ]
  refine wpAnyH_take (i := 4) rfl (by kernel_rfl) (by kernel_rfl) (by kernel_rfl) (fun _ _ _ h => h) (yields_row (by rfl) 73 (.tmp 3) rfl gf 0 rfl (arrF f) _ HRF Try.underlying73 rfl infF) (by with_reducible assumption) ?_
  try simp only [List.getElem_toArray, List.getElem_cons_succ, List.getElem_cons_zero, Act.put, List.setIfInBounds_toArray, List.set_cons_zero, List.set_cons_succ]
  refine wpAnyH_take (i := 5) rfl (by kernel_rfl) (by kernel_rfl) (by kernel_rfl) (fun _ _ _ h => h) (yields_lookup (by rfl) 89 (.tmp 12) (.tmp 13) rfl rfl rfl (HLK)) (by with_reducible assumption) ?_
  try simp only [List.getElem_toArray, List.getElem_cons_succ, List.getElem_cons_zero, Act.put, List.setIfInBounds_toArray, List.set_cons_zero, List.set_cons_succ]
  refine wpAnyH_ready (rs := [6]) (by kernel_rfl) (by simp) (AllReadyH.cons rfl (fun K hK => ?_) AllReadyH.nil)
  refine step_store_blk rfl 146 (.tmp 4) (.tmp 14) rfl hBl1 rfl rfl rfl (infL (x := x)) rfl ?_
  intro w5 hB5 hc5
  have hS5 : Chg [gf + 1] w1 w5 := hS0.trans hc5
  refine hK.out _ _ (by with_reducible assumption) (fun _ => ?_)
  clear hK K
  try simp only [List.getElem_toArray, List.getElem_cons_succ, List.getElem_cons_zero, Act.put, List.setIfInBounds_toArray, List.set_cons_zero, List.set_cons_succ]
  refine wpAnyH_done (by kernel_rfl) ?_ _
  refine NoPanic.normal ?_
  have hfin : Chg [] w w5 := HI.out.1.trans' hS5 (by intro y hy; simp at hy; subst hy; exact .inr (by omega))
  clear hS0 hS5 HLK HC0 HRF hc5
  go_wp2_with fail
  exact bodyPost_ret (results_blk rfl rfl hB5 _ Try.underlying146 rfl (by kernel_rfl)) rfl ⟨by rw [HX.out.1, HX.out.2], hfin⟩

theorem fld0 (st ow : Int) (v : Value) (w : World) : (Instr.field 146 (.agg #[.int .i64 st, .int .i64 ow, v]) 0).run Try.prog w = .ok (.int .i64 st) w := by kernel_rfl
theorem fld2 (st ow : Int) (A : Option Addr) (n c : Nat) (w : World) : (Instr.field 146 (.agg #[.int .i64 st, .int .i64 ow, .slice A n c]) 2).run Try.prog w = .ok (.slice A n c) w := by kernel_rfl
set_option maxRecDepth 100000 in
set_option maxHeartbeats 400000 in
theorem mstate_any {W w : World} {mb m kk : Nat} {D : Fl → Option Lf} (h : MoS W w mb m kk D) {f : Fl} (hf : okF f) :
    Calls Try.prog 29 #[.pointer (some ⟨mb, 0, none⟩), f.v] w fun r w' => r = .returned (.int .i64 ((D f).getD zL).st) ∧ Chg [] w w' := by
  obtain ⟨nn, V, s, hm, _, _⟩ := h
  have hcA := (Chg.refl [] w).alloc (.cells (arrF f) 73)
  have hBf : Blk (w.alloc (.cells (arrF f) 73)) w.heap.size 73 (arrF f) := Blk.new _ _ _
  have F1 := Lib.hid (mlife_any (hm.chg0 hcA) hf)
  have R1 := Lib.hid hBf.rangeQ
  have HA := Lib.hid hcA
  clear hm hBf hcA
  generalize (D f).getD zL = x at *
  generalize vOf V D f = v at *
  obtain ⟨st, ow, ls⟩ := x
  have hfl := fld0 st ow v
  go_enter Try.func29, Try.ntmps29
  go_wp2_with (first | (refine wpList_row 73 (.tmp 3) rfl rfl w.heap.size 0 rfl (arrF f) _ R1.out Try.underlying73 rfl infF ?_) | fail)
  refine F1.out.mono ?_
  rintro r w2 ⟨rfl, hc2⟩
  have HZ := Lib.hid (HA.out.trans hc2)
  clear F1 hc2
  go_wp2_with fail
  go_ret
  exact ⟨rfl, HZ.out⟩
set_option maxRecDepth 100000 in
set_option maxHeartbeats 400000 in
theorem mowner_any {W w : World} {mb m kk : Nat} {D : Fl → Option Lf} (h : MoS W w mb m kk D) {f : Fl} (hf : okF f) :
    Calls Try.prog 28 #[.pointer (some ⟨mb, 0, none⟩), f.v] w fun r w' => r = .returned (.tuple #[.int .i64 ((D f).getD zL).ow, .bool (((D f).getD zL).st == 2)]) ∧ Chg [] w w' := by
  obtain ⟨nn, V, s, hm, _, _⟩ := h
  have hcA := (Chg.refl [] w).alloc (.cells (arrF f) 73)
  have hBf : Blk (w.alloc (.cells (arrF f) 73)) w.heap.size 73 (arrF f) := Blk.new _ _ _
  have F1 := Lib.hid (mlife_any (hm.chg0 hcA) hf)
  have HLI := hm.list hf
  obtain ⟨A, c, hv⟩ := Sl.form HLI.1
  have R1 := Lib.hid hBf.rangeQ
  have HA := Lib.hid hcA
  clear hm hBf hcA HLI
  generalize (D f).getD zL = x at *
  generalize vOf V D f = v at *
  subst hv
  go_enter Try.func28, Try.ntmps28
  go_upto_region 1 with fail
  go_wp2_with (first | (refine wpList_row 73 (.tmp 3) rfl rfl w.heap.size 0 rfl (arrF f) _ R1.out Try.underlying73 rfl infF ?_) | fail)
  refine F1.out.mono ?_
  rintro r w2 ⟨rfl, hc2⟩
  have hBx : Blk (w2.alloc (.cells #[.int .i64 0, .int .i64 0, .slice none 0 0] 146)) w2.heap.size 146 #[.int .i64 0, .int .i64 0, .slice none 0 0] := Blk.new _ _ _
  have hcx := ((Chg.refl [] w2).alloc (.cells #[.int .i64 0, .int .i64 0, .slice none 0 0] 146))
  have HZ := Lib.hid (HA.out.trans hc2)
  clear F1 hc2
  go_upto_region 2 with (first
    | (refine wpList_store_blk rfl 146 _ _ rfl rfl hBx rfl rfl rfl (infL (x := x)) rfl ?_; intro w3 hB3 hc3)
    | fail)
  have hz3 := Lib.hid (HZ.out.trans (hcx.trans' hc3 (by intro y hy; simp at hy; subst hy; exact .inr (Nat.le_refl _))))
  generalize w2.heap.size = gx at *
  have q0 := Lib.hid (fun w' (hc : Chg [] w3 w') => (hc.cell (hB3.cell 0) (by simp) : w'.cell? ⟨gx, 0, none⟩ = some (.int .i64 x.st)))
  have q1 := Lib.hid (fun w' (hc : Chg [] w3 w') => (hc.cell (hB3.cell 1) (by simp) : w'.cell? ⟨gx, 1, none⟩ = some (.int .i64 x.ow)))
  clear hB3 hc3 hBx hcx
  refine wp_region_chg (by kernel_rfl) (by kernel_rfl) ?_
  repeat (first
    | ((with_reducible refine wpQuiet_cellC 3 (.tmp 10) ?_ ?_ gx 1 ?_ (.int .i64 x.ow) _ q1.out Try.underlying3 ?_ ?_); (focus rfl); (focus rfl); (focus rfl); (focus rfl); (try simp only [List.getElem_toArray, List.getElem_cons_succ, List.getElem_cons_zero, Act.put, List.setIfInBounds_toArray, List.set_cons_zero, List.set_cons_succ]))
    | ((with_reducible refine wpQuiet_cellC 3 (.tmp 12) ?_ ?_ gx 0 ?_ (.int .i64 x.st) _ q0.out Try.underlying3 ?_ ?_); (focus rfl); (focus rfl); (focus rfl); (focus rfl); (try simp only [List.getElem_toArray, List.getElem_cons_succ, List.getElem_cons_zero, Act.put, List.setIfInBounds_toArray, List.set_cons_zero, List.set_cons_succ]))
    | ((with_reducible refine wpQuiet_pure (v := ?_) ?_ (fun w => ?_) ?_); rotate_left; (focus rfl); (focus (go_simp <;> with_reducible rfl)); (try simp only [List.getElem_toArray, List.getElem_cons_succ, List.getElem_cons_zero, Act.put, List.setIfInBounds_toArray, List.set_cons_zero, List.set_cons_succ])))
  refine wpQuiet_nil ?_
  intro w4 hc4
  have HF := Lib.hid (hz3.out.trans hc4)
  clear hc4 q0 q1
  go_wp2_with fail
  go_ret2
  exact ⟨rfl, HF.out⟩
set_option maxRecDepth 100000 in
set_option maxHeartbeats 400000 in
theorem mlisted_any {W w : World} {mb m kk : Nat} {D : Fl → Option Lf} (h : MoS W w mb m kk D) (hK : kk ≤ 300) {f : Fl} (hf : okF f) :
    Calls Try.prog 31 #[.pointer (some ⟨mb, 0, none⟩), f.v] w fun r w' => ∃ v, r = .returned v ∧ SlZ w' w.heap.size v ((D f).getD zL).ls ∧ Chg [] w w' := by
  obtain ⟨nn, V, s, hm, _, _⟩ := h
  have hcA := (Chg.refl [] w).alloc (.cells (arrF f) 73)
  have hBf : Blk (w.alloc (.cells (arrF f) 73)) w.heap.size 73 (arrF f) := Blk.new _ _ _
  have F1 := Lib.hid (mlife_any (hm.chg0 hcA) hf)
  have HLI := Lib.hid (hm.list hf)
  have R1 := Lib.hid hBf.rangeQ
  have HA := Lib.hid hcA
  clear hm hBf hcA
  generalize (D f).getD zL = x at *
  generalize vOf V D f = v at *
  obtain ⟨st, ow, ls⟩ := x
  obtain ⟨A, c, hv⟩ := Sl.form HLI.out.1
  subst hv
  have hfl := fld2 st ow A ls.length c
  go_enter Try.func31, Try.ntmps31
  go_wp2_with (first | (refine wpList_row 73 (.tmp 3) rfl rfl w.heap.size 0 rfl (arrF f) _ R1.out Try.underlying73 rfl infF ?_) | fail)
  refine F1.out.mono ?_
  rintro r w2 ⟨rfl, hc2⟩
  have HZ := Lib.hid (HA.out.trans hc2)
  have F2 := Lib.hid (clone_any (l := ls) (HLI.out.1.chg0 (HA.out.trans hc2)) (by have := HLI.out.2.2; omega))
  clear F1 hc2
  go_wp2_with fail
  refine F2.out.mono ?_
  rintro r w3 ⟨v3, rfl, ho3, hc3⟩
  have HS := Lib.hid (And.intro (Sl.of_own ho3) (HZ.out.trans hc3))
  clear F2 hc3 ho3
  go_wp2_with fail
  go_ret
  exact ⟨_, rfl, HS.out.1.less HZ.out.size, HS.out.2⟩
end Go.Proofs.Ytgbdbeaflilmlaa
