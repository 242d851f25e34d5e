/-
  WALKS: chapter 44's example; a model that there is not, or that no call made; ModelNil. No condition.
-/
import Derived.Test.YtgbdbeaflilmlaaModelL
set_option linter.unusedVariables false
set_option linter.unusedSimpArgs false
namespace Go.Proofs.Ytgbdbeaflilmlaa
open Go.RowKit Go.Maps

@[reducible] def fL44 : Fl := ⟨⟨0, 0, 0, 0, 0, 0, 0, 0, 0, 0, 0, 0, 0, 0, 0, 0⟩, 1, ⟨0, 0, 0, 0, 0, 0, 0, 0, 0, 0, 0, 0, 0, 0, 0, 0⟩, 0⟩
@[reducible] def ev1 : Ev := ⟨1, 0, fL44, 2, 3, 0⟩
@[reducible] def ev2 : Ev := ⟨5, 3, fL44, 0, 0, 0⟩
@[reducible] def ev3 : Ev := ⟨5, 2, fL44, 0, 0, 0⟩
def dm0 : Fl → Option Lf := fun _ => none
def dm1 : Fl → Option Lf := fun g => if g = ev1.flow then some (huntL ((dm0 ev1.flow).getD zL) ev1.a ev1.b) else dm0 g
def dm2 : Fl → Option Lf := fun g => if g = ev2.flow then some ⟨2, ev2.node, ((dm1 ev2.flow).getD zL).ls⟩ else dm1 g
set_option maxRecDepth 100000 in
set_option maxHeartbeats 1000000 in
theorem lives44 (w : World) : Calls Try.prog 34 #[] w fun r w' => r = .returned (.bool true) ∧ Chg [] w w' := by
  have okf : okF fL44 := ⟨okA_zz, by decide, okA_zz, by decide⟩
  have nz : ¬ fL44 = zF := by decide
  have A1 : ((dm1 fL44).getD zL).st = 1 ∧ (3 : Int) ∈ ((dm1 fL44).getD zL).ls := by decide +kernel
  have A2 : ¬ (((dm2 fL44).getD zL).st = 1 ∧ ev3.node ∈ ((dm2 fL44).getD zL).ls) := by decide +kernel
  have A3 : (dm2 fL44).getD zL = ⟨2, 3, [2, 3]⟩ := by decide +kernel
  have A4 : (dm2 zF).getD zL = ⟨0, 0, []⟩ := by decide +kernel
  have OK := Lib.hid (And.intro okf (And.intro nz (And.intro A1 (And.intro A2 (And.intro A3 A4)))))
  clear okf nz A1 A2 A3 A4
  go_enter Try.func34, Try.ntmps34
  go_wp2_with fail
  refine (mnew_any w).mono ?_
  rintro r w1 ⟨mb, m, rfl, hS, hc1⟩
  have hBf : Blk (w1.alloc (.cells (arrF zF) 73)) w1.heap.size 73 (arrF zF) := Blk.new _ _ _
  have hcf := (Chg.refl [] w1).alloc (.cells (arrF zF) 73)
  have HS := Lib.hid (And.intro hS hc1)
  clear hS hc1
  go_upto_region 5 with (first
    | (refine wpList_store_blk rfl 73 _ _ rfl rfl hBf rfl rfl rfl (infF (f := fL44)) rfl ?_; intro w2 hB2 hc2)
    | fail)
  have hc12 : Chg [] w1 w2 := hcf.trans' hc2 (by intro y hy; simp at hy; subst hy; exact .inr (Nat.le_refl _))
  have hB2' : Blk w2 w1.heap.size 73 (arrF fL44) := hB2
  have HC2 := Lib.hid (HS.out.2.trans hc12)
  have F1 := Lib.hid (mstep_kind (e := ev1) (HS.out.1.chg0 hc12) (by omega) OK.out.1 OK.out.2.1 rfl)
  have hwz := HS.out.2.size
  have hwz1 := hc12.size
  have R1 := Lib.hid hB2'.rangeQ
  have HB2 := Lib.hid hB2'
  have hgm : w1.heap.size ≠ m := by
    obtain ⟨nn, V, s, hm, _, _⟩ := HS.out.1
    have := hm.lt.2
    omega
  generalize w1.heap.size = gf at *
  clear hB2 hB2' hc2 hBf hcf hc12
  go_wp2_with (first | (refine wpList_row 73 (.tmp 2) rfl rfl gf 0 rfl (arrF fL44) _ R1.out Try.underlying73 rfl infF ?_) | fail)
  have hwm : w.heap.size ≤ m := by
    obtain ⟨nn, V, s, hm, h1, _⟩ := HS.out.1
    exact h1
  refine F1.out.mono ?_
  rintro r w3 ⟨rfl, hS3, hc3⟩
  have hS3' : MoS w w3 mb m 1 dm1 := hS3
  have hB3 := HB2.out.chg hc3 (by simpa using hgm)
  have HC3 := Lib.hid (HC2.out.trans' hc3 (by intro y hy; simp at hy; subst hy; exact .inr hwm))
  have R3 := Lib.hid hB3.rangeQ
  have HB3 := Lib.hid hB3
  have F2 := Lib.hid (mstep_own (e := ev2) hS3' (by omega) OK.out.1 OK.out.2.1 rfl OK.out.2.2.1.1 OK.out.2.2.1.2)
  clear hS3 hS3' hc3 hB3 F1 R1
  go_wp2_with (first | (refine wpList_row 73 (.tmp 2) rfl rfl gf 0 rfl (arrF fL44) _ R3.out Try.underlying73 rfl infF ?_) | fail)
  refine F2.out.mono ?_
  rintro r w4 ⟨rfl, hS4, hc4⟩
  have hS4' : MoS w w4 mb m 2 dm2 := hS4
  have hB4 := HB3.out.chg hc4 (by simpa using hgm)
  have HC4 := Lib.hid (HC3.out.trans' hc4 (by intro y hy; simp at hy; subst hy; exact .inr hwm))
  have R4 := Lib.hid hB4.rangeQ
  have HB4 := Lib.hid hB4
  have F3 := Lib.hid (mstep_no (e := ev3) hS4' (by omega) OK.out.1 OK.out.2.1 rfl OK.out.2.2.2.1)
  clear hS4 hS4' hc4 hB4 F2 R3
  go_wp2_with (first | (refine wpList_row 73 (.tmp 2) rfl rfl gf 0 rfl (arrF fL44) _ R4.out Try.underlying73 rfl infF ?_) | fail)
  refine F3.out.mono ?_
  rintro r w5 ⟨rfl, hS5, hc5⟩
  have hS5' : MoS w w5 mb m 3 dm2 := hS5
  have hB5 := HB4.out.chg hc5 (by simpa using hgm)
  have HC5 := Lib.hid (HC4.out.trans' hc5 (by intro y hy; simp at hy; subst hy; exact .inr hwm))
  have R5 := Lib.hid hB5.rangeQ
  have HB5 := Lib.hid hB5
  have F4 := Lib.hid (mowner_any (f := fL44) hS5' OK.out.1)
  rw [OK.out.2.2.2.2.1] at F4
  have HS5 := Lib.hid hS5'
  clear hS5 hS5' hc5 hB5 F3 R4
  go_wp2_with (first | (refine wpList_row 73 (.tmp 2) rfl rfl gf 0 rfl (arrF fL44) _ R5.out Try.underlying73 rfl infF ?_) | fail)
  refine F4.out.mono ?_
  rintro r w6 ⟨rfl, hc6⟩
  have F5 := Lib.hid (mlisted_any (f := fL44) (HS5.out.chg0 hc6) (by omega) OK.out.1)
  rw [OK.out.2.2.2.2.1] at F5
  have R6 := Lib.hid (HB5.out.chg hc6 (by simp)).rangeQ
  have HC6 := Lib.hid hc6
  clear hc6 F4 R5
  go_wp2_with (first | (refine wpList_row 73 (.tmp 2) rfl rfl gf 0 rfl (arrF fL44) _ R6.out Try.underlying73 rfl infF ?_) | fail)
  refine F5.out.mono ?_
  rintro r w7 ⟨v7, rfl, hs7, hc7⟩
  obtain ⟨A7, c7, hv7⟩ := Sl.form hs7
  subst hv7
  have hc67 := HC6.out.trans hc7
  have F6 := Lib.hid (mstate_any (f := fL44) (HS5.out.chg0 hc67) OK.out.1)
  rw [OK.out.2.2.2.2.1] at F6
  have R7 := Lib.hid (HB5.out.chg hc67 (by simp)).rangeQ
  have HC7 := Lib.hid hc67
  clear hc7 F5 R6 hc67 hs7
  go_wp2_with (first | (refine wpList_row 73 (.tmp 2) rfl rfl gf 0 rfl (arrF fL44) _ R7.out Try.underlying73 rfl infF ?_) | fail)
  refine F6.out.mono ?_
  rintro r w8 ⟨rfl, hc8⟩
  have F7 := Lib.hid (mstate_any (f := zF) (HS5.out.chg0 (HC7.out.trans hc8)) okF_z)
  rw [OK.out.2.2.2.2.2] at F7
  have HC8 := Lib.hid (HC7.out.trans hc8)
  clear hc8 F6 R7
  go_wp2_with fail
  refine F7.out.mono ?_
  rintro r w9 ⟨rfl, hc9⟩
  have HC9 := Lib.hid (HC5.out.trans (HC8.out.trans hc9))
  clear hc9 F7
  go_wp2_with fail
  go_ret
  exact ⟨rfl, HC9.out⟩

/-! A model that there is not, or that no call made. -/
def NoM (w : World) (pv : Value) : Prop := pv = .pointer none ∨ ∃ b, pv = .pointer (some ⟨b, 0, none⟩) ∧ w.cell? ⟨b, 0, none⟩ = some (.map none)
theorem NoM.chg {w w' : World} {pv : Value} (h : NoM w pv) (hc : Chg [] w w') : NoM w' pv := by
  rcases h with h | ⟨b, h, hb⟩
  · exact .inl h
  · exact .inr ⟨b, h, hc.cell hb (by simp)⟩
set_option maxHeartbeats 400000 in
theorem mis_no (pv : Value) {w : World} (h : NoM w pv) : Calls Try.prog 65 #[pv] w fun e w' => e = .returned (.bool false) ∧ w = w' := by
  have hn := fun w => run_neq_map_nil (P := Try.prog) w 89 _ _ none Try.underlying89
  rcases h with rfl | ⟨b, rfl, hb⟩
  · go_enter Try.func65, Try.ntmps65
    go_wp2
    go_ret
    exact ⟨rfl, rfl⟩
  · go_enter Try.func65, Try.ntmps65
    go_wp2
    go_ret
    exact ⟨rfl, rfl⟩
set_option maxHeartbeats 400000 in
theorem mflows_no (pv : Value) {w : World} (h : NoM w pv) : Calls Try.prog 32 #[pv] w fun e w' => e = .returned (.slice none 0 0) ∧ Chg [] w w' := by
  go_enter Try.func32, Try.ntmps32
  go_wp2_with fail
  refine (mis_no pv h).mono ?_
  rintro e w' ⟨rfl, rfl⟩
  go_wp2_with fail
  go_ret
  exact ⟨rfl, Chg.refl _ _⟩
set_option maxHeartbeats 400000 in
theorem mlife_no (pv : Value) (f : Fl) {w : World} (h : NoM w pv) : Calls Try.prog 69 #[pv, f.v] w fun e w' => e = .returned (.agg #[.int .i64 0, .int .i64 0, .slice none 0 0]) ∧ Chg [] w w' := by
  have hcA := ((Chg.refl [] w).alloc (.cells (arrF f) 73)).alloc (.cells #[.int .i64 0, .int .i64 0, .slice none 0 0] 146)
  have hBl : Blk ((w.alloc (.cells (arrF f) 73)).alloc (.cells #[.int .i64 0, .int .i64 0, .slice none 0 0] 146)) (w.heap.size + 1) 146 #[.int .i64 0, .int .i64 0, .slice none 0 0] := Blk.new' (by simp)
  have HI := Lib.hid (And.intro hcA (And.intro hBl (h.chg hcA)))
  clear hcA hBl h
  go_enter Try.func69, Try.ntmps69
  go_upto_region 1 with fail
  generalize (w.alloc (.cells (arrF f) 73)).alloc (.cells #[.int .i64 0, .int .i64 0, .slice none 0 0] 146) = w1 at *
  have F1 := Lib.hid (mis_no pv HI.out.2.2)
  have hBl := HI.out.2.1
  go_wp2_with fail
  refine F1.out.mono ?_
  rintro e w' ⟨rfl, rfl⟩
  go_wp2_with (first
    | (refine wpList_store_blk rfl 146 _ _ rfl rfl hBl rfl rfl rfl (infL (x := zL) (v := .slice none 0 0)) rfl ?_; intro w2 hB2 hc2)
    | fail)
  exact bodyPost_ret (results_blk rfl rfl hB2 _ Try.underlying146 rfl (by kernel_rfl)) rfl ⟨rfl, HI.out.1.trans' hc2 (by intro y hy; simp at hy; subst hy; exact .inr (by omega))⟩
set_option maxRecDepth 100000 in
set_option maxHeartbeats 400000 in
theorem mstate_no (pv : Value) (f : Fl) {w : World} (h : NoM w pv) : Calls Try.prog 29 #[pv, f.v] w fun e w' => e = .returned (.int .i64 0) ∧ Chg [] w w' := by
  have hcA := (Chg.refl [] w).alloc (.cells (arrF f) 73)
  have hBf : Blk (w.alloc (.cells (arrF f) 73)) w.heap.size 73 (arrF f) := Blk.new _ _ _
  have F1 := Lib.hid (mlife_no pv f (h.chg hcA))
  have R1 := Lib.hid hBf.rangeQ
  have HA := Lib.hid hcA
  have hfl := fld0 0 0 (.slice none 0 0)
  clear h hBf hcA
  go_enter Try.func29, Try.ntmps29
  go_wp2_with (first | (refine wpList_row 73 (.tmp 3) rfl rfl w.heap.size 0 rfl (arrF f) _ R1.out Try.underlying73 rfl infF ?_) | fail)
  refine F1.out.mono ?_
  rintro r w2 ⟨rfl, hc2⟩
  have HZ := Lib.hid (HA.out.trans hc2)
  clear F1 hc2
  go_wp2_with fail
  go_ret
  exact ⟨rfl, HZ.out⟩
set_option maxRecDepth 100000 in
set_option maxHeartbeats 400000 in
theorem mlisted_no (pv : Value) (f : Fl) {w : World} (h : NoM w pv) : Calls Try.prog 31 #[pv, f.v] w fun e w' => e = .returned (.slice none 0 0) ∧ Chg [] w w' := by
  have hcA := (Chg.refl [] w).alloc (.cells (arrF f) 73)
  have hBf : Blk (w.alloc (.cells (arrF f) 73)) w.heap.size 73 (arrF f) := Blk.new _ _ _
  have F1 := Lib.hid (mlife_no pv f (h.chg hcA))
  have F2 := Lib.hid (fun w => Try.slices_Clone_int_nil 0 0 w)
  have R1 := Lib.hid hBf.rangeQ
  have HA := Lib.hid hcA
  have hfl := fld2 0 0 none 0 0
  clear h hBf hcA
  go_enter Try.func31, Try.ntmps31
  go_wp2_with (first | (refine wpList_row 73 (.tmp 3) rfl rfl w.heap.size 0 rfl (arrF f) _ R1.out Try.underlying73 rfl infF ?_) | fail)
  refine F1.out.mono ?_
  rintro r w2 ⟨rfl, hc2⟩
  have HZ := Lib.hid (HA.out.trans hc2)
  clear F1 hc2
  go_wp2_with fail
  refine (F2.out _).mono ?_
  rintro r w3 ⟨rfl, rfl⟩
  go_wp2_with fail
  go_ret
  exact ⟨rfl, HZ.out⟩
set_option maxRecDepth 100000 in
set_option maxHeartbeats 400000 in
theorem mowner_no (pv : Value) (f : Fl) {w : World} (h : NoM w pv) : Calls Try.prog 28 #[pv, f.v] w fun e w' => e = .returned (.tuple #[.int .i64 0, .bool false]) ∧ Chg [] w w' := by
  have hcA := (Chg.refl [] w).alloc (.cells (arrF f) 73)
  have hBf : Blk (w.alloc (.cells (arrF f) 73)) w.heap.size 73 (arrF f) := Blk.new _ _ _
  have F1 := Lib.hid (mlife_no pv f (h.chg hcA))
  have R1 := Lib.hid hBf.rangeQ
  have HA := Lib.hid hcA
  clear h hBf hcA
  go_enter Try.func28, Try.ntmps28
  go_wp2_with (first | (refine wpList_row 73 (.tmp 3) rfl rfl w.heap.size 0 rfl (arrF f) _ R1.out Try.underlying73 rfl infF ?_) | fail)
  refine F1.out.mono ?_
  rintro r w2 ⟨rfl, hc2⟩
  have hBx : Blk (w2.alloc (.cells #[.int .i64 0, .int .i64 0, .slice none 0 0] 146)) w2.heap.size 146 #[.int .i64 0, .int .i64 0, .slice none 0 0] := Blk.new _ _ _
  have hcx := ((Chg.refl [] w2).alloc (.cells #[.int .i64 0, .int .i64 0, .slice none 0 0] 146))
  have HZ := Lib.hid (HA.out.trans hc2)
  clear F1 hc2
  go_upto_region 2 with (first
    | (refine wpList_store_blk rfl 146 _ _ rfl rfl hBx rfl rfl rfl (infL (x := zL) (v := .slice none 0 0)) rfl ?_; intro w3 hB3 hc3)
    | fail)
  have hz3 := Lib.hid (HZ.out.trans (hcx.trans' hc3 (by intro y hy; simp at hy; subst hy; exact .inr (Nat.le_refl _))))
  generalize w2.heap.size = gx at *
  have q0 := Lib.hid (fun w' (hc : Chg [] w3 w') => (hc.cell (hB3.cell 0) (by simp) : w'.cell? ⟨gx, 0, none⟩ = some (.int .i64 0)))
  have q1 := Lib.hid (fun w' (hc : Chg [] w3 w') => (hc.cell (hB3.cell 1) (by simp) : w'.cell? ⟨gx, 1, none⟩ = some (.int .i64 0)))
  clear hB3 hc3 hBx hcx
  refine wp_region_chg (by kernel_rfl) (by kernel_rfl) ?_
  repeat (first
    | ((with_reducible refine wpQuiet_cellC 3 (.tmp 10) ?_ ?_ gx 1 ?_ (.int .i64 0) _ q1.out Try.underlying3 ?_ ?_); (focus rfl); (focus rfl); (focus rfl); (focus rfl); (try simp only [List.getElem_toArray, List.getElem_cons_succ, List.getElem_cons_zero, Act.put, List.setIfInBounds_toArray, List.set_cons_zero, List.set_cons_succ]))
    | ((with_reducible refine wpQuiet_cellC 3 (.tmp 12) ?_ ?_ gx 0 ?_ (.int .i64 0) _ q0.out Try.underlying3 ?_ ?_); (focus rfl); (focus rfl); (focus rfl); (focus rfl); (try simp only [List.getElem_toArray, List.getElem_cons_succ, List.getElem_cons_zero, Act.put, List.setIfInBounds_toArray, List.set_cons_zero, List.set_cons_succ]))
    | ((with_reducible refine wpQuiet_pure (v := ?_) ?_ (fun w => ?_) ?_); rotate_left; (focus rfl); (focus (go_simp <;> with_reducible rfl)); (try simp only [List.getElem_toArray, List.getElem_cons_succ, List.getElem_cons_zero, Act.put, List.setIfInBounds_toArray, List.set_cons_zero, List.set_cons_succ])))
  refine wpQuiet_nil ?_
  intro w4 hc4
  have HF := Lib.hid (hz3.out.trans hc4)
  clear hc4 q0 q1
  go_wp2_with fail
  go_ret2
  exact ⟨rfl, HF.out⟩
set_option maxRecDepth 100000 in
set_option maxHeartbeats 400000 in
theorem mstep_none (pv : Value) (e : Ev) {w : World} (h : NoM w pv) : Calls Try.prog 26 #[pv, .agg (arrE e)] w fun r w' => r = .returned (.bool false) ∧ Chg [] w w' := by
  have hcA := (Chg.refl [] w).alloc (.cells (arrE e) 75)
  have F1 := Lib.hid (mis_no pv (h.chg hcA))
  have HA := Lib.hid hcA
  clear h hcA
  go_enter Try.func26, Try.ntmps26
  go_wp2_with fail
  refine F1.out.mono ?_
  rintro r w2 ⟨rfl, rfl⟩
  go_wp2_with fail
  go_ret
  exact ⟨rfl, HA.out⟩
end Go.Proofs.Ytgbdbeaflilmlaa
