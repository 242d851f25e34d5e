/-
  WALKS: chapter 34's example; a table that there is not, or that no call made. No condition.
-/
import Derived.Test.YtojkbljpjpifoaaVKnows
import Derived.Test.YtojkbljpjpifoaaReg
set_option linter.unusedVariables false
set_option linter.unusedSimpArgs false
namespace Go.Proofs.Ytojkbljpjpifoaa
open Go.RowKit Go.Maps

@[reducible] def adOne : Ad := ⟨0, 0, 0, 0, 0, 0, 0, 0, 0, 0, 0, 0, 0, 0, 0, 1⟩
theorem okOne : okA adOne := by unfold okA; decide
theorem okS80 : okS ⟨adOne, 80⟩ := ⟨okOne, by decide⟩
theorem okS81 : okS ⟨adOne, 81⟩ := ⟨okOne, by decide⟩
def l34 : List Sv := [⟨adOne, 80⟩]
theorem add34a : addS [] ⟨adOne, 80⟩ = (l34, 0) := by decide +kernel
theorem add34b : addS l34 ⟨adOne, 80⟩ = (l34, 9) := by decide +kernel
theorem LI34 : LI l34 := by have := LI.nil.add okS80; rw [add34a] at this; exact this

set_option maxRecDepth 100000 in
set_option maxHeartbeats 1000000 in
theorem lives34 (w : World) : Calls Try.prog 30 #[] w fun e w' => e = .returned (.bool true) ∧ Chg [] w w' := by
  have e80 : decide ((⟨adOne, 80⟩ : Sv) ∈ l34) = true := by decide +kernel
  have e81 : decide ((⟨adOne, 81⟩ : Sv) ∈ l34) = false := by decide +kernel
  have ek : (l34.any fun S => decide (S.ad = adOne)) = true := by decide +kernel
  have G1 := Lib.hid (fun (W : World) (b m : Nat) (h : Tb W b m 0 []) => vadd_any h LI.nil (A := adOne) (p := 80) okS80 (by omega))
  have G2 := Lib.hid (fun (W : World) (b m : Nat) (h : Tb W b m 1 l34) => vadd_any h LI34 (A := adOne) (p := 80) okS80 (by omega))
  have G3 := Lib.hid (fun (W : World) (b m : Nat) (h : Tb W b m 2 l34) => vhas_any h (A := adOne) (p := 80) okS80)
  have G4 := Lib.hid (fun (W : World) (b m : Nat) (h : Tb W b m 2 l34) => vhas_any h (A := adOne) (p := 81) okS81)
  have G5 := Lib.hid (fun (W : World) (b m : Nat) (h : Tb W b m 2 l34) => vknows_any h LI34 (by omega) okOne)
  have G6 := Lib.hid (fun (W : World) (b m : Nat) (h : Tb W b m 2 l34) => vall_any h LI34 (by omega))
  simp only [add34a, add34b, e80, e81, ek] at G1 G2 G3 G4 G5
  clear e80 e81 ek
  go_enter Try.func30, Try.ntmps30
  go_wp2_with fail
  refine (vnew_any w).mono ?_
  rintro e w1 ⟨b, m, rfl, h1, hc1, hb1, hm1⟩
  have hbb : Blk (w1.alloc (.cells (arrA adZ) 55)) w1.heap.size 55 (arrA adZ) := Blk.new _ _ _
  have hA1 := hc1.alloc (.cells (arrA adZ) 55)
  have hT1 := h1.chg0 ((Chg.refl [] _).alloc (.cells (arrA adZ) 55))
  have hlt := h1.lt
  go_wp2_with (first
    | (refine wpList_store_blk rfl 55 _ _ rfl rfl hbb rfl rfl rfl (infA (A := adOne)) rfl ?_; intro w2 hB2 hc2)
    | fail)
  have hT2 := hT1.chg hc2 (by simp; omega) (by simp; omega)
  have HC2 := Lib.hid (hA1.trans' hc2 (by intro x hx; simp at hx; subst hx; exact .inr hc1.size))
  have hnb : w1.heap.size ≠ b ∧ w1.heap.size ≠ m := by omega
  have HB := Lib.hid (fun W (hc : Chg [b, m] w2 W) => hB2.chg hc (by intro hm; simp at hm; omega))
  have HS := Lib.hid (fun W (hc : Chg [b, m] w2 W) => (hB2.chg hc (by intro hm; simp at hm; omega)).rangeQ)
  have hT2d := hT2.chg0 (Chg.refl [] w2).drew
  have hbm := Lib.hid (And.intro hb1 hm1)
  clear hbb hA1 hT1 hlt hc1 hb1 hm1 h1 hc2 hB2 hnb hT2
  generalize w1.heap.size = ga at *
  have hc2d := (Chg.refl [b, m] w2).drew
  refine wp_region_noPanic ?_
  refine wp_region_held_drew (S := Chg [b, m] w2) (by kernel_rfl) hc2d (fun _ => ?_)
  refine wpAnyH_take (i := 0) (v := ?_) rfl (by kernel_rfl) (by kernel_rfl) (by kernel_rfl) (fun _ _ _ h => h) (yields_pure (by rfl) (fun w => ?_)) (by with_reducible assumption) ?_
  rotate_left
  · (go_simp <;> with_reducible rfl)
  try simp only [Act.put, List.setIfInBounds_toArray, List.set_cons_zero, List.set_cons_succ]
  refine wpAnyH_take (i := 1) rfl (by kernel_rfl) (by kernel_rfl) (by kernel_rfl) (fun _ _ _ h => h) (yields_row (by rfl) 55 (.tmp 2) rfl ga 0 rfl (arrA adOne) _ HS.out Try.underlying55 rfl infA) (by with_reducible assumption) ?_
  try simp only [Act.put, List.setIfInBounds_toArray, List.set_cons_zero, List.set_cons_succ]
  refine wpAnyH_take (i := 3) (v := ?_) rfl (by kernel_rfl) (by kernel_rfl) (by kernel_rfl) (fun _ _ _ h => h) (yields_pure (by rfl) (fun w => ?_)) (by with_reducible assumption) ?_
  rotate_left
  · (go_simp <;> with_reducible rfl)
  try simp only [Act.put, List.setIfInBounds_toArray, List.set_cons_zero, List.set_cons_succ]
  refine wpAnyH_take (i := 4) rfl (by kernel_rfl) (by kernel_rfl) (by kernel_rfl) (fun _ _ _ h => h) (yields_row (by rfl) 55 (.tmp 2) rfl ga 0 rfl (arrA adOne) _ HS.out Try.underlying55 rfl infA) (by with_reducible assumption) ?_
  try simp only [Act.put, List.setIfInBounds_toArray, List.set_cons_zero, List.set_cons_succ]
  refine wpAnyH_ready (rs := [2]) (by kernel_rfl) (by simp) (AllReadyH.cons rfl (fun K hK => ?_) AllReadyH.nil)
  go_simp
  refine (G1.out _ _ _ hT2d).mono ?_
  rintro e w3 ⟨rfl, hT3, hc3⟩
  have hc3d := hc2d.trans hc3
  refine hK.out _ _ (by with_reducible assumption) (fun _ => ?_)
  clear hK K
  try simp only [Act.put, List.setIfInBounds_toArray, List.set_cons_zero, List.set_cons_succ]
  refine wpAnyH_ready (rs := [5]) (by kernel_rfl) (by simp) (AllReadyH.cons rfl (fun K hK => ?_) AllReadyH.nil)
  go_simp
  refine (G2.out _ _ _ hT3).mono ?_
  rintro e w4 ⟨rfl, hT4, hc4⟩
  have hc4d := hc3d.trans hc4
  refine hK.out _ _ (by with_reducible assumption) (fun _ => ?_)
  clear hK K
  try simp only [Act.put, List.setIfInBounds_toArray, List.set_cons_zero, List.set_cons_succ]
  refine wpAnyH_take (i := 6) (v := ?_) rfl (by kernel_rfl) (by kernel_rfl) (by kernel_rfl) (fun _ _ _ h => h) (yields_pure (by rfl) (fun w => ?_)) (by with_reducible assumption) ?_
  rotate_left
  · (go_simp <;> with_reducible rfl)
  try simp only [Act.put, List.setIfInBounds_toArray, List.set_cons_zero, List.set_cons_succ]
  refine wpAnyH_take (i := 7) (v := ?_) rfl (by kernel_rfl) (by kernel_rfl) (by kernel_rfl) (fun _ _ _ h => h) (yields_pure (by rfl) (fun w => ?_)) (by with_reducible assumption) ?_
  rotate_left
  · (go_simp <;> with_reducible rfl)
  try simp only [Act.put, List.setIfInBounds_toArray, List.set_cons_zero, List.set_cons_succ]
  refine wpAnyH_done (by kernel_rfl) ?_ _
  refine NoPanic.normal ?_
  have hT5 : Tb w4 b m 2 l34 := hT4
  have F3 := Lib.hid (fun W (hc : Chg [] w4 W) => G3.out W b m (hT5.chg0 hc))
  have F4 := Lib.hid (fun W (hc : Chg [] w4 W) => G4.out W b m (hT5.chg0 hc))
  have F5 := Lib.hid (fun W (hc : Chg [] w4 W) => G5.out W b m (hT5.chg0 hc))
  have F6 := Lib.hid (fun W (hc : Chg [] w4 W) => G6.out W b m (hT5.chg0 hc))
  have hB4 : Blk w4 ga 55 (arrA adOne) := HB.out _ hc4d
  have HC4 : Hid (Chg [] w w4) := Lib.hid (HC2.out.trans' hc4d (fun x hx => .inr (by have := hbm.out; simp at hx; omega)))
  have R4 := Lib.hid (fun W (hc : Chg [] w4 W) => (hB4.chg hc (by simp)).rangeQ)
  have z4 := Chg.refl [] w4
  clear hT2d hc2d hT3 hc3 hc3d hT4 hc4 hc4d hB4 HB G1 G2 G3 G4 G5 G6 hT5 HS
  go_wp2_with (first
    | (refine wpList_row 55 (.tmp 2) rfl rfl ga 0 rfl (arrA adOne) _ (R4.out _ (by with_reducible assumption)) Try.underlying55 rfl infA ?_)
    | (go_at_call 26; (with_reducible refine (F3.out _ (by with_reducible assumption)).mono ?_); rintro e w5 ⟨rfl, hc5⟩; have z5 := z4.trans hc5; clear F3)
    | (go_at_call 28; (with_reducible refine (F5.out _ (by with_reducible assumption)).mono ?_); rintro e w6 ⟨rfl, hc6⟩; have z6 := z5.trans hc6)
    | (go_at_call 26; (with_reducible refine (F4.out _ (by with_reducible assumption)).mono ?_); rintro e w7 ⟨rfl, hc7⟩; have z7 := z6.trans hc7)
    | (go_at_call 25; (with_reducible refine (F6.out _ (by with_reducible assumption)).mono ?_); rintro e w8 ⟨v8, rfl, hs8, hc8⟩; have z8 := z7.trans hc8; obtain ⟨A8, c8, rfl⟩ := Sl.form hs8)
    | fail)
  go_ret
  exact ⟨rfl, HC4.out.trans z8⟩

set_option maxRecDepth 100000 in
set_option maxHeartbeats 1000000 in
theorem nil34 (A : Ad) (p : Int) (w : World) : Calls Try.prog 7 #[A.v, .int .i64 p] w fun e w' => e = .returned (.bool true) ∧ Chg [] w w' := by
  have hA := ((Chg.refl [] w).alloc (.cells (arrA A) 55)).alloc (.cells #[.map none] 76)
  have n2 : NoT ((w.alloc (.cells (arrA A) 55)).alloc (.cells #[.map none] 76)) (.pointer (some ⟨w.heap.size + 1, 0, none⟩)) := .inr ⟨_, rfl, Blk.new' (by simp)⟩
  have hB : Blk ((w.alloc (.cells (arrA A) 55)).alloc (.cells #[.map none] 76)) w.heap.size 55 (arrA A) := (Blk.new _ _ _).alloc _
  go_enter Try.func7, Try.ntmps7
  go_upto_region 3 with fail
  generalize (w.alloc _).alloc _ = w0 at *
  have R0 := Lib.hid (fun W (hc : Chg [] w0 W) => (hB.chg hc (by simp)).rangeQ)
  have N1 : Hid (∀ W, Chg [] w0 W → NoT W (.pointer none)) := Lib.hid (fun W hc => .inl rfl)
  have N2 := Lib.hid (fun W (hc : Chg [] w0 W) => n2.chg0 hc)
  have z0 := Chg.refl [] w0
  clear n2 hB
  generalize w.heap.size = ga at *
  simp only [List.append_eq, List.cons_append, List.nil_append]
  go_wp2_with (first | ((with_reducible refine wpList_row 55 (.tmp 2) ?_ ?_ ga 0 ?_ (arrA A) _ (R0.out _ (by with_reducible assumption)) Try.underlying55 ?_ infA ?_); (focus rfl); (focus rfl); (focus rfl); (focus rfl)) | fail)
  refine (vadd_no (N1.out _ z0) A p).mono ?_
  rintro e w9 ⟨rfl, hc9⟩
  replace z0 := z0.trans hc9
  clear hc9
  go_wp2_with (first | ((with_reducible refine wpList_row 55 (.tmp 2) ?_ ?_ ga 0 ?_ (arrA A) _ (R0.out _ (by with_reducible assumption)) Try.underlying55 ?_ infA ?_); (focus rfl); (focus rfl); (focus rfl); (focus rfl)) | fail)
  refine (vadd_no (N2.out _ z0) A p).mono ?_
  rintro e w9 ⟨rfl, hc9⟩
  replace z0 := z0.trans hc9
  clear hc9
  go_wp2_with (first | ((with_reducible refine wpList_row 55 (.tmp 2) ?_ ?_ ga 0 ?_ (arrA A) _ (R0.out _ (by with_reducible assumption)) Try.underlying55 ?_ infA ?_); (focus rfl); (focus rfl); (focus rfl); (focus rfl)) | fail)
  refine (vdrop_no (N1.out _ z0) A p).mono ?_
  rintro e w9 ⟨rfl, hc9⟩
  replace z0 := z0.trans hc9
  clear hc9
  go_wp2_with (first | ((with_reducible refine wpList_row 55 (.tmp 2) ?_ ?_ ga 0 ?_ (arrA A) _ (R0.out _ (by with_reducible assumption)) Try.underlying55 ?_ infA ?_); (focus rfl); (focus rfl); (focus rfl); (focus rfl)) | fail)
  refine (vdrop_no (N2.out _ z0) A p).mono ?_
  rintro e w9 ⟨rfl, hc9⟩
  replace z0 := z0.trans hc9
  clear hc9
  go_wp2_with (first | ((with_reducible refine wpList_row 55 (.tmp 2) ?_ ?_ ga 0 ?_ (arrA A) _ (R0.out _ (by with_reducible assumption)) Try.underlying55 ?_ infA ?_); (focus rfl); (focus rfl); (focus rfl); (focus rfl)) | fail)
  refine (vhas_no (N1.out _ z0) A p).mono ?_
  rintro e w9 ⟨rfl, hc9⟩
  replace z0 := z0.trans hc9
  clear hc9
  go_wp2_with (first | ((with_reducible refine wpList_row 55 (.tmp 2) ?_ ?_ ga 0 ?_ (arrA A) _ (R0.out _ (by with_reducible assumption)) Try.underlying55 ?_ infA ?_); (focus rfl); (focus rfl); (focus rfl); (focus rfl)) | fail)
  refine (vhas_no (N2.out _ z0) A p).mono ?_
  rintro e w9 ⟨rfl, hc9⟩
  replace z0 := z0.trans hc9
  clear hc9
  go_wp2_with (first | ((with_reducible refine wpList_row 55 (.tmp 2) ?_ ?_ ga 0 ?_ (arrA A) _ (R0.out _ (by with_reducible assumption)) Try.underlying55 ?_ infA ?_); (focus rfl); (focus rfl); (focus rfl); (focus rfl)) | fail)
  refine (vknows_no (N1.out _ z0) A).mono ?_
  rintro e w9 ⟨rfl, hc9⟩
  replace z0 := z0.trans hc9
  clear hc9
  go_wp2_with (first | ((with_reducible refine wpList_row 55 (.tmp 2) ?_ ?_ ga 0 ?_ (arrA A) _ (R0.out _ (by with_reducible assumption)) Try.underlying55 ?_ infA ?_); (focus rfl); (focus rfl); (focus rfl); (focus rfl)) | fail)
  refine (vknows_no (N2.out _ z0) A).mono ?_
  rintro e w9 ⟨rfl, hc9⟩
  replace z0 := z0.trans hc9
  clear hc9
  go_wp2_with (first | ((with_reducible refine wpList_row 55 (.tmp 2) ?_ ?_ ga 0 ?_ (arrA A) _ (R0.out _ (by with_reducible assumption)) Try.underlying55 ?_ infA ?_); (focus rfl); (focus rfl); (focus rfl); (focus rfl)) | fail)
  refine (vall_no (N1.out _ z0)).mono ?_
  rintro e w9 ⟨rfl, rfl⟩
  go_wp2_with (first | ((with_reducible refine wpList_row 55 (.tmp 2) ?_ ?_ ga 0 ?_ (arrA A) _ (R0.out _ (by with_reducible assumption)) Try.underlying55 ?_ infA ?_); (focus rfl); (focus rfl); (focus rfl); (focus rfl)) | fail)
  refine (vall_no (N2.out _ z0)).mono ?_
  rintro e w9 ⟨rfl, rfl⟩
  go_wp2_with (first | ((with_reducible refine wpList_row 55 (.tmp 2) ?_ ?_ ga 0 ?_ (arrA A) _ (R0.out _ (by with_reducible assumption)) Try.underlying55 ?_ infA ?_); (focus rfl); (focus rfl); (focus rfl); (focus rfl)) | fail)
  refine (lives34 _).mono ?_
  rintro e w9 ⟨rfl, hc9⟩
  go_wp2_with fail
  go_ret
  exact ⟨rfl, (hA.trans z0).trans hc9⟩
end Go.Proofs.Ytojkbljpjpifoaa
