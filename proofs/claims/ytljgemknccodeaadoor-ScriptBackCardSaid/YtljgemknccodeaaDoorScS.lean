/-
  CONTRACTS: the example; few steps, of few bytes. Conditions: Gl.
-/
import Derived.Test.YtljgemknccodeaaDoorScR
set_option linter.unusedVariables false
set_option linter.unusedSimpArgs false
namespace Go.Proofs.YtljgemknccodeaaDoor
open Go.RowKit

def exSend : Bs := [115, 101, 110, 100, 32, 48, 32, 49, 32, 53]
def exTick : Bs := [116, 105, 99, 107, 32, 49]
theorem num_dg {n : Nat} (h : n < 10) : numP [UInt8.ofNat (48 + n)] = some (n : Int) := by
  have := numP_itoa (v := (n : Int)) ⟨by omega, by omega⟩
  unfold Lib.itoa at this
  rw [if_neg (by omega), show ((n : Int)).toNat = n by omega, Lib.decDigits_one h] at this
  exact this
theorem ex_send : lineP exSend = some ⟨11, 0, 1, 5, []⟩ := by
  have hs : spl 32 exSend = [[115, 101, 110, 100], [48], [49], [53]] := by decide +kernel
  have hk : kindP [115, 101, 110, 100] = 11 := by decide +kernel
  have hw : word0 exSend = [115, 101, 110, 100] := by unfold word0; rw [hs]; rfl
  unfold lineP
  rw [hw, hs, hk, if_neg (by decide), if_neg (by decide)]
  have h0 := num_dg (n := 0) (by omega)
  have h1 := num_dg (n := 1) (by omega)
  have h5 := num_dg (n := 5) (by omega)
  have e0 : numP [48] = some 0 := h0
  have e1 : numP [49] = some 1 := h1
  have e5 : numP [53] = some 5 := h5
  show (numsP [[48], [49], [53]]).map _ = _
  simp only [numsP, e0, e1, e5]
  rfl
theorem ex_tick : lineP exTick = none := by
  have hs : spl 32 exTick = [[116, 105, 99, 107], [49]] := by decide +kernel
  have hk : kindP [116, 105, 99, 107] = 3 := by decide +kernel
  have hw : word0 exTick = [116, 105, 99, 107] := by unfold word0; rw [hs]; rfl
  unfold lineP
  rw [hw, hs, hk, if_neg (by decide), if_pos (by decide)]
theorem ex_text : textP ⟨13, 0, 0, 0, []⟩ = [105, 110, 106, 101, 99, 116, 32, 45] := by decide +kernel
set_option maxRecDepth 100000 in
set_option maxHeartbeats 4000000 in
theorem lives46 {w : World} (hg : Gl w) : Calls Tryd.prog 6 #[] w fun e w' => e = .returned (.bool true) ∧ Chg [] w w' := by
  have HG := Lib.hid hg
  have F1 : Hid (Calls Tryd.prog 9 #[.string { data := #[115, 101, 110, 100, 32, 48, 32, 49, 32, 53] }] w fun e w' => LineR exSend w w' e) := Lib.hid (line_any exSend (by decide) hg)
  have F2 : Hid (∀ W, Chg [] w W → Calls Tryd.prog 9 #[.string { data := #[116, 105, 99, 107, 32, 49] }] W fun e w' => LineR exTick W w' e) := Lib.hid (fun W hW => line_any exTick (by decide) (hg.chg hW))
  have F3 : Hid (∀ W, Chg [] w W → Calls Tryd.prog 15 #[.agg #[.int .i64 13, .int .i64 0, .int .i64 0, .int .i64 0, .slice none 0 0]] W fun e w' => e = .returned (.string { data := #[105, 110, 106, 101, 99, 116, 32, 45] }) ∧ Chg [] W w') := Lib.hid (fun W hW => by
    have := text_any (w := W) (B := 0) (v := .slice none 0 0) (s := ⟨13, 0, 0, 0, []⟩) (Sl.nil _ _ _) ⟨⟨by decide, by decide⟩, ⟨by decide, by decide⟩, ⟨by decide, by decide⟩, ⟨by decide, by decide⟩, by decide⟩ (hg.chg hW)
    rw [ex_text] at this
    exact this)
  clear hg
  go_enter Tryd.func6, Tryd.ntmps6
  go_wp2_with fail
  refine F1.out.mono ?_
  intro e w1 hr
  obtain ⟨s, A, nn, cc, er, rfl, hcase, _, hc1⟩ := hr.bytes
  obtain ⟨rfl, rfl⟩ : er = 0 ∧ s = ⟨11, 0, 1, 5, []⟩ := by
    rcases hcase with ⟨h1, h2⟩ | ⟨_, h2⟩
    · rw [ex_send] at h2; cases h2; exact ⟨h1, rfl⟩
    · rw [ex_send] at h2; cases h2
  have HC1 := Lib.hid hc1
  clear hr hcase hc1 F1
  go_upto_region 2 with (first
    | (refine wpList_store_blk (vs := #[.int .i64 11, .int .i64 0, .int .i64 1, .int .i64 5, .slice A nn cc]) rfl 32 (.tmp 1) (.tmp 7) rfl rfl (Blk.new _ _ _) rfl rfl rfl (by kernel_rfl) rfl ?_; intro w2 hB2 hc2)
    | fail)
  have hcA : Chg [] w1 w2 := ((Chg.refl [] w1).alloc _).trans' hc2 (by intro x hx; simp at hx; subst hx; exact .inr (Nat.le_refl _))
  have HC2 := Lib.hid (HC1.out.trans hcA)
  clear hc2 hcA HC1
  generalize w1.heap.size = g1 at *
  go_wp2_with fail
  refine (F2.out w2 HC2.out).mono ?_
  intro e w3 hr
  obtain ⟨s, A3, n3, c3, er, rfl, hcase, _, hc3⟩ := hr.bytes
  obtain rfl : er = 14 := by
    rcases hcase with ⟨h1, h2⟩ | ⟨h1, h2⟩
    · rw [ex_tick] at h2; cases h2
    · exact h1
  have HC3 := Lib.hid (HC2.out.trans hc3)
  have hB3 := hB2.chg hc3 (by simp)
  clear hr hcase hc3 F2 HC2 hB2
  go_upto_region 3 with (first
    | (refine wpList_store_blk (vs := arrSt s (.slice A3 n3 c3)) rfl 32 (.tmp 3) (.tmp 11) rfl rfl (Blk.new _ _ _) rfl rfl rfl (by kernel_rfl) rfl ?_; intro w4 hB4 hc4)
    | fail)
  have hcA : Chg [] w3 w4 := ((Chg.refl [] w3).alloc _).trans' hc4 (by intro x hx; simp at hx; subst hx; exact .inr (Nat.le_refl _))
  have HC4 := Lib.hid (HC3.out.trans hcA)
  have hB5 := hB3.chg hcA (by simp)
  have k0 := hB5.cell 0
  have k2 := hB5.cell 2
  have k3 := hB5.cell 3
  simp only [List.getElem?_toArray, List.getElem?_cons_succ, List.getElem?_cons_zero] at k0 k2 k3
  clear hc4 hcA HC3 hB3 hB4 hB5
  go_wp2_with fail
  refine (F3.out w4 HC4.out).mono ?_
  rintro e w5 ⟨rfl, hc5⟩
  have HC5 := Lib.hid (HC4.out.trans hc5)
  clear hc5 F3
  go_wp2_with fail
  go_ret
  exact ⟨rfl, HC5.out⟩
end Go.Proofs.YtljgemknccodeaaDoor
