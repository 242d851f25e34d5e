/-
  WALK over package flow: how Sort compares two flows. Condition: each reads as a flow.
-/
import Derived.Test.YtldgdpekhjignaaGreatFlowSort
set_option linter.unusedVariables false
set_option linter.unusedSimpArgs false
namespace Go.Proofs.YtldgdpekhjignaaGreat
open Go.RowKit Go.Maps Go.Sort

def cfF (f g : Fl) : Int := if lessF f g = true then -1 else if lessF g f = true then 1 else 0
theorem cfF_lt (f g : Fl) : decide (cfF f g < 0) = lessF f g := by
  unfold cfF
  cases h : lessF f g with
  | true => simp
  | false =>
    cases h2 : lessF g f <;> simp
set_option maxRecDepth 100000 in
set_option maxHeartbeats 2000000 in
theorem fcmp_any {f g : Fl} (hf : okF f) (hg : okF g) (gl : Nat) (W : World) (hc : W.cell? ⟨gl, 0, none⟩ = some (.func (.func 67) #[] #[])) :
    Calls Tryz.prog 89 #[f.v, g.v, .pointer (some ⟨gl, 0, none⟩)] W fun e w' => e = .returned (.int .i64 (cfF f g)) ∧ Gro W w' := by
  have h2 : Blk ((W.alloc (.cells (arrF f) 38)).alloc (.cells (arrF g) 38)) W.heap.size 38 (arrF f) := (Blk.new _ _ _).alloc _
  have h3 : Blk ((W.alloc (.cells (arrF f) 38)).alloc (.cells (arrF g) 38)) (W.heap.size + 1) 38 (arrF g) := Blk.new' (by simp)
  have hG := ((Gro.refl W).alloc (.cells (arrF f) 38)).alloc (.cells (arrF g) 38)
  have HV : Hid (cfF f g = if lessF f g = true then -1 else if lessF g f = true then 1 else 0) := Lib.hid rfl
  have HI := Lib.hid (And.intro h2 (And.intro h3 (And.intro hG (hG.chg.cell hc (by simp)))))
  have HF1 := Lib.hid (fun W => flless_any hf hg W)
  have HF2 := Lib.hid (fun W => flless_any hg hf W)
  clear h2 h3 hG hc hf hg
  go_enter Tryz.func89, Tryz.ntmps89
  go_upto_region 1 with fail
  obtain ⟨h2, h3, hG, hc⟩ := HI.out
  generalize (W.alloc (.cells (arrF f) 38)).alloc (.cells (arrF g) 38) = W2 at *
  have R1 := Lib.hid h2.rangeQ
  have R2 := Lib.hid h3.rangeQ
  clear h2 h3
  generalize hf : lessF f g = t at *
  cases t with
  | true =>
    go_wp2_with (first
      | (refine wpList_row 38 (.tmp 3) rfl rfl W.heap.size 0 rfl _ _ R1.out Tryz.underlying38 rfl infF ?_)
      | (refine wpList_row 38 (.tmp 4) rfl rfl (W.heap.size + 1) 0 rfl _ _ R2.out Tryz.underlying38 rfl infF ?_)
      | fail)
    refine (HF1.out _).mono ?_
    rintro e w3 ⟨rfl, hg3⟩
    go_wp2_with fail
    go_ret
    rw [HV.out]
    exact ⟨rfl, hG.trans hg3⟩
  | false =>
    go_wp2_with (first
      | (refine wpList_row 38 (.tmp 3) rfl rfl W.heap.size 0 rfl _ _ R1.out Tryz.underlying38 rfl infF ?_)
      | (refine wpList_row 38 (.tmp 4) rfl rfl (W.heap.size + 1) 0 rfl _ _ R2.out Tryz.underlying38 rfl infF ?_)
      | fail)
    refine (HF1.out _).mono ?_
    rintro e w3 ⟨rfl, hg3⟩
    have R3 := Lib.hid (rangeAt_chg R1.out hg3.chg (by simp))
    have R4 := Lib.hid (rangeAt_chg R2.out hg3.chg (by simp))
    have hc3 := hg3.chg.cell hc (by simp)
    clear hc R1 R2
    generalize hf2 : lessF g f = t2 at *
    cases t2 with
    | true =>
      go_wp2_with (first
        | (refine wpList_row 38 (.tmp 3) rfl rfl W.heap.size 0 rfl _ _ R3.out Tryz.underlying38 rfl infF ?_)
        | (refine wpList_row 38 (.tmp 4) rfl rfl (W.heap.size + 1) 0 rfl _ _ R4.out Tryz.underlying38 rfl infF ?_)
        | fail)
      refine (HF2.out _).mono ?_
      rintro e w4 ⟨rfl, hg4⟩
      go_wp2_with fail
      go_ret
      rw [HV.out]
      exact ⟨rfl, (hG.trans hg3).trans hg4⟩
    | false =>
      go_wp2_with (first
        | (refine wpList_row 38 (.tmp 3) rfl rfl W.heap.size 0 rfl _ _ R3.out Tryz.underlying38 rfl infF ?_)
        | (refine wpList_row 38 (.tmp 4) rfl rfl (W.heap.size + 1) 0 rfl _ _ R4.out Tryz.underlying38 rfl infF ?_)
        | fail)
      refine (HF2.out _).mono ?_
      rintro e w4 ⟨rfl, hg4⟩
      go_wp2_with fail
      go_ret
      rw [HV.out]
      exact ⟨rfl, (hG.trans hg3).trans hg4⟩
end Go.Proofs.YtldgdpekhjignaaGreat
