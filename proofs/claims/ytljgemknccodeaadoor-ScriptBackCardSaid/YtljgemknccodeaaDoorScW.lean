/-
  CONTRACT: the law's plain. Printed by wip/tools/gen_pl46.py. Condition: a kind that there is.
-/
import Derived.Test.YtljgemknccodeaaDoorScV
set_option linter.unusedVariables false
set_option linter.unusedSimpArgs false
namespace Go.Proofs.YtljgemknccodeaaDoor
open Go.RowKit

set_option maxRecDepth 100000 in
set_option maxHeartbeats 8000000 in
theorem plain_any {w : World} {A : Option Addr} {nn c : Nat} {s : St} (hk : 0 ≤ s.kind ∧ s.kind ≤ 13) : Calls Tryd.prog 17 #[.agg (arrSt s (.slice A nn c))] w fun e w' => e = .returned (.agg (arrSt (plainS s) (if s.kind = 13 then .slice A nn c else .slice none 0 0))) ∧ Chg [] w w' := by
  obtain ⟨kd, n, m, k, bs⟩ := s
  have hA1 := (Chg.refl [] w).alloc (.cells (arrSt ⟨kd, n, m, k, bs⟩ (.slice A nn c)) 32)
  have hA2 := hA1.alloc (.cells arrZ 35)
  have b1 : Blk ((w.alloc (.cells (arrSt ⟨kd, n, m, k, bs⟩ (.slice A nn c)) 32)).alloc (.cells arrZ 35)) w.heap.size 32 (arrSt ⟨kd, n, m, k, bs⟩ (.slice A nn c)) := (Blk.new _ _ _).alloc _
  have b2 : Blk ((w.alloc (.cells (arrSt ⟨kd, n, m, k, bs⟩ (.slice A nn c)) 32)).alloc (.cells arrZ 35)) (w.heap.size + 1) 35 arrZ := Blk.new' (by simp)
  have HI := Lib.hid (And.intro hA2 (And.intro b1 b2))
  clear hA1 hA2 b1 b2
  obtain ⟨h0, h1⟩ := hk
  have hc : kd = 0 ∨ kd = 1 ∨ kd = 2 ∨ kd = 3 ∨ kd = 4 ∨ kd = 5 ∨ kd = 6 ∨ kd = 7 ∨ kd = 8 ∨ kd = 9 ∨ kd = 10 ∨ kd = 11 ∨ kd = 12 ∨ kd = 13 := by
    simp only at h0 h1
    omega
  clear h0 h1
  rcases hc with rfl | rfl | rfl | rfl | rfl | rfl | rfl | rfl | rfl | rfl | rfl | rfl | rfl | rfl
  · have HP : Hid (arrSt (plainS ⟨0, n, m, k, bs⟩) (.slice none 0 0) = #[.int .i64 0, .int .i64 n, .int .i64 0, .int .i64 0, .slice none 0 0]) := Lib.hid (by simp [plainS, manyP])
    go_enter Tryd.func17, Tryd.ntmps17
    go_upto_region 1 with fail
    generalize (w.alloc (.cells (arrSt ⟨0, n, m, k, bs⟩ (.slice A nn c)) 32)).alloc (.cells arrZ 35) = w1 at *
    generalize hg : w.heap.size = g at *
    have a0 : w1.cell? ⟨g, 0, none⟩ = some (.int .i64 0) := HI.out.2.1.cell 0
    have a1 : w1.cell? ⟨g, 1, none⟩ = some (.int .i64 n) := HI.out.2.1.cell 1
    have a2 : w1.cell? ⟨g, 2, none⟩ = some (.int .i64 m) := HI.out.2.1.cell 2
    have a3 : w1.cell? ⟨g, 3, none⟩ = some (.int .i64 k) := HI.out.2.1.cell 3
    go_upto_region 2 with (first
      | (refine wpList_store_blk (vs := #[.int .i64 0, .int .i64 n, .int .i64 m, .int .i64 k, .slice none 0 0]) rfl 35 (.tmp 3) (.tmp 12) rfl rfl (Blk.new _ _ _) rfl rfl rfl (by kernel_rfl) rfl ?_; intro w3 hB3 hc3)
      | fail)
    have hcA : Chg [] w1 w3 := ((Chg.refl [] w1).alloc _).trans' hc3 (by intro x hx; simp at hx; subst hx; exact .inr (Nat.le_refl _))
    have hb1 := HI.out.2.1.chg hcA (by simp)
    have hb2 := HI.out.2.2.chg hcA (by simp)
    have hz1 := HI.out.2.2.lt
    have HC3 := Lib.hid (HI.out.1.trans hcA)
    have HGZ : Hid (w.heap.size ≤ w1.heap.size ∧ g + 1 ≠ w1.heap.size ∧ g ≠ w1.heap.size) := Lib.hid ⟨by omega, by omega, by omega⟩
    clear a0 a1 a2 a3 hcA hc3 hz1
    generalize w1.heap.size = g3 at *
    have a0 : w3.cell? ⟨g, 0, none⟩ = some (.int .i64 0) := hb1.cell 0
    have a4 : w3.cell? ⟨g, 4, none⟩ = some (.slice A nn c) := hb1.cell 4
    have HWS := HGZ.out
    have k2 : w3.cell? ⟨g3, 2, none⟩ = some (.int .i64 m) := hB3.cell 2
    have f2 := hB3.frozen 2
    have k3 : w3.cell? ⟨g3, 3, none⟩ = some (.int .i64 k) := hB3.cell 3
    have f3 := hB3.frozen 3
    have hgn : (g = g3) = False := eq_false HGZ.out.2.2
    have hgn2 : (g3 = g) = False := eq_false (Ne.symm HGZ.out.2.2)
    go_upto_region 16 with fail
    have hB2x := hB3.set_ 2 (.int .i64 0)
    have hb22x := hb2.far (p := ⟨g3, 2, none⟩) HGZ.out.2.1 (.int .i64 0)
    have HC2x := Lib.hid (HC3.out.setCell (p := ⟨g3, 2, none⟩) (.inr HGZ.out.1) (.int .i64 0))
    have hB3x := hB2x.set_ 3 (.int .i64 0)
    have hb23x := hb22x.far (p := ⟨g3, 3, none⟩) HGZ.out.2.1 (.int .i64 0)
    have HC3x := Lib.hid (HC2x.out.setCell (p := ⟨g3, 3, none⟩) (.inr HGZ.out.1) (.int .i64 0))
    have hBf : Blk _ g3 35 #[.int .i64 0, .int .i64 n, .int .i64 0, .int .i64 0, .slice none 0 0] := hB3x
    go_wp2_with (first
      | (refine wpList_load_blk rfl 35 (.tmp 3) rfl hBf rfl _ Tryd.underlying35 rfl (by kernel_rfl) ?_)
      | (refine wpList_store_blk (vs := #[.int .i64 0, .int .i64 n, .int .i64 0, .int .i64 0, .slice none 0 0]) rfl 35 (.tmp 2) (.tmp 38) rfl rfl hb23x rfl rfl rfl (by kernel_rfl) rfl ?_; intro w9 hB9 hc9)
      | fail)
    refine bodyPost_ret (results_blk rfl rfl hB9 _ Tryd.underlying35 rfl (by kernel_rfl)) rfl ?_
    exact ⟨by rw [HP.out], HC3x.out.trans' hc9 (by intro x hx; simp at hx; subst hx; right; omega)⟩
  · have HP : Hid (arrSt (plainS ⟨1, n, m, k, bs⟩) (.slice none 0 0) = #[.int .i64 1, .int .i64 n, .int .i64 0, .int .i64 0, .slice none 0 0]) := Lib.hid (by simp [plainS, manyP])
    go_enter Tryd.func17, Tryd.ntmps17
    go_upto_region 1 with fail
    generalize (w.alloc (.cells (arrSt ⟨1, n, m, k, bs⟩ (.slice A nn c)) 32)).alloc (.cells arrZ 35) = w1 at *
    generalize hg : w.heap.size = g at *
    have a0 : w1.cell? ⟨g, 0, none⟩ = some (.int .i64 1) := HI.out.2.1.cell 0
    have a1 : w1.cell? ⟨g, 1, none⟩ = some (.int .i64 n) := HI.out.2.1.cell 1
    have a2 : w1.cell? ⟨g, 2, none⟩ = some (.int .i64 m) := HI.out.2.1.cell 2
    have a3 : w1.cell? ⟨g, 3, none⟩ = some (.int .i64 k) := HI.out.2.1.cell 3
    go_upto_region 2 with (first
      | (refine wpList_store_blk (vs := #[.int .i64 1, .int .i64 n, .int .i64 m, .int .i64 k, .slice none 0 0]) rfl 35 (.tmp 3) (.tmp 12) rfl rfl (Blk.new _ _ _) rfl rfl rfl (by kernel_rfl) rfl ?_; intro w3 hB3 hc3)
      | fail)
    have hcA : Chg [] w1 w3 := ((Chg.refl [] w1).alloc _).trans' hc3 (by intro x hx; simp at hx; subst hx; exact .inr (Nat.le_refl _))
    have hb1 := HI.out.2.1.chg hcA (by simp)
    have hb2 := HI.out.2.2.chg hcA (by simp)
    have hz1 := HI.out.2.2.lt
    have HC3 := Lib.hid (HI.out.1.trans hcA)
    have HGZ : Hid (w.heap.size ≤ w1.heap.size ∧ g + 1 ≠ w1.heap.size ∧ g ≠ w1.heap.size) := Lib.hid ⟨by omega, by omega, by omega⟩
    clear a0 a1 a2 a3 hcA hc3 hz1
    generalize w1.heap.size = g3 at *
    have a0 : w3.cell? ⟨g, 0, none⟩ = some (.int .i64 1) := hb1.cell 0
    have a4 : w3.cell? ⟨g, 4, none⟩ = some (.slice A nn c) := hb1.cell 4
    have HWS := HGZ.out
    have k2 : w3.cell? ⟨g3, 2, none⟩ = some (.int .i64 m) := hB3.cell 2
    have f2 := hB3.frozen 2
    have k3 : w3.cell? ⟨g3, 3, none⟩ = some (.int .i64 k) := hB3.cell 3
    have f3 := hB3.frozen 3
    have hgn : (g = g3) = False := eq_false HGZ.out.2.2
    have hgn2 : (g3 = g) = False := eq_false (Ne.symm HGZ.out.2.2)
    go_upto_region 16 with fail
    have hB2x := hB3.set_ 2 (.int .i64 0)
    have hb22x := hb2.far (p := ⟨g3, 2, none⟩) HGZ.out.2.1 (.int .i64 0)
    have HC2x := Lib.hid (HC3.out.setCell (p := ⟨g3, 2, none⟩) (.inr HGZ.out.1) (.int .i64 0))
    have hB3x := hB2x.set_ 3 (.int .i64 0)
    have hb23x := hb22x.far (p := ⟨g3, 3, none⟩) HGZ.out.2.1 (.int .i64 0)
    have HC3x := Lib.hid (HC2x.out.setCell (p := ⟨g3, 3, none⟩) (.inr HGZ.out.1) (.int .i64 0))
    have hBf : Blk _ g3 35 #[.int .i64 1, .int .i64 n, .int .i64 0, .int .i64 0, .slice none 0 0] := hB3x
    go_wp2_with (first
      | (refine wpList_load_blk rfl 35 (.tmp 3) rfl hBf rfl _ Tryd.underlying35 rfl (by kernel_rfl) ?_)
      | (refine wpList_store_blk (vs := #[.int .i64 1, .int .i64 n, .int .i64 0, .int .i64 0, .slice none 0 0]) rfl 35 (.tmp 2) (.tmp 38) rfl rfl hb23x rfl rfl rfl (by kernel_rfl) rfl ?_; intro w9 hB9 hc9)
      | fail)
    refine bodyPost_ret (results_blk rfl rfl hB9 _ Tryd.underlying35 rfl (by kernel_rfl)) rfl ?_
    exact ⟨by rw [HP.out], HC3x.out.trans' hc9 (by intro x hx; simp at hx; subst hx; right; omega)⟩
  · have HP : Hid (arrSt (plainS ⟨2, n, m, k, bs⟩) (.slice none 0 0) = #[.int .i64 2, .int .i64 n, .int .i64 0, .int .i64 0, .slice none 0 0]) := Lib.hid (by simp [plainS, manyP])
    go_enter Tryd.func17, Tryd.ntmps17
    go_upto_region 1 with fail
    generalize (w.alloc (.cells (arrSt ⟨2, n, m, k, bs⟩ (.slice A nn c)) 32)).alloc (.cells arrZ 35) = w1 at *
    generalize hg : w.heap.size = g at *
    have a0 : w1.cell? ⟨g, 0, none⟩ = some (.int .i64 2) := HI.out.2.1.cell 0
    have a1 : w1.cell? ⟨g, 1, none⟩ = some (.int .i64 n) := HI.out.2.1.cell 1
    have a2 : w1.cell? ⟨g, 2, none⟩ = some (.int .i64 m) := HI.out.2.1.cell 2
    have a3 : w1.cell? ⟨g, 3, none⟩ = some (.int .i64 k) := HI.out.2.1.cell 3
    go_upto_region 2 with (first
      | (refine wpList_store_blk (vs := #[.int .i64 2, .int .i64 n, .int .i64 m, .int .i64 k, .slice none 0 0]) rfl 35 (.tmp 3) (.tmp 12) rfl rfl (Blk.new _ _ _) rfl rfl rfl (by kernel_rfl) rfl ?_; intro w3 hB3 hc3)
      | fail)
    have hcA : Chg [] w1 w3 := ((Chg.refl [] w1).alloc _).trans' hc3 (by intro x hx; simp at hx; subst hx; exact .inr (Nat.le_refl _))
    have hb1 := HI.out.2.1.chg hcA (by simp)
    have hb2 := HI.out.2.2.chg hcA (by simp)
    have hz1 := HI.out.2.2.lt
    have HC3 := Lib.hid (HI.out.1.trans hcA)
    have HGZ : Hid (w.heap.size ≤ w1.heap.size ∧ g + 1 ≠ w1.heap.size ∧ g ≠ w1.heap.size) := Lib.hid ⟨by omega, by omega, by omega⟩
    clear a0 a1 a2 a3 hcA hc3 hz1
    generalize w1.heap.size = g3 at *
    have a0 : w3.cell? ⟨g, 0, none⟩ = some (.int .i64 2) := hb1.cell 0
    have a4 : w3.cell? ⟨g, 4, none⟩ = some (.slice A nn c) := hb1.cell 4
    have HWS := HGZ.out
    have k2 : w3.cell? ⟨g3, 2, none⟩ = some (.int .i64 m) := hB3.cell 2
    have f2 := hB3.frozen 2
    have k3 : w3.cell? ⟨g3, 3, none⟩ = some (.int .i64 k) := hB3.cell 3
    have f3 := hB3.frozen 3
    have hgn : (g = g3) = False := eq_false HGZ.out.2.2
    have hgn2 : (g3 = g) = False := eq_false (Ne.symm HGZ.out.2.2)
    go_upto_region 16 with fail
    have hB2x := hB3.set_ 2 (.int .i64 0)
    have hb22x := hb2.far (p := ⟨g3, 2, none⟩) HGZ.out.2.1 (.int .i64 0)
    have HC2x := Lib.hid (HC3.out.setCell (p := ⟨g3, 2, none⟩) (.inr HGZ.out.1) (.int .i64 0))
    have hB3x := hB2x.set_ 3 (.int .i64 0)
    have hb23x := hb22x.far (p := ⟨g3, 3, none⟩) HGZ.out.2.1 (.int .i64 0)
    have HC3x := Lib.hid (HC2x.out.setCell (p := ⟨g3, 3, none⟩) (.inr HGZ.out.1) (.int .i64 0))
    have hBf : Blk _ g3 35 #[.int .i64 2, .int .i64 n, .int .i64 0, .int .i64 0, .slice none 0 0] := hB3x
    go_wp2_with (first
      | (refine wpList_load_blk rfl 35 (.tmp 3) rfl hBf rfl _ Tryd.underlying35 rfl (by kernel_rfl) ?_)
      | (refine wpList_store_blk (vs := #[.int .i64 2, .int .i64 n, .int .i64 0, .int .i64 0, .slice none 0 0]) rfl 35 (.tmp 2) (.tmp 38) rfl rfl hb23x rfl rfl rfl (by kernel_rfl) rfl ?_; intro w9 hB9 hc9)
      | fail)
    refine bodyPost_ret (results_blk rfl rfl hB9 _ Tryd.underlying35 rfl (by kernel_rfl)) rfl ?_
    exact ⟨by rw [HP.out], HC3x.out.trans' hc9 (by intro x hx; simp at hx; subst hx; right; omega)⟩
  · have HP : Hid (arrSt (plainS ⟨3, n, m, k, bs⟩) (.slice none 0 0) = #[.int .i64 3, .int .i64 0, .int .i64 0, .int .i64 0, .slice none 0 0]) := Lib.hid (by simp [plainS, manyP])
    go_enter Tryd.func17, Tryd.ntmps17
    go_upto_region 1 with fail
    generalize (w.alloc (.cells (arrSt ⟨3, n, m, k, bs⟩ (.slice A nn c)) 32)).alloc (.cells arrZ 35) = w1 at *
    generalize hg : w.heap.size = g at *
    have a0 : w1.cell? ⟨g, 0, none⟩ = some (.int .i64 3) := HI.out.2.1.cell 0
    have a1 : w1.cell? ⟨g, 1, none⟩ = some (.int .i64 n) := HI.out.2.1.cell 1
    have a2 : w1.cell? ⟨g, 2, none⟩ = some (.int .i64 m) := HI.out.2.1.cell 2
    have a3 : w1.cell? ⟨g, 3, none⟩ = some (.int .i64 k) := HI.out.2.1.cell 3
    go_upto_region 2 with (first
      | (refine wpList_store_blk (vs := #[.int .i64 3, .int .i64 n, .int .i64 m, .int .i64 k, .slice none 0 0]) rfl 35 (.tmp 3) (.tmp 12) rfl rfl (Blk.new _ _ _) rfl rfl rfl (by kernel_rfl) rfl ?_; intro w3 hB3 hc3)
      | fail)
    have hcA : Chg [] w1 w3 := ((Chg.refl [] w1).alloc _).trans' hc3 (by intro x hx; simp at hx; subst hx; exact .inr (Nat.le_refl _))
    have hb1 := HI.out.2.1.chg hcA (by simp)
    have hb2 := HI.out.2.2.chg hcA (by simp)
    have hz1 := HI.out.2.2.lt
    have HC3 := Lib.hid (HI.out.1.trans hcA)
    have HGZ : Hid (w.heap.size ≤ w1.heap.size ∧ g + 1 ≠ w1.heap.size ∧ g ≠ w1.heap.size) := Lib.hid ⟨by omega, by omega, by omega⟩
    clear a0 a1 a2 a3 hcA hc3 hz1
    generalize w1.heap.size = g3 at *
    have a0 : w3.cell? ⟨g, 0, none⟩ = some (.int .i64 3) := hb1.cell 0
    have a4 : w3.cell? ⟨g, 4, none⟩ = some (.slice A nn c) := hb1.cell 4
    have HWS := HGZ.out
    have k1 : w3.cell? ⟨g3, 1, none⟩ = some (.int .i64 n) := hB3.cell 1
    have f1 := hB3.frozen 1
    have k2 : w3.cell? ⟨g3, 2, none⟩ = some (.int .i64 m) := hB3.cell 2
    have f2 := hB3.frozen 2
    have k3 : w3.cell? ⟨g3, 3, none⟩ = some (.int .i64 k) := hB3.cell 3
    have f3 := hB3.frozen 3
    have hgn : (g = g3) = False := eq_false HGZ.out.2.2
    have hgn2 : (g3 = g) = False := eq_false (Ne.symm HGZ.out.2.2)
    go_upto_region 16 with fail
    have hB1x := hB3.set_ 1 (.int .i64 0)
    have hb21x := hb2.far (p := ⟨g3, 1, none⟩) HGZ.out.2.1 (.int .i64 0)
    have HC1x := Lib.hid (HC3.out.setCell (p := ⟨g3, 1, none⟩) (.inr HGZ.out.1) (.int .i64 0))
    have hB2x := hB1x.set_ 2 (.int .i64 0)
    have hb22x := hb21x.far (p := ⟨g3, 2, none⟩) HGZ.out.2.1 (.int .i64 0)
    have HC2x := Lib.hid (HC1x.out.setCell (p := ⟨g3, 2, none⟩) (.inr HGZ.out.1) (.int .i64 0))
    have hB3x := hB2x.set_ 3 (.int .i64 0)
    have hb23x := hb22x.far (p := ⟨g3, 3, none⟩) HGZ.out.2.1 (.int .i64 0)
    have HC3x := Lib.hid (HC2x.out.setCell (p := ⟨g3, 3, none⟩) (.inr HGZ.out.1) (.int .i64 0))
    have hBf : Blk _ g3 35 #[.int .i64 3, .int .i64 0, .int .i64 0, .int .i64 0, .slice none 0 0] := hB3x
    go_wp2_with (first
      | (refine wpList_load_blk rfl 35 (.tmp 3) rfl hBf rfl _ Tryd.underlying35 rfl (by kernel_rfl) ?_)
      | (refine wpList_store_blk (vs := #[.int .i64 3, .int .i64 0, .int .i64 0, .int .i64 0, .slice none 0 0]) rfl 35 (.tmp 2) (.tmp 38) rfl rfl hb23x rfl rfl rfl (by kernel_rfl) rfl ?_; intro w9 hB9 hc9)
      | fail)
    refine bodyPost_ret (results_blk rfl rfl hB9 _ Tryd.underlying35 rfl (by kernel_rfl)) rfl ?_
    exact ⟨by rw [HP.out], HC3x.out.trans' hc9 (by intro x hx; simp at hx; subst hx; right; omega)⟩
  · have HP : Hid (arrSt (plainS ⟨4, n, m, k, bs⟩) (.slice none 0 0) = #[.int .i64 4, .int .i64 n, .int .i64 m, .int .i64 0, .slice none 0 0]) := Lib.hid (by simp [plainS, manyP])
    go_enter Tryd.func17, Tryd.ntmps17
    go_upto_region 1 with fail
    generalize (w.alloc (.cells (arrSt ⟨4, n, m, k, bs⟩ (.slice A nn c)) 32)).alloc (.cells arrZ 35) = w1 at *
    generalize hg : w.heap.size = g at *
    have a0 : w1.cell? ⟨g, 0, none⟩ = some (.int .i64 4) := HI.out.2.1.cell 0
    have a1 : w1.cell? ⟨g, 1, none⟩ = some (.int .i64 n) := HI.out.2.1.cell 1
    have a2 : w1.cell? ⟨g, 2, none⟩ = some (.int .i64 m) := HI.out.2.1.cell 2
    have a3 : w1.cell? ⟨g, 3, none⟩ = some (.int .i64 k) := HI.out.2.1.cell 3
    go_upto_region 2 with (first
      | (refine wpList_store_blk (vs := #[.int .i64 4, .int .i64 n, .int .i64 m, .int .i64 k, .slice none 0 0]) rfl 35 (.tmp 3) (.tmp 12) rfl rfl (Blk.new _ _ _) rfl rfl rfl (by kernel_rfl) rfl ?_; intro w3 hB3 hc3)
      | fail)
    have hcA : Chg [] w1 w3 := ((Chg.refl [] w1).alloc _).trans' hc3 (by intro x hx; simp at hx; subst hx; exact .inr (Nat.le_refl _))
    have hb1 := HI.out.2.1.chg hcA (by simp)
    have hb2 := HI.out.2.2.chg hcA (by simp)
    have hz1 := HI.out.2.2.lt
    have HC3 := Lib.hid (HI.out.1.trans hcA)
    have HGZ : Hid (w.heap.size ≤ w1.heap.size ∧ g + 1 ≠ w1.heap.size ∧ g ≠ w1.heap.size) := Lib.hid ⟨by omega, by omega, by omega⟩
    clear a0 a1 a2 a3 hcA hc3 hz1
    generalize w1.heap.size = g3 at *
    have a0 : w3.cell? ⟨g, 0, none⟩ = some (.int .i64 4) := hb1.cell 0
    have a4 : w3.cell? ⟨g, 4, none⟩ = some (.slice A nn c) := hb1.cell 4
    have HWS := HGZ.out
    have k3 : w3.cell? ⟨g3, 3, none⟩ = some (.int .i64 k) := hB3.cell 3
    have f3 := hB3.frozen 3
    have hgn : (g = g3) = False := eq_false HGZ.out.2.2
    have hgn2 : (g3 = g) = False := eq_false (Ne.symm HGZ.out.2.2)
    go_upto_region 16 with fail
    have hB3x := hB3.set_ 3 (.int .i64 0)
    have hb23x := hb2.far (p := ⟨g3, 3, none⟩) HGZ.out.2.1 (.int .i64 0)
    have HC3x := Lib.hid (HC3.out.setCell (p := ⟨g3, 3, none⟩) (.inr HGZ.out.1) (.int .i64 0))
    have hBf : Blk _ g3 35 #[.int .i64 4, .int .i64 n, .int .i64 m, .int .i64 0, .slice none 0 0] := hB3x
    go_wp2_with (first
      | (refine wpList_load_blk rfl 35 (.tmp 3) rfl hBf rfl _ Tryd.underlying35 rfl (by kernel_rfl) ?_)
      | (refine wpList_store_blk (vs := #[.int .i64 4, .int .i64 n, .int .i64 m, .int .i64 0, .slice none 0 0]) rfl 35 (.tmp 2) (.tmp 38) rfl rfl hb23x rfl rfl rfl (by kernel_rfl) rfl ?_; intro w9 hB9 hc9)
      | fail)
    refine bodyPost_ret (results_blk rfl rfl hB9 _ Tryd.underlying35 rfl (by kernel_rfl)) rfl ?_
    exact ⟨by rw [HP.out], HC3x.out.trans' hc9 (by intro x hx; simp at hx; subst hx; right; omega)⟩
  · have HP : Hid (arrSt (plainS ⟨5, n, m, k, bs⟩) (.slice none 0 0) = #[.int .i64 5, .int .i64 n, .int .i64 m, .int .i64 0, .slice none 0 0]) := Lib.hid (by simp [plainS, manyP])
    go_enter Tryd.func17, Tryd.ntmps17
    go_upto_region 1 with fail
    generalize (w.alloc (.cells (arrSt ⟨5, n, m, k, bs⟩ (.slice A nn c)) 32)).alloc (.cells arrZ 35) = w1 at *
    generalize hg : w.heap.size = g at *
    have a0 : w1.cell? ⟨g, 0, none⟩ = some (.int .i64 5) := HI.out.2.1.cell 0
    have a1 : w1.cell? ⟨g, 1, none⟩ = some (.int .i64 n) := HI.out.2.1.cell 1
    have a2 : w1.cell? ⟨g, 2, none⟩ = some (.int .i64 m) := HI.out.2.1.cell 2
    have a3 : w1.cell? ⟨g, 3, none⟩ = some (.int .i64 k) := HI.out.2.1.cell 3
    go_upto_region 2 with (first
      | (refine wpList_store_blk (vs := #[.int .i64 5, .int .i64 n, .int .i64 m, .int .i64 k, .slice none 0 0]) rfl 35 (.tmp 3) (.tmp 12) rfl rfl (Blk.new _ _ _) rfl rfl rfl (by kernel_rfl) rfl ?_; intro w3 hB3 hc3)
      | fail)
    have hcA : Chg [] w1 w3 := ((Chg.refl [] w1).alloc _).trans' hc3 (by intro x hx; simp at hx; subst hx; exact .inr (Nat.le_refl _))
    have hb1 := HI.out.2.1.chg hcA (by simp)
    have hb2 := HI.out.2.2.chg hcA (by simp)
    have hz1 := HI.out.2.2.lt
    have HC3 := Lib.hid (HI.out.1.trans hcA)
    have HGZ : Hid (w.heap.size ≤ w1.heap.size ∧ g + 1 ≠ w1.heap.size ∧ g ≠ w1.heap.size) := Lib.hid ⟨by omega, by omega, by omega⟩
    clear a0 a1 a2 a3 hcA hc3 hz1
    generalize w1.heap.size = g3 at *
    have a0 : w3.cell? ⟨g, 0, none⟩ = some (.int .i64 5) := hb1.cell 0
    have a4 : w3.cell? ⟨g, 4, none⟩ = some (.slice A nn c) := hb1.cell 4
    have HWS := HGZ.out
    have k3 : w3.cell? ⟨g3, 3, none⟩ = some (.int .i64 k) := hB3.cell 3
    have f3 := hB3.frozen 3
    have hgn : (g = g3) = False := eq_false HGZ.out.2.2
    have hgn2 : (g3 = g) = False := eq_false (Ne.symm HGZ.out.2.2)
    go_upto_region 16 with fail
    have hB3x := hB3.set_ 3 (.int .i64 0)
    have hb23x := hb2.far (p := ⟨g3, 3, none⟩) HGZ.out.2.1 (.int .i64 0)
    have HC3x := Lib.hid (HC3.out.setCell (p := ⟨g3, 3, none⟩) (.inr HGZ.out.1) (.int .i64 0))
    have hBf : Blk _ g3 35 #[.int .i64 5, .int .i64 n, .int .i64 m, .int .i64 0, .slice none 0 0] := hB3x
    go_wp2_with (first
      | (refine wpList_load_blk rfl 35 (.tmp 3) rfl hBf rfl _ Tryd.underlying35 rfl (by kernel_rfl) ?_)
      | (refine wpList_store_blk (vs := #[.int .i64 5, .int .i64 n, .int .i64 m, .int .i64 0, .slice none 0 0]) rfl 35 (.tmp 2) (.tmp 38) rfl rfl hb23x rfl rfl rfl (by kernel_rfl) rfl ?_; intro w9 hB9 hc9)
      | fail)
    refine bodyPost_ret (results_blk rfl rfl hB9 _ Tryd.underlying35 rfl (by kernel_rfl)) rfl ?_
    exact ⟨by rw [HP.out], HC3x.out.trans' hc9 (by intro x hx; simp at hx; subst hx; right; omega)⟩
  · have HP : Hid (arrSt (plainS ⟨6, n, m, k, bs⟩) (.slice none 0 0) = #[.int .i64 6, .int .i64 n, .int .i64 m, .int .i64 0, .slice none 0 0]) := Lib.hid (by simp [plainS, manyP])
    go_enter Tryd.func17, Tryd.ntmps17
    go_upto_region 1 with fail
    generalize (w.alloc (.cells (arrSt ⟨6, n, m, k, bs⟩ (.slice A nn c)) 32)).alloc (.cells arrZ 35) = w1 at *
    generalize hg : w.heap.size = g at *
    have a0 : w1.cell? ⟨g, 0, none⟩ = some (.int .i64 6) := HI.out.2.1.cell 0
    have a1 : w1.cell? ⟨g, 1, none⟩ = some (.int .i64 n) := HI.out.2.1.cell 1
    have a2 : w1.cell? ⟨g, 2, none⟩ = some (.int .i64 m) := HI.out.2.1.cell 2
    have a3 : w1.cell? ⟨g, 3, none⟩ = some (.int .i64 k) := HI.out.2.1.cell 3
    go_upto_region 2 with (first
      | (refine wpList_store_blk (vs := #[.int .i64 6, .int .i64 n, .int .i64 m, .int .i64 k, .slice none 0 0]) rfl 35 (.tmp 3) (.tmp 12) rfl rfl (Blk.new _ _ _) rfl rfl rfl (by kernel_rfl) rfl ?_; intro w3 hB3 hc3)
      | fail)
    have hcA : Chg [] w1 w3 := ((Chg.refl [] w1).alloc _).trans' hc3 (by intro x hx; simp at hx; subst hx; exact .inr (Nat.le_refl _))
    have hb1 := HI.out.2.1.chg hcA (by simp)
    have hb2 := HI.out.2.2.chg hcA (by simp)
    have hz1 := HI.out.2.2.lt
    have HC3 := Lib.hid (HI.out.1.trans hcA)
    have HGZ : Hid (w.heap.size ≤ w1.heap.size ∧ g + 1 ≠ w1.heap.size ∧ g ≠ w1.heap.size) := Lib.hid ⟨by omega, by omega, by omega⟩
    clear a0 a1 a2 a3 hcA hc3 hz1
    generalize w1.heap.size = g3 at *
    have a0 : w3.cell? ⟨g, 0, none⟩ = some (.int .i64 6) := hb1.cell 0
    have a4 : w3.cell? ⟨g, 4, none⟩ = some (.slice A nn c) := hb1.cell 4
    have HWS := HGZ.out
    have k3 : w3.cell? ⟨g3, 3, none⟩ = some (.int .i64 k) := hB3.cell 3
    have f3 := hB3.frozen 3
    have hgn : (g = g3) = False := eq_false HGZ.out.2.2
    have hgn2 : (g3 = g) = False := eq_false (Ne.symm HGZ.out.2.2)
    go_upto_region 16 with fail
    have hB3x := hB3.set_ 3 (.int .i64 0)
    have hb23x := hb2.far (p := ⟨g3, 3, none⟩) HGZ.out.2.1 (.int .i64 0)
    have HC3x := Lib.hid (HC3.out.setCell (p := ⟨g3, 3, none⟩) (.inr HGZ.out.1) (.int .i64 0))
    have hBf : Blk _ g3 35 #[.int .i64 6, .int .i64 n, .int .i64 m, .int .i64 0, .slice none 0 0] := hB3x
    go_wp2_with (first
      | (refine wpList_load_blk rfl 35 (.tmp 3) rfl hBf rfl _ Tryd.underlying35 rfl (by kernel_rfl) ?_)
      | (refine wpList_store_blk (vs := #[.int .i64 6, .int .i64 n, .int .i64 m, .int .i64 0, .slice none 0 0]) rfl 35 (.tmp 2) (.tmp 38) rfl rfl hb23x rfl rfl rfl (by kernel_rfl) rfl ?_; intro w9 hB9 hc9)
      | fail)
    refine bodyPost_ret (results_blk rfl rfl hB9 _ Tryd.underlying35 rfl (by kernel_rfl)) rfl ?_
    exact ⟨by rw [HP.out], HC3x.out.trans' hc9 (by intro x hx; simp at hx; subst hx; right; omega)⟩
  · have HP : Hid (arrSt (plainS ⟨7, n, m, k, bs⟩) (.slice none 0 0) = #[.int .i64 7, .int .i64 n, .int .i64 0, .int .i64 0, .slice none 0 0]) := Lib.hid (by simp [plainS, manyP])
    go_enter Tryd.func17, Tryd.ntmps17
    go_upto_region 1 with fail
    generalize (w.alloc (.cells (arrSt ⟨7, n, m, k, bs⟩ (.slice A nn c)) 32)).alloc (.cells arrZ 35) = w1 at *
    generalize hg : w.heap.size = g at *
    have a0 : w1.cell? ⟨g, 0, none⟩ = some (.int .i64 7) := HI.out.2.1.cell 0
    have a1 : w1.cell? ⟨g, 1, none⟩ = some (.int .i64 n) := HI.out.2.1.cell 1
    have a2 : w1.cell? ⟨g, 2, none⟩ = some (.int .i64 m) := HI.out.2.1.cell 2
    have a3 : w1.cell? ⟨g, 3, none⟩ = some (.int .i64 k) := HI.out.2.1.cell 3
    go_upto_region 2 with (first
      | (refine wpList_store_blk (vs := #[.int .i64 7, .int .i64 n, .int .i64 m, .int .i64 k, .slice none 0 0]) rfl 35 (.tmp 3) (.tmp 12) rfl rfl (Blk.new _ _ _) rfl rfl rfl (by kernel_rfl) rfl ?_; intro w3 hB3 hc3)
      | fail)
    have hcA : Chg [] w1 w3 := ((Chg.refl [] w1).alloc _).trans' hc3 (by intro x hx; simp at hx; subst hx; exact .inr (Nat.le_refl _))
    have hb1 := HI.out.2.1.chg hcA (by simp)
    have hb2 := HI.out.2.2.chg hcA (by simp)
    have hz1 := HI.out.2.2.lt
    have HC3 := Lib.hid (HI.out.1.trans hcA)
    have HGZ : Hid (w.heap.size ≤ w1.heap.size ∧ g + 1 ≠ w1.heap.size ∧ g ≠ w1.heap.size) := Lib.hid ⟨by omega, by omega, by omega⟩
    clear a0 a1 a2 a3 hcA hc3 hz1
    generalize w1.heap.size = g3 at *
    have a0 : w3.cell? ⟨g, 0, none⟩ = some (.int .i64 7) := hb1.cell 0
    have a4 : w3.cell? ⟨g, 4, none⟩ = some (.slice A nn c) := hb1.cell 4
    have HWS := HGZ.out
    have k2 : w3.cell? ⟨g3, 2, none⟩ = some (.int .i64 m) := hB3.cell 2
    have f2 := hB3.frozen 2
    have k3 : w3.cell? ⟨g3, 3, none⟩ = some (.int .i64 k) := hB3.cell 3
    have f3 := hB3.frozen 3
    have hgn : (g = g3) = False := eq_false HGZ.out.2.2
    have hgn2 : (g3 = g) = False := eq_false (Ne.symm HGZ.out.2.2)
    go_upto_region 16 with fail
    have hB2x := hB3.set_ 2 (.int .i64 0)
    have hb22x := hb2.far (p := ⟨g3, 2, none⟩) HGZ.out.2.1 (.int .i64 0)
    have HC2x := Lib.hid (HC3.out.setCell (p := ⟨g3, 2, none⟩) (.inr HGZ.out.1) (.int .i64 0))
    have hB3x := hB2x.set_ 3 (.int .i64 0)
    have hb23x := hb22x.far (p := ⟨g3, 3, none⟩) HGZ.out.2.1 (.int .i64 0)
    have HC3x := Lib.hid (HC2x.out.setCell (p := ⟨g3, 3, none⟩) (.inr HGZ.out.1) (.int .i64 0))
    have hBf : Blk _ g3 35 #[.int .i64 7, .int .i64 n, .int .i64 0, .int .i64 0, .slice none 0 0] := hB3x
    go_wp2_with (first
      | (refine wpList_load_blk rfl 35 (.tmp 3) rfl hBf rfl _ Tryd.underlying35 rfl (by kernel_rfl) ?_)
      | (refine wpList_store_blk (vs := #[.int .i64 7, .int .i64 n, .int .i64 0, .int .i64 0, .slice none 0 0]) rfl 35 (.tmp 2) (.tmp 38) rfl rfl hb23x rfl rfl rfl (by kernel_rfl) rfl ?_; intro w9 hB9 hc9)
      | fail)
    refine bodyPost_ret (results_blk rfl rfl hB9 _ Tryd.underlying35 rfl (by kernel_rfl)) rfl ?_
    exact ⟨by rw [HP.out], HC3x.out.trans' hc9 (by intro x hx; simp at hx; subst hx; right; omega)⟩
  · have HP : Hid (arrSt (plainS ⟨8, n, m, k, bs⟩) (.slice none 0 0) = #[.int .i64 8, .int .i64 n, .int .i64 0, .int .i64 0, .slice none 0 0]) := Lib.hid (by simp [plainS, manyP])
    go_enter Tryd.func17, Tryd.ntmps17
    go_upto_region 1 with fail
    generalize (w.alloc (.cells (arrSt ⟨8, n, m, k, bs⟩ (.slice A nn c)) 32)).alloc (.cells arrZ 35) = w1 at *
    generalize hg : w.heap.size = g at *
    have a0 : w1.cell? ⟨g, 0, none⟩ = some (.int .i64 8) := HI.out.2.1.cell 0
    have a1 : w1.cell? ⟨g, 1, none⟩ = some (.int .i64 n) := HI.out.2.1.cell 1
    have a2 : w1.cell? ⟨g, 2, none⟩ = some (.int .i64 m) := HI.out.2.1.cell 2
    have a3 : w1.cell? ⟨g, 3, none⟩ = some (.int .i64 k) := HI.out.2.1.cell 3
    go_upto_region 2 with (first
      | (refine wpList_store_blk (vs := #[.int .i64 8, .int .i64 n, .int .i64 m, .int .i64 k, .slice none 0 0]) rfl 35 (.tmp 3) (.tmp 12) rfl rfl (Blk.new _ _ _) rfl rfl rfl (by kernel_rfl) rfl ?_; intro w3 hB3 hc3)
      | fail)
    have hcA : Chg [] w1 w3 := ((Chg.refl [] w1).alloc _).trans' hc3 (by intro x hx; simp at hx; subst hx; exact .inr (Nat.le_refl _))
    have hb1 := HI.out.2.1.chg hcA (by simp)
    have hb2 := HI.out.2.2.chg hcA (by simp)
    have hz1 := HI.out.2.2.lt
    have HC3 := Lib.hid (HI.out.1.trans hcA)
    have HGZ : Hid (w.heap.size ≤ w1.heap.size ∧ g + 1 ≠ w1.heap.size ∧ g ≠ w1.heap.size) := Lib.hid ⟨by omega, by omega, by omega⟩
    clear a0 a1 a2 a3 hcA hc3 hz1
    generalize w1.heap.size = g3 at *
    have a0 : w3.cell? ⟨g, 0, none⟩ = some (.int .i64 8) := hb1.cell 0
    have a4 : w3.cell? ⟨g, 4, none⟩ = some (.slice A nn c) := hb1.cell 4
    have HWS := HGZ.out
    have k2 : w3.cell? ⟨g3, 2, none⟩ = some (.int .i64 m) := hB3.cell 2
    have f2 := hB3.frozen 2
    have k3 : w3.cell? ⟨g3, 3, none⟩ = some (.int .i64 k) := hB3.cell 3
    have f3 := hB3.frozen 3
    have hgn : (g = g3) = False := eq_false HGZ.out.2.2
    have hgn2 : (g3 = g) = False := eq_false (Ne.symm HGZ.out.2.2)
    go_upto_region 16 with fail
    have hB2x := hB3.set_ 2 (.int .i64 0)
    have hb22x := hb2.far (p := ⟨g3, 2, none⟩) HGZ.out.2.1 (.int .i64 0)
    have HC2x := Lib.hid (HC3.out.setCell (p := ⟨g3, 2, none⟩) (.inr HGZ.out.1) (.int .i64 0))
    have hB3x := hB2x.set_ 3 (.int .i64 0)
    have hb23x := hb22x.far (p := ⟨g3, 3, none⟩) HGZ.out.2.1 (.int .i64 0)
    have HC3x := Lib.hid (HC2x.out.setCell (p := ⟨g3, 3, none⟩) (.inr HGZ.out.1) (.int .i64 0))
    have hBf : Blk _ g3 35 #[.int .i64 8, .int .i64 n, .int .i64 0, .int .i64 0, .slice none 0 0] := hB3x
    go_wp2_with (first
      | (refine wpList_load_blk rfl 35 (.tmp 3) rfl hBf rfl _ Tryd.underlying35 rfl (by kernel_rfl) ?_)
      | (refine wpList_store_blk (vs := #[.int .i64 8, .int .i64 n, .int .i64 0, .int .i64 0, .slice none 0 0]) rfl 35 (.tmp 2) (.tmp 38) rfl rfl hb23x rfl rfl rfl (by kernel_rfl) rfl ?_; intro w9 hB9 hc9)
      | fail)
    refine bodyPost_ret (results_blk rfl rfl hB9 _ Tryd.underlying35 rfl (by kernel_rfl)) rfl ?_
    exact ⟨by rw [HP.out], HC3x.out.trans' hc9 (by intro x hx; simp at hx; subst hx; right; omega)⟩
  · have HP : Hid (arrSt (plainS ⟨9, n, m, k, bs⟩) (.slice none 0 0) = #[.int .i64 9, .int .i64 0, .int .i64 0, .int .i64 0, .slice none 0 0]) := Lib.hid (by simp [plainS, manyP])
    go_enter Tryd.func17, Tryd.ntmps17
    go_upto_region 1 with fail
    generalize (w.alloc (.cells (arrSt ⟨9, n, m, k, bs⟩ (.slice A nn c)) 32)).alloc (.cells arrZ 35) = w1 at *
    generalize hg : w.heap.size = g at *
    have a0 : w1.cell? ⟨g, 0, none⟩ = some (.int .i64 9) := HI.out.2.1.cell 0
    have a1 : w1.cell? ⟨g, 1, none⟩ = some (.int .i64 n) := HI.out.2.1.cell 1
    have a2 : w1.cell? ⟨g, 2, none⟩ = some (.int .i64 m) := HI.out.2.1.cell 2
    have a3 : w1.cell? ⟨g, 3, none⟩ = some (.int .i64 k) := HI.out.2.1.cell 3
    go_upto_region 2 with (first
      | (refine wpList_store_blk (vs := #[.int .i64 9, .int .i64 n, .int .i64 m, .int .i64 k, .slice none 0 0]) rfl 35 (.tmp 3) (.tmp 12) rfl rfl (Blk.new _ _ _) rfl rfl rfl (by kernel_rfl) rfl ?_; intro w3 hB3 hc3)
      | fail)
    have hcA : Chg [] w1 w3 := ((Chg.refl [] w1).alloc _).trans' hc3 (by intro x hx; simp at hx; subst hx; exact .inr (Nat.le_refl _))
    have hb1 := HI.out.2.1.chg hcA (by simp)
    have hb2 := HI.out.2.2.chg hcA (by simp)
    have hz1 := HI.out.2.2.lt
    have HC3 := Lib.hid (HI.out.1.trans hcA)
    have HGZ : Hid (w.heap.size ≤ w1.heap.size ∧ g + 1 ≠ w1.heap.size ∧ g ≠ w1.heap.size) := Lib.hid ⟨by omega, by omega, by omega⟩
    clear a0 a1 a2 a3 hcA hc3 hz1
    generalize w1.heap.size = g3 at *
    have a0 : w3.cell? ⟨g, 0, none⟩ = some (.int .i64 9) := hb1.cell 0
    have a4 : w3.cell? ⟨g, 4, none⟩ = some (.slice A nn c) := hb1.cell 4
    have HWS := HGZ.out
    have k1 : w3.cell? ⟨g3, 1, none⟩ = some (.int .i64 n) := hB3.cell 1
    have f1 := hB3.frozen 1
    have k2 : w3.cell? ⟨g3, 2, none⟩ = some (.int .i64 m) := hB3.cell 2
    have f2 := hB3.frozen 2
    have k3 : w3.cell? ⟨g3, 3, none⟩ = some (.int .i64 k) := hB3.cell 3
    have f3 := hB3.frozen 3
    have hgn : (g = g3) = False := eq_false HGZ.out.2.2
    have hgn2 : (g3 = g) = False := eq_false (Ne.symm HGZ.out.2.2)
    go_upto_region 16 with fail
    have hB1x := hB3.set_ 1 (.int .i64 0)
    have hb21x := hb2.far (p := ⟨g3, 1, none⟩) HGZ.out.2.1 (.int .i64 0)
    have HC1x := Lib.hid (HC3.out.setCell (p := ⟨g3, 1, none⟩) (.inr HGZ.out.1) (.int .i64 0))
    have hB2x := hB1x.set_ 2 (.int .i64 0)
    have hb22x := hb21x.far (p := ⟨g3, 2, none⟩) HGZ.out.2.1 (.int .i64 0)
    have HC2x := Lib.hid (HC1x.out.setCell (p := ⟨g3, 2, none⟩) (.inr HGZ.out.1) (.int .i64 0))
    have hB3x := hB2x.set_ 3 (.int .i64 0)
    have hb23x := hb22x.far (p := ⟨g3, 3, none⟩) HGZ.out.2.1 (.int .i64 0)
    have HC3x := Lib.hid (HC2x.out.setCell (p := ⟨g3, 3, none⟩) (.inr HGZ.out.1) (.int .i64 0))
    have hBf : Blk _ g3 35 #[.int .i64 9, .int .i64 0, .int .i64 0, .int .i64 0, .slice none 0 0] := hB3x
    go_wp2_with (first
      | (refine wpList_load_blk rfl 35 (.tmp 3) rfl hBf rfl _ Tryd.underlying35 rfl (by kernel_rfl) ?_)
      | (refine wpList_store_blk (vs := #[.int .i64 9, .int .i64 0, .int .i64 0, .int .i64 0, .slice none 0 0]) rfl 35 (.tmp 2) (.tmp 38) rfl rfl hb23x rfl rfl rfl (by kernel_rfl) rfl ?_; intro w9 hB9 hc9)
      | fail)
    refine bodyPost_ret (results_blk rfl rfl hB9 _ Tryd.underlying35 rfl (by kernel_rfl)) rfl ?_
    exact ⟨by rw [HP.out], HC3x.out.trans' hc9 (by intro x hx; simp at hx; subst hx; right; omega)⟩
  · have HP : Hid (arrSt (plainS ⟨10, n, m, k, bs⟩) (.slice none 0 0) = #[.int .i64 10, .int .i64 n, .int .i64 0, .int .i64 0, .slice none 0 0]) := Lib.hid (by simp [plainS, manyP])
    go_enter Tryd.func17, Tryd.ntmps17
    go_upto_region 1 with fail
    generalize (w.alloc (.cells (arrSt ⟨10, n, m, k, bs⟩ (.slice A nn c)) 32)).alloc (.cells arrZ 35) = w1 at *
    generalize hg : w.heap.size = g at *
    have a0 : w1.cell? ⟨g, 0, none⟩ = some (.int .i64 10) := HI.out.2.1.cell 0
    have a1 : w1.cell? ⟨g, 1, none⟩ = some (.int .i64 n) := HI.out.2.1.cell 1
    have a2 : w1.cell? ⟨g, 2, none⟩ = some (.int .i64 m) := HI.out.2.1.cell 2
    have a3 : w1.cell? ⟨g, 3, none⟩ = some (.int .i64 k) := HI.out.2.1.cell 3
    go_upto_region 2 with (first
      | (refine wpList_store_blk (vs := #[.int .i64 10, .int .i64 n, .int .i64 m, .int .i64 k, .slice none 0 0]) rfl 35 (.tmp 3) (.tmp 12) rfl rfl (Blk.new _ _ _) rfl rfl rfl (by kernel_rfl) rfl ?_; intro w3 hB3 hc3)
      | fail)
    have hcA : Chg [] w1 w3 := ((Chg.refl [] w1).alloc _).trans' hc3 (by intro x hx; simp at hx; subst hx; exact .inr (Nat.le_refl _))
    have hb1 := HI.out.2.1.chg hcA (by simp)
    have hb2 := HI.out.2.2.chg hcA (by simp)
    have hz1 := HI.out.2.2.lt
    have HC3 := Lib.hid (HI.out.1.trans hcA)
    have HGZ : Hid (w.heap.size ≤ w1.heap.size ∧ g + 1 ≠ w1.heap.size ∧ g ≠ w1.heap.size) := Lib.hid ⟨by omega, by omega, by omega⟩
    clear a0 a1 a2 a3 hcA hc3 hz1
    generalize w1.heap.size = g3 at *
    have a0 : w3.cell? ⟨g, 0, none⟩ = some (.int .i64 10) := hb1.cell 0
    have a4 : w3.cell? ⟨g, 4, none⟩ = some (.slice A nn c) := hb1.cell 4
    have HWS := HGZ.out
    have k2 : w3.cell? ⟨g3, 2, none⟩ = some (.int .i64 m) := hB3.cell 2
    have f2 := hB3.frozen 2
    have k3 : w3.cell? ⟨g3, 3, none⟩ = some (.int .i64 k) := hB3.cell 3
    have f3 := hB3.frozen 3
    have hgn : (g = g3) = False := eq_false HGZ.out.2.2
    have hgn2 : (g3 = g) = False := eq_false (Ne.symm HGZ.out.2.2)
    go_upto_region 16 with fail
    have hB2x := hB3.set_ 2 (.int .i64 0)
    have hb22x := hb2.far (p := ⟨g3, 2, none⟩) HGZ.out.2.1 (.int .i64 0)
    have HC2x := Lib.hid (HC3.out.setCell (p := ⟨g3, 2, none⟩) (.inr HGZ.out.1) (.int .i64 0))
    have hB3x := hB2x.set_ 3 (.int .i64 0)
    have hb23x := hb22x.far (p := ⟨g3, 3, none⟩) HGZ.out.2.1 (.int .i64 0)
    have HC3x := Lib.hid (HC2x.out.setCell (p := ⟨g3, 3, none⟩) (.inr HGZ.out.1) (.int .i64 0))
    have hBf : Blk _ g3 35 #[.int .i64 10, .int .i64 n, .int .i64 0, .int .i64 0, .slice none 0 0] := hB3x
    go_wp2_with (first
      | (refine wpList_load_blk rfl 35 (.tmp 3) rfl hBf rfl _ Tryd.underlying35 rfl (by kernel_rfl) ?_)
      | (refine wpList_store_blk (vs := #[.int .i64 10, .int .i64 n, .int .i64 0, .int .i64 0, .slice none 0 0]) rfl 35 (.tmp 2) (.tmp 38) rfl rfl hb23x rfl rfl rfl (by kernel_rfl) rfl ?_; intro w9 hB9 hc9)
      | fail)
    refine bodyPost_ret (results_blk rfl rfl hB9 _ Tryd.underlying35 rfl (by kernel_rfl)) rfl ?_
    exact ⟨by rw [HP.out], HC3x.out.trans' hc9 (by intro x hx; simp at hx; subst hx; right; omega)⟩
  · have HP : Hid (arrSt (plainS ⟨11, n, m, k, bs⟩) (.slice none 0 0) = #[.int .i64 11, .int .i64 n, .int .i64 m, .int .i64 k, .slice none 0 0]) := Lib.hid (by simp [plainS, manyP])
    go_enter Tryd.func17, Tryd.ntmps17
    go_upto_region 1 with fail
    generalize (w.alloc (.cells (arrSt ⟨11, n, m, k, bs⟩ (.slice A nn c)) 32)).alloc (.cells arrZ 35) = w1 at *
    generalize hg : w.heap.size = g at *
    have a0 : w1.cell? ⟨g, 0, none⟩ = some (.int .i64 11) := HI.out.2.1.cell 0
    have a1 : w1.cell? ⟨g, 1, none⟩ = some (.int .i64 n) := HI.out.2.1.cell 1
    have a2 : w1.cell? ⟨g, 2, none⟩ = some (.int .i64 m) := HI.out.2.1.cell 2
    have a3 : w1.cell? ⟨g, 3, none⟩ = some (.int .i64 k) := HI.out.2.1.cell 3
    go_upto_region 2 with (first
      | (refine wpList_store_blk (vs := #[.int .i64 11, .int .i64 n, .int .i64 m, .int .i64 k, .slice none 0 0]) rfl 35 (.tmp 3) (.tmp 12) rfl rfl (Blk.new _ _ _) rfl rfl rfl (by kernel_rfl) rfl ?_; intro w3 hB3 hc3)
      | fail)
    have hcA : Chg [] w1 w3 := ((Chg.refl [] w1).alloc _).trans' hc3 (by intro x hx; simp at hx; subst hx; exact .inr (Nat.le_refl _))
    have hb1 := HI.out.2.1.chg hcA (by simp)
    have hb2 := HI.out.2.2.chg hcA (by simp)
    have hz1 := HI.out.2.2.lt
    have HC3 := Lib.hid (HI.out.1.trans hcA)
    have HGZ : Hid (w.heap.size ≤ w1.heap.size ∧ g + 1 ≠ w1.heap.size ∧ g ≠ w1.heap.size) := Lib.hid ⟨by omega, by omega, by omega⟩
    clear a0 a1 a2 a3 hcA hc3 hz1
    generalize w1.heap.size = g3 at *
    have a0 : w3.cell? ⟨g, 0, none⟩ = some (.int .i64 11) := hb1.cell 0
    have a4 : w3.cell? ⟨g, 4, none⟩ = some (.slice A nn c) := hb1.cell 4
    have hgn : (g = g3) = False := eq_false HGZ.out.2.2
    have hgn2 : (g3 = g) = False := eq_false (Ne.symm HGZ.out.2.2)
    go_upto_region 16 with fail
    have hBf : Blk _ g3 35 #[.int .i64 11, .int .i64 n, .int .i64 m, .int .i64 k, .slice none 0 0] := hB3
    go_wp2_with (first
      | (refine wpList_load_blk rfl 35 (.tmp 3) rfl hBf rfl _ Tryd.underlying35 rfl (by kernel_rfl) ?_)
      | (refine wpList_store_blk (vs := #[.int .i64 11, .int .i64 n, .int .i64 m, .int .i64 k, .slice none 0 0]) rfl 35 (.tmp 2) (.tmp 38) rfl rfl hb2 rfl rfl rfl (by kernel_rfl) rfl ?_; intro w9 hB9 hc9)
      | fail)
    refine bodyPost_ret (results_blk rfl rfl hB9 _ Tryd.underlying35 rfl (by kernel_rfl)) rfl ?_
    exact ⟨by rw [HP.out], HC3.out.trans' hc9 (by intro x hx; simp at hx; subst hx; right; omega)⟩
  · have HP : Hid (arrSt (plainS ⟨12, n, m, k, bs⟩) (.slice none 0 0) = #[.int .i64 12, .int .i64 n, .int .i64 m, .int .i64 0, .slice none 0 0]) := Lib.hid (by simp [plainS, manyP])
    go_enter Tryd.func17, Tryd.ntmps17
    go_upto_region 1 with fail
    generalize (w.alloc (.cells (arrSt ⟨12, n, m, k, bs⟩ (.slice A nn c)) 32)).alloc (.cells arrZ 35) = w1 at *
    generalize hg : w.heap.size = g at *
    have a0 : w1.cell? ⟨g, 0, none⟩ = some (.int .i64 12) := HI.out.2.1.cell 0
    have a1 : w1.cell? ⟨g, 1, none⟩ = some (.int .i64 n) := HI.out.2.1.cell 1
    have a2 : w1.cell? ⟨g, 2, none⟩ = some (.int .i64 m) := HI.out.2.1.cell 2
    have a3 : w1.cell? ⟨g, 3, none⟩ = some (.int .i64 k) := HI.out.2.1.cell 3
    go_upto_region 2 with (first
      | (refine wpList_store_blk (vs := #[.int .i64 12, .int .i64 n, .int .i64 m, .int .i64 k, .slice none 0 0]) rfl 35 (.tmp 3) (.tmp 12) rfl rfl (Blk.new _ _ _) rfl rfl rfl (by kernel_rfl) rfl ?_; intro w3 hB3 hc3)
      | fail)
    have hcA : Chg [] w1 w3 := ((Chg.refl [] w1).alloc _).trans' hc3 (by intro x hx; simp at hx; subst hx; exact .inr (Nat.le_refl _))
    have hb1 := HI.out.2.1.chg hcA (by simp)
    have hb2 := HI.out.2.2.chg hcA (by simp)
    have hz1 := HI.out.2.2.lt
    have HC3 := Lib.hid (HI.out.1.trans hcA)
    have HGZ : Hid (w.heap.size ≤ w1.heap.size ∧ g + 1 ≠ w1.heap.size ∧ g ≠ w1.heap.size) := Lib.hid ⟨by omega, by omega, by omega⟩
    clear a0 a1 a2 a3 hcA hc3 hz1
    generalize w1.heap.size = g3 at *
    have a0 : w3.cell? ⟨g, 0, none⟩ = some (.int .i64 12) := hb1.cell 0
    have a4 : w3.cell? ⟨g, 4, none⟩ = some (.slice A nn c) := hb1.cell 4
    have HWS := HGZ.out
    have k3 : w3.cell? ⟨g3, 3, none⟩ = some (.int .i64 k) := hB3.cell 3
    have f3 := hB3.frozen 3
    have hgn : (g = g3) = False := eq_false HGZ.out.2.2
    have hgn2 : (g3 = g) = False := eq_false (Ne.symm HGZ.out.2.2)
    go_upto_region 16 with fail
    have hB3x := hB3.set_ 3 (.int .i64 0)
    have hb23x := hb2.far (p := ⟨g3, 3, none⟩) HGZ.out.2.1 (.int .i64 0)
    have HC3x := Lib.hid (HC3.out.setCell (p := ⟨g3, 3, none⟩) (.inr HGZ.out.1) (.int .i64 0))
    have hBf : Blk _ g3 35 #[.int .i64 12, .int .i64 n, .int .i64 m, .int .i64 0, .slice none 0 0] := hB3x
    go_wp2_with (first
      | (refine wpList_load_blk rfl 35 (.tmp 3) rfl hBf rfl _ Tryd.underlying35 rfl (by kernel_rfl) ?_)
      | (refine wpList_store_blk (vs := #[.int .i64 12, .int .i64 n, .int .i64 m, .int .i64 0, .slice none 0 0]) rfl 35 (.tmp 2) (.tmp 38) rfl rfl hb23x rfl rfl rfl (by kernel_rfl) rfl ?_; intro w9 hB9 hc9)
      | fail)
    refine bodyPost_ret (results_blk rfl rfl hB9 _ Tryd.underlying35 rfl (by kernel_rfl)) rfl ?_
    exact ⟨by rw [HP.out], HC3x.out.trans' hc9 (by intro x hx; simp at hx; subst hx; right; omega)⟩
  · have HP : Hid (arrSt (plainS ⟨13, n, m, k, bs⟩) (.slice A nn c) = #[.int .i64 13, .int .i64 0, .int .i64 0, .int .i64 0, .slice A nn c]) := Lib.hid (by simp [plainS, manyP])
    go_enter Tryd.func17, Tryd.ntmps17
    go_upto_region 1 with fail
    generalize (w.alloc (.cells (arrSt ⟨13, n, m, k, bs⟩ (.slice A nn c)) 32)).alloc (.cells arrZ 35) = w1 at *
    generalize hg : w.heap.size = g at *
    have a0 : w1.cell? ⟨g, 0, none⟩ = some (.int .i64 13) := HI.out.2.1.cell 0
    have a1 : w1.cell? ⟨g, 1, none⟩ = some (.int .i64 n) := HI.out.2.1.cell 1
    have a2 : w1.cell? ⟨g, 2, none⟩ = some (.int .i64 m) := HI.out.2.1.cell 2
    have a3 : w1.cell? ⟨g, 3, none⟩ = some (.int .i64 k) := HI.out.2.1.cell 3
    go_upto_region 2 with (first
      | (refine wpList_store_blk (vs := #[.int .i64 13, .int .i64 n, .int .i64 m, .int .i64 k, .slice none 0 0]) rfl 35 (.tmp 3) (.tmp 12) rfl rfl (Blk.new _ _ _) rfl rfl rfl (by kernel_rfl) rfl ?_; intro w3 hB3 hc3)
      | fail)
    have hcA : Chg [] w1 w3 := ((Chg.refl [] w1).alloc _).trans' hc3 (by intro x hx; simp at hx; subst hx; exact .inr (Nat.le_refl _))
    have hb1 := HI.out.2.1.chg hcA (by simp)
    have hb2 := HI.out.2.2.chg hcA (by simp)
    have hz1 := HI.out.2.2.lt
    have HC3 := Lib.hid (HI.out.1.trans hcA)
    have HGZ : Hid (w.heap.size ≤ w1.heap.size ∧ g + 1 ≠ w1.heap.size ∧ g ≠ w1.heap.size) := Lib.hid ⟨by omega, by omega, by omega⟩
    clear a0 a1 a2 a3 hcA hc3 hz1
    generalize w1.heap.size = g3 at *
    have a0 : w3.cell? ⟨g, 0, none⟩ = some (.int .i64 13) := hb1.cell 0
    have a4 : w3.cell? ⟨g, 4, none⟩ = some (.slice A nn c) := hb1.cell 4
    have HWS := HGZ.out
    have k1 : w3.cell? ⟨g3, 1, none⟩ = some (.int .i64 n) := hB3.cell 1
    have f1 := hB3.frozen 1
    have k2 : w3.cell? ⟨g3, 2, none⟩ = some (.int .i64 m) := hB3.cell 2
    have f2 := hB3.frozen 2
    have k3 : w3.cell? ⟨g3, 3, none⟩ = some (.int .i64 k) := hB3.cell 3
    have f3 := hB3.frozen 3
    have k4 : w3.cell? ⟨g3, 4, none⟩ = some (.slice none 0 0) := hB3.cell 4
    have f4 := hB3.frozen 4
    have hgn : (g = g3) = False := eq_false HGZ.out.2.2
    have hgn2 : (g3 = g) = False := eq_false (Ne.symm HGZ.out.2.2)
    go_upto_region 16 with fail
    have hB1x := hB3.set_ 1 (.int .i64 0)
    have hb21x := hb2.far (p := ⟨g3, 1, none⟩) HGZ.out.2.1 (.int .i64 0)
    have HC1x := Lib.hid (HC3.out.setCell (p := ⟨g3, 1, none⟩) (.inr HGZ.out.1) (.int .i64 0))
    have hB2x := hB1x.set_ 2 (.int .i64 0)
    have hb22x := hb21x.far (p := ⟨g3, 2, none⟩) HGZ.out.2.1 (.int .i64 0)
    have HC2x := Lib.hid (HC1x.out.setCell (p := ⟨g3, 2, none⟩) (.inr HGZ.out.1) (.int .i64 0))
    have hB3x := hB2x.set_ 3 (.int .i64 0)
    have hb23x := hb22x.far (p := ⟨g3, 3, none⟩) HGZ.out.2.1 (.int .i64 0)
    have HC3x := Lib.hid (HC2x.out.setCell (p := ⟨g3, 3, none⟩) (.inr HGZ.out.1) (.int .i64 0))
    have hB4x := hB3x.set_ 4 (.slice A nn c)
    have hb24x := hb23x.far (p := ⟨g3, 4, none⟩) HGZ.out.2.1 (.slice A nn c)
    have HC4x := Lib.hid (HC3x.out.setCell (p := ⟨g3, 4, none⟩) (.inr HGZ.out.1) (.slice A nn c))
    have hBf : Blk _ g3 35 #[.int .i64 13, .int .i64 0, .int .i64 0, .int .i64 0, .slice A nn c] := hB4x
    go_wp2_with (first
      | (refine wpList_load_blk rfl 35 (.tmp 3) rfl hBf rfl _ Tryd.underlying35 rfl (by kernel_rfl) ?_)
      | (refine wpList_store_blk (vs := #[.int .i64 13, .int .i64 0, .int .i64 0, .int .i64 0, .slice A nn c]) rfl 35 (.tmp 2) (.tmp 38) rfl rfl hb24x rfl rfl rfl (by kernel_rfl) rfl ?_; intro w9 hB9 hc9)
      | fail)
    refine bodyPost_ret (results_blk rfl rfl hB9 _ Tryd.underlying35 rfl (by kernel_rfl)) rfl ?_
    exact ⟨by rw [HP.out], HC4x.out.trans' hc9 (by intro x hx; simp at hx; subst hx; right; omega)⟩
end Go.Proofs.YtljgemknccodeaaDoor
