/-
  WALKS: what a connection takes. Conditions: the payload reads as bytes; the count does not pass an int.
-/
import Derived.Test.YtelbaooifmkpkaaEpW
import Derived.Deep.RegionHeld3
import Derived.Deep.DeepCutAuto
set_option linter.unusedVariables false
set_option linter.unusedSimpArgs false
namespace Go.Proofs.Ytelbaooifmkpkaa
open Go.RowKit

set_option maxRecDepth 20000 in
set_option maxHeartbeats 2000000 in
theorem more_any (c : CN) (t : TC) (o pv : Value) (l : List Int) (w : World) (hp : SlB w 0 pv l) (hl : l.length ≤ 9223372036854775807) (hr : ∀ x ∈ l, 0 ≤ x ∧ x ≤ 255)
    (hg0 : 0 ≤ c.got) (hg1 : c.got + l.length ≤ 9223372036854775807) (hcs : 0 ≤ c.sum ∧ c.sum < 4294967296) :
    Calls Try.prog 45 #[.agg (enC c), .agg (enT t o pv)] w fun e w' => ∃ v, e = .returned (.tuple #[.agg (enC (moreF c t l).1), v]) ∧ SlT w' w.heap.size v (moreF c t l).2 ∧ Chg [] w w' := by
  obtain ⟨A, ca, hv⟩ := Sl.form hp
  subst hv
  have hc0 : Chg [] w (((w.alloc (.cells (enC c) 46)).alloc (.cells (enT t o (.slice A l.length ca)) 52)).alloc (.cells (enC ⟨0, 0, 0, 0, 0, 0, 0⟩) 46)) := (((Chg.refl _ _).alloc _).alloc _).alloc _
  have hb0 : Blk (((w.alloc (.cells (enC c) 46)).alloc (.cells (enT t o (.slice A l.length ca)) 52)).alloc (.cells (enC ⟨0, 0, 0, 0, 0, 0, 0⟩) 46)) w.heap.size 46 (enC c) := ((Blk.new _ _ _).alloc _).alloc _
  have ht0 : Blk (((w.alloc (.cells (enC c) 46)).alloc (.cells (enT t o (.slice A l.length ca)) 52)).alloc (.cells (enC ⟨0, 0, 0, 0, 0, 0, 0⟩) 46)) (w.heap.size + 1) 52 (enT t o (.slice A l.length ca)) := (Blk.new' (by simp)).alloc _
  have hd0 : Blk (((w.alloc (.cells (enC c) 46)).alloc (.cells (enT t o (.slice A l.length ca)) 52)).alloc (.cells (enC ⟨0, 0, 0, 0, 0, 0, 0⟩) 46)) (w.heap.size + 1 + 1) 46 (enC ⟨0, 0, 0, 0, 0, 0, 0⟩) := Blk.new' (by simp)
  unfold enC enT at *
  go_enter Try.func45, Try.ntmps45
  go_wp2_with fail
  have hs : w.heap.size + 3 = (((w.alloc (.cells #[.int .i64 c.st, .int .u32 c.first, .int .u32 c.own, .int .u32 c.next, .int .u32 c.sent, .int .i64 c.got, .int .u32 c.sum] 46)).alloc (.cells #[.int .i64 t.sport, .int .i64 t.dport, .int .u32 t.seq, .int .u32 t.ack, .int .i64 t.flags, .int .i64 t.window, .int .i64 t.ck, .int .i64 t.urgent, o, .slice A l.length ca] 52)).alloc (.cells #[.int .i64 0, .int .u32 0, .int .u32 0, .int .u32 0, .int .u32 0, .int .i64 0, .int .u32 0] 46)).heap.size := by simp
  generalize (((w.alloc (.cells #[.int .i64 c.st, .int .u32 c.first, .int .u32 c.own, .int .u32 c.next, .int .u32 c.sent, .int .i64 c.got, .int .u32 c.sum] 46)).alloc (.cells #[.int .i64 t.sport, .int .i64 t.dport, .int .u32 t.seq, .int .u32 t.ack, .int .i64 t.flags, .int .i64 t.window, .int .i64 t.ck, .int .i64 t.urgent, o, .slice A l.length ca] 52)).alloc (.cells #[.int .i64 0, .int .u32 0, .int .u32 0, .int .u32 0, .int .u32 0, .int .i64 0, .int .u32 0] 46)) = W at *
  have hsz : w.heap.size + 3 ≤ W.heap.size := by omega
  clear hs
  go_cut [] (fun wx => Blk wx w.heap.size 46 (enC { c with next := u32w (c.next + spanF t.flags l.length) }) ∧ Blk wx (w.heap.size + 1) 52 (enT t o (.slice A l.length ca)) ∧ Blk wx (w.heap.size + 1 + 1) 46 (enC ⟨0, 0, 0, 0, 0, 0, 0⟩) ∧ Chg [] w wx)
  case first =>
    have x0 := hb0.cell 0
    have x1 := hb0.cell 1
    have x2 := hb0.cell 2
    have x3 := hb0.cell 3
    have x4 := hb0.cell 4
    have x5 := hb0.cell 5
    have x6 := hb0.cell 6
    simp only [List.getElem?_toArray, List.getElem?_cons_succ, List.getElem?_cons_zero] at x0 x1 x2 x3 x4 x5 x6
    have y0 := ht0.cell 0
    have y1 := ht0.cell 1
    have y2 := ht0.cell 2
    have y3 := ht0.cell 3
    have y4 := ht0.cell 4
    have y5 := ht0.cell 5
    have y6 := ht0.cell 6
    have y7 := ht0.cell 7
    have y8 := ht0.cell 8
    have y9 := ht0.cell 9
    simp only [List.getElem?_toArray, List.getElem?_cons_succ, List.getElem?_cons_zero] at y0 y1 y2 y3 y4 y5 y6 y7 y8 y9
    have fz3 := hb0.frozen 3
    go_region_with (first | (go_at_call 44; refine (span_any t o A l.length ca _).mono ?_; rintro e w1 ⟨rfl, hc1⟩; have f1 := (hb0.drew.chg hc1 (by simp)).frozen 3; have z3 := hc1.cell x3 (by simp)))
    all_goals
      go_wp2_with fail
      go_meet
      have hc1' := hc0.drew.trans hc1
      have b1 := hb0.drew.chg hc1 (by simp)
      have b2 := ht0.drew.chg hc1 (by simp)
      have b3 := hd0.drew.chg hc1 (by simp)
      exact ⟨b1.set_ 3 _, b2.far (by show _ ≠ w.heap.size; omega) _, b3.far (by show _ ≠ w.heap.size; omega) _, hc1'.setCell (.inr (Nat.le_refl _)) _⟩
  case rest =>
    obtain ⟨hb1, ht1, hd1, hc1⟩ := hcut
    unfold enC at hb1 hd1
    unfold enT at ht1
    clear hb0 ht0 hd0 hc0 hsz
    have x0 := hb1.cell 0
    have x1 := hb1.cell 1
    have x2 := hb1.cell 2
    have x3 := hb1.cell 3
    have x4 := hb1.cell 4
    have x5 := hb1.cell 5
    have x6 := hb1.cell 6
    simp only [List.getElem?_toArray, List.getElem?_cons_succ, List.getElem?_cons_zero] at x0 x1 x2 x3 x4 x5 x6
    have y0 := ht1.cell 0
    have y1 := ht1.cell 1
    have y2 := ht1.cell 2
    have y3 := ht1.cell 3
    have y4 := ht1.cell 4
    have y5 := ht1.cell 5
    have y6 := ht1.cell 6
    have y7 := ht1.cell 7
    have y8 := ht1.cell 8
    have y9 := ht1.cell 9
    simp only [List.getElem?_toArray, List.getElem?_cons_succ, List.getElem?_cons_zero] at y0 y1 y2 y3 y4 y5 y6 y7 y8 y9
    have fz := hb1.frozen
    have hwl := hb1.lt
    go_wp2_with fail
    have hb2 := hb1.set_ 5 (.int .i64 (c.got + l.length))
    have ht2 := ht1.far (p := ⟨w.heap.size, 5, none⟩) (by show _ ≠ w.heap.size; omega) (.int .i64 (c.got + l.length))
    have hd2 := hd1.far (p := ⟨w.heap.size, 5, none⟩) (by show _ ≠ w.heap.size; omega) (.int .i64 (c.got + l.length))
    have hc2 := hc1.setCell (p := ⟨w.heap.size, 5, none⟩) (.inr (Nat.le_refl _)) (.int .i64 (c.got + l.length))
    refine (mix_any c.sum (Sl.chg0 hp hc2) hl hr).mono ?_
    rintro e w' ⟨rfl, rfl⟩
    clear x0 x1 x2 x3 x4 x5 x6 y0 y1 y2 y3 y4 y5 y6 y7 y8 y9 fz
    generalize wc.setCell ⟨w.heap.size, 5, none⟩ (.int .i64 (c.got + l.length)) = W2 at *
    have fz := hb2.frozen
    have y0 := ht2.cell 0
    have y1 := ht2.cell 1
    have y2 := ht2.cell 2
    have y3 := ht2.cell 3
    have y4 := ht2.cell 4
    have y5 := ht2.cell 5
    have y6 := ht2.cell 6
    have y7 := ht2.cell 7
    have y8 := ht2.cell 8
    have y9 := ht2.cell 9
    simp only [List.getElem?_toArray, List.getElem?_cons_succ, List.getElem?_cons_zero] at y0 y1 y2 y3 y4 y5 y6 y7 y8 y9
    have x6 := hb2.cell 6
    go_wp2_with fail
    have hb3 := hb2.set_ 6 (.int .u32 (mixF c.sum l))
    have ht3 := ht2.far (p := ⟨w.heap.size, 6, none⟩) (by show _ ≠ w.heap.size; omega) (.int .u32 (mixF c.sum l))
    have hd3 := hd2.far (p := ⟨w.heap.size, 6, none⟩) (by show _ ≠ w.heap.size; omega) (.int .u32 (mixF c.sum l))
    have hc3 := hc2.setCell (p := ⟨w.heap.size, 6, none⟩) (.inr (Nat.le_refl _)) (.int .u32 (mixF c.sum l))
    have hx3 : Blk (W2.setCell ⟨w.heap.size, 6, none⟩ (.int .u32 (mixF c.sum l))) w.heap.size 46 (enC (more1 c t l)) := hb3
    clear x6 y0 y1 y2 y3 y4 y5 y6 y7 y8 y9 fz hb3 hb2 ht2 hd2 hc2 hb1 ht1 hd1 hc1
    generalize W2.setCell ⟨w.heap.size, 6, none⟩ (.int .u32 (mixF c.sum l)) = W3 at *
    refine (has_any t o (.slice A l.length ca) 1 _).mono ?_
    rintro e w4 ⟨rfl, hc4⟩
    have hb4 := hx3.chg hc4 (by simp)
    have hd4 := hd3.chg hc4 (by simp)
    have hcc := hc3.trans hc4
    clear hx3 hd3 hc3 ht3 hc4
    unfold enC more1 at hb4
    cases hfl : hasF t.flags 1 with
    | false =>
      have hm : moreF c t l = (more1 c t l, [bareF (more1 c t l)]) := by unfold moreF; rw [if_neg (by simp [hfl])]
      have HM := Lib.hid hm
      clear hm hfl
      have x0 := hb4.cell 0
      have x1 := hb4.cell 1
      have x2 := hb4.cell 2
      have x3 := hb4.cell 3
      have x4 := hb4.cell 4
      have x5 := hb4.cell 5
      have x6 := hb4.cell 6
      simp only [List.getElem?_toArray, List.getElem?_cons_succ, List.getElem?_cons_zero] at x0 x1 x2 x3 x4 x5 x6
      have fz := hd4.frozen
      go_wp2_with fail
      go_cut [5] (fun v wx => SlT wx w.heap.size v [bareF (more1 c t l)] ∧ Blk wx (w.heap.size + 1 + 1) 46 (enC (more1 c t l)) ∧ Chg [] w wx)
      case first =>
        go_region_held3 (fun w' => w'.cell? ⟨w.heap.size, 0, none⟩ = some (.int .i64 c.st) ∧ w'.cell? ⟨w.heap.size, 1, none⟩ = some (.int .u32 c.first) ∧ w'.cell? ⟨w.heap.size, 2, none⟩ = some (.int .u32 c.own) ∧ w'.cell? ⟨w.heap.size, 3, none⟩ = some (.int .u32 (u32w (c.next + spanF t.flags l.length))) ∧ w'.cell? ⟨w.heap.size, 4, none⟩ = some (.int .u32 c.sent) ∧ w'.cell? ⟨w.heap.size, 5, none⟩ = some (.int .i64 (c.got + l.length)) ∧ w'.cell? ⟨w.heap.size, 6, none⟩ = some (.int .u32 (mixF c.sum l))) (first | go_keep | (refine ⟨Chg.cell (S := [w.heap.size + 1 + 1]) (w := w5) ?_ q0 (by simp <;> omega), Chg.cell (S := [w.heap.size + 1 + 1]) (w := w5) ?_ q1 (by simp <;> omega), Chg.cell (S := [w.heap.size + 1 + 1]) (w := w5) ?_ q2 (by simp <;> omega), Chg.cell (S := [w.heap.size + 1 + 1]) (w := w5) ?_ q3 (by simp <;> omega), Chg.cell (S := [w.heap.size + 1 + 1]) (w := w5) ?_ q4 (by simp <;> omega), Chg.cell (S := [w.heap.size + 1 + 1]) (w := w5) ?_ q5 (by simp <;> omega), Chg.cell (S := [w.heap.size + 1 + 1]) (w := w5) ?_ q6 (by simp <;> omega)⟩ <;> exact (by repeat (first | with_reducible exact Chg.refl _ _ | with_reducible refine Chg.alloc ?_ _ | (with_reducible refine Chg.setCell ?_ ?_ _; rotate_left; exact .inl (by simp))))))
          (first | (go_at_call 31; refine (bare_any (more1 c t l) _).mono ?_; rintro e w5 ⟨rfl, hc5⟩; have hb5 := hb4.drew.chg hc5 (by simp); have hd5 := hd4.drew.chg hc5 (by simp); have q0 := hb5.cell 0; have q1 := hb5.cell 1; have q2 := hb5.cell 2; have q3 := hb5.cell 3; have q4 := hb5.cell 4; have q5 := hb5.cell 5; have q6 := hb5.cell 6; simp only [List.getElem?_toArray, List.getElem?_cons_succ, List.getElem?_cons_zero] at q0 q1 q2 q3 q4 q5 q6; have r0 := hd5.cell 0; have r1 := hd5.cell 1; have r2 := hd5.cell 2; have r3 := hd5.cell 3; have r4 := hd5.cell 4; have r5 := hd5.cell 5; have r6 := hd5.cell 6; simp only [enC, List.getElem?_toArray, List.getElem?_cons_succ, List.getElem?_cons_zero] at r0 r1 r2 r3 r4 r5 r6; have fz5 := hd5.frozen; have hl5 := hd5.lt; have hm5 := hb5.lt; unfold enT))
        all_goals
          go_wp2_with fail
          go_meet
          have hst := Chg.setCells (g := w.heap.size + 1 + 1) (enC (more1 c t l)).toList 0 (w := w5)
          have hsz5 : (w5.setCells (w.heap.size + 1 + 1) 0 (enC (more1 c t l)).toList).heap.size = w5.heap.size := by simp [World.setCells, World.setCell, enC]
          exact ⟨(one_seg' (w5.setCells (w.heap.size + 1 + 1) 0 (enC (more1 c t l)).toList) (bareF (more1 c t l)) hsz5.symm).less (by omega), (Blk.setAll hd5 (enC (more1 c t l)).toList rfl).alloc _, ((hcc.drew.trans hc5).trans' hst (by simp; omega)).alloc _⟩
      case rest =>
        obtain ⟨hs9, hb9, hc9⟩ := hcut
        go_wp2_with fail
        rw [HM.out]
        exact bodyPost_ret (results_blk2 rfl rfl hb9 _ Try.underlying46 rfl (by kernel_rfl)) rfl ⟨u5, rfl, hs9, hc9⟩
    | true =>
      have hm : moreF c t l = (more2 (more1 c t l), [finF (more2 (more1 c t l))]) := by unfold moreF; rw [if_pos hfl]
      have HM := Lib.hid hm
      clear hm hfl
      have x0 := hb4.cell 0
      have x1 := hb4.cell 1
      have x2 := hb4.cell 2
      have x3 := hb4.cell 3
      have x4 := hb4.cell 4
      have x5 := hb4.cell 5
      have x6 := hb4.cell 6
      simp only [List.getElem?_toArray, List.getElem?_cons_succ, List.getElem?_cons_zero] at x0 x1 x2 x3 x4 x5 x6
      have fy := hb4.frozen
      have fz := hd4.frozen
      have hb6 := (hb4.set_ 4 (.int .u32 ((c.sent + 1) % 4294967296))).set_ 0 (.int .i64 3)
      have hd6 := (hd4.far (p := ⟨w.heap.size, 4, none⟩) (by show _ ≠ w.heap.size; omega) (.int .u32 ((c.sent + 1) % 4294967296))).far (p := ⟨w.heap.size, 0, none⟩) (by show _ ≠ w.heap.size; omega) (.int .i64 3)
      have hcc6 := (hcc.setCell (p := ⟨w.heap.size, 4, none⟩) (.inr (Nat.le_refl _)) (.int .u32 ((c.sent + 1) % 4294967296))).setCell (p := ⟨w.heap.size, 0, none⟩) (.inr (Nat.le_refl _)) (.int .i64 3)
      go_wp2_with fail
      have hb4 : Blk ((w4.setCell ⟨w.heap.size, 4, none⟩ (.int .u32 ((c.sent + 1) % 4294967296))).setCell ⟨w.heap.size, 0, none⟩ (.int .i64 3)) w.heap.size 46 (enC (more2 (more1 c t l))) := hb6
      clear x0 x1 x2 x3 x4 x5 x6 fy fz hcc hd4 hb6
      generalize (w4.setCell ⟨w.heap.size, 4, none⟩ (.int .u32 ((c.sent + 1) % 4294967296))).setCell ⟨w.heap.size, 0, none⟩ (.int .i64 3) = W6 at *
      have hd4 := hd6
      have hcc := hcc6
      clear hd6 hcc6
      unfold enC more2 more1 at hb4
      have x0 := hb4.cell 0
      have x1 := hb4.cell 1
      have x2 := hb4.cell 2
      have x3 := hb4.cell 3
      have x4 := hb4.cell 4
      have x5 := hb4.cell 5
      have x6 := hb4.cell 6
      simp only [List.getElem?_toArray, List.getElem?_cons_succ, List.getElem?_cons_zero] at x0 x1 x2 x3 x4 x5 x6
      have fz := hd4.frozen
      go_cut [5] (fun v wx => SlT wx w.heap.size v [finF (more2 (more1 c t l))] ∧ Blk wx (w.heap.size + 1 + 1) 46 (enC (more2 (more1 c t l))) ∧ Chg [] w wx)
      case first =>
        go_region_held3 (fun w' => w'.cell? ⟨w.heap.size, 0, none⟩ = some (.int .i64 3) ∧ w'.cell? ⟨w.heap.size, 1, none⟩ = some (.int .u32 c.first) ∧ w'.cell? ⟨w.heap.size, 2, none⟩ = some (.int .u32 c.own) ∧ w'.cell? ⟨w.heap.size, 3, none⟩ = some (.int .u32 (u32w (c.next + spanF t.flags l.length))) ∧ w'.cell? ⟨w.heap.size, 4, none⟩ = some (.int .u32 (u32w (c.sent + 1))) ∧ w'.cell? ⟨w.heap.size, 5, none⟩ = some (.int .i64 (c.got + l.length)) ∧ w'.cell? ⟨w.heap.size, 6, none⟩ = some (.int .u32 (mixF c.sum l))) (first | go_keep | (refine ⟨Chg.cell (S := [w.heap.size + 1 + 1]) (w := w5) ?_ q0 (by simp <;> omega), Chg.cell (S := [w.heap.size + 1 + 1]) (w := w5) ?_ q1 (by simp <;> omega), Chg.cell (S := [w.heap.size + 1 + 1]) (w := w5) ?_ q2 (by simp <;> omega), Chg.cell (S := [w.heap.size + 1 + 1]) (w := w5) ?_ q3 (by simp <;> omega), Chg.cell (S := [w.heap.size + 1 + 1]) (w := w5) ?_ q4 (by simp <;> omega), Chg.cell (S := [w.heap.size + 1 + 1]) (w := w5) ?_ q5 (by simp <;> omega), Chg.cell (S := [w.heap.size + 1 + 1]) (w := w5) ?_ q6 (by simp <;> omega)⟩ <;> exact (by repeat (first | with_reducible exact Chg.refl _ _ | with_reducible refine Chg.alloc ?_ _ | (with_reducible refine Chg.setCell ?_ ?_ _; rotate_left; exact .inl (by simp))))))
          (first | (go_at_call 33; refine (fin_any (more2 (more1 c t l)) _).mono ?_; rintro e w5 ⟨rfl, hc5⟩; have hb5 := hb4.drew.chg hc5 (by simp); have hd5 := hd4.drew.chg hc5 (by simp); have q0 := hb5.cell 0; have q1 := hb5.cell 1; have q2 := hb5.cell 2; have q3 := hb5.cell 3; have q4 := hb5.cell 4; have q5 := hb5.cell 5; have q6 := hb5.cell 6; simp only [List.getElem?_toArray, List.getElem?_cons_succ, List.getElem?_cons_zero] at q0 q1 q2 q3 q4 q5 q6; have r0 := hd5.cell 0; have r1 := hd5.cell 1; have r2 := hd5.cell 2; have r3 := hd5.cell 3; have r4 := hd5.cell 4; have r5 := hd5.cell 5; have r6 := hd5.cell 6; simp only [enC, List.getElem?_toArray, List.getElem?_cons_succ, List.getElem?_cons_zero] at r0 r1 r2 r3 r4 r5 r6; have fz5 := hd5.frozen; have hl5 := hd5.lt; have hm5 := hb5.lt; unfold enT))
        all_goals
          go_wp2_with fail
          go_meet
          have hst := Chg.setCells (g := w.heap.size + 1 + 1) (enC (more2 (more1 c t l))).toList 0 (w := w5)
          have hsz5 : (w5.setCells (w.heap.size + 1 + 1) 0 (enC (more2 (more1 c t l))).toList).heap.size = w5.heap.size := by simp [World.setCells, World.setCell, enC]
          exact ⟨(one_seg' (w5.setCells (w.heap.size + 1 + 1) 0 (enC (more2 (more1 c t l))).toList) (finF (more2 (more1 c t l))) hsz5.symm).less (by omega), (Blk.setAll hd5 (enC (more2 (more1 c t l))).toList rfl).alloc _, ((hcc.drew.trans hc5).trans' hst (by simp; omega)).alloc _⟩
      case rest =>
        obtain ⟨hs9, hb9, hc9⟩ := hcut
        go_wp2_with fail
        rw [HM.out]
        exact bodyPost_ret (results_blk2 rfl rfl hb9 _ Try.underlying46 rfl (by kernel_rfl)) rfl ⟨u5, rfl, hs9, hc9⟩
end Go.Proofs.Ytelbaooifmkpkaa
