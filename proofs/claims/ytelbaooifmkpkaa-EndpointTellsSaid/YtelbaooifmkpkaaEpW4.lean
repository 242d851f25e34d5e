/-
  WALKS: Take, the cases behind the acknowledgement. Conditions: as in EpW3.
-/
import Derived.Test.YtelbaooifmkpkaaEpW3
set_option linter.unusedVariables false
set_option linter.unusedSimpArgs false
namespace Go.Proofs.Ytelbaooifmkpkaa
open Go.RowKit

set_option maxRecDepth 20000 in
set_option maxHeartbeats 2000000 in
theorem take4 (c : CN) (t : TC) (o p : Value) (w : World) (c' : CN) (h : ¬ (c.st < 1 ∨ 4 < c.st)) (h4 : hasF t.flags 4 = false) (h2 : hasF t.flags 2 = false) (h16 : hasF t.flags 16 = true) (ha : ackedF c t = (c', false)) :
    Calls Try.prog 21 #[.agg (enC c), .agg (enT t o p)] w fun e w' => ∃ v, e = .returned (.tuple #[.agg (enC (c)), v]) ∧ SlT w' w.heap.size v [segF t.ack 0 4] ∧ Chg [] w w' := by
  have d1 : decide (c.st < 1) = false := by simp; omega
  have d2 : decide (4 < c.st) = false := by simp; omega
  have H4 := Lib.hid h4
  have H2 := Lib.hid h2
  have H16 := Lib.hid h16
  have HA := Lib.hid ha
  have B0 := TB.start w c t o p
  clear h h4 h2 h16 ha
  unfold enC enT
  go_enter Try.func21, Try.ntmps21
  go_wp2_with fail
  refine wp_scope_fwd 0 rfl ?_
  go_wp2_with fail
  refine (has_any t o p 4 _).mono ?_
  rw [H4.out]
  rintro e w1 ⟨rfl, hc1⟩
  have B1 := B0.chg hc1
  obtain ⟨hb, ht, hd, hx⟩ := B1.parts
  have x0 := hb.cell 0
  have x1 := hb.cell 1
  have x2 := hb.cell 2
  have x3 := hb.cell 3
  have x4 := hb.cell 4
  have x5 := hb.cell 5
  have x6 := hb.cell 6
  simp only [List.getElem?_toArray, List.getElem?_cons_succ, List.getElem?_cons_zero] at x0 x1 x2 x3 x4 x5 x6
  have y0 := ht.cell 0
  have y1 := ht.cell 1
  have y2 := ht.cell 2
  have y3 := ht.cell 3
  have y4 := ht.cell 4
  have y5 := ht.cell 5
  have y6 := ht.cell 6
  have y7 := ht.cell 7
  have y8 := ht.cell 8
  have y9 := ht.cell 9
  simp only [List.getElem?_toArray, List.getElem?_cons_succ, List.getElem?_cons_zero] at y0 y1 y2 y3 y4 y5 y6 y7 y8 y9
  have fz := hd.frozen
  have ft := hb.frozen
  have hl := hd.lt
  have hm := hb.lt
  go_wp2_with fail
  clear x0 x1 x2 x3 x4 x5 x6 y0 y1 y2 y3 y4 y5 y6 y7 y8 y9 fz ft hl hm hb ht hd hx
  refine (has_any t o p 2 _).mono ?_
  rw [H2.out]
  rintro e w2 ⟨rfl, hc2⟩
  have B2 := B1.chg hc2
  obtain ⟨hb, ht, hd, hx⟩ := B2.parts
  have x0 := hb.cell 0
  have x1 := hb.cell 1
  have x2 := hb.cell 2
  have x3 := hb.cell 3
  have x4 := hb.cell 4
  have x5 := hb.cell 5
  have x6 := hb.cell 6
  simp only [List.getElem?_toArray, List.getElem?_cons_succ, List.getElem?_cons_zero] at x0 x1 x2 x3 x4 x5 x6
  have y0 := ht.cell 0
  have y1 := ht.cell 1
  have y2 := ht.cell 2
  have y3 := ht.cell 3
  have y4 := ht.cell 4
  have y5 := ht.cell 5
  have y6 := ht.cell 6
  have y7 := ht.cell 7
  have y8 := ht.cell 8
  have y9 := ht.cell 9
  simp only [List.getElem?_toArray, List.getElem?_cons_succ, List.getElem?_cons_zero] at y0 y1 y2 y3 y4 y5 y6 y7 y8 y9
  have fz := hd.frozen
  have ft := hb.frozen
  have hl := hd.lt
  have hm := hb.lt
  go_wp2_with fail
  clear x0 x1 x2 x3 x4 x5 x6 y0 y1 y2 y3 y4 y5 y6 y7 y8 y9 fz ft hl hm hb ht hd hx
  refine (has_any t o p 16 _).mono ?_
  rw [H16.out]
  rintro e w3 ⟨rfl, hc3⟩
  have B3 := B2.chg hc3
  obtain ⟨hb, ht, hd, hx⟩ := B3.parts
  have x0 := hb.cell 0
  have x1 := hb.cell 1
  have x2 := hb.cell 2
  have x3 := hb.cell 3
  have x4 := hb.cell 4
  have x5 := hb.cell 5
  have x6 := hb.cell 6
  simp only [List.getElem?_toArray, List.getElem?_cons_succ, List.getElem?_cons_zero] at x0 x1 x2 x3 x4 x5 x6
  have y0 := ht.cell 0
  have y1 := ht.cell 1
  have y2 := ht.cell 2
  have y3 := ht.cell 3
  have y4 := ht.cell 4
  have y5 := ht.cell 5
  have y6 := ht.cell 6
  have y7 := ht.cell 7
  have y8 := ht.cell 8
  have y9 := ht.cell 9
  simp only [List.getElem?_toArray, List.getElem?_cons_succ, List.getElem?_cons_zero] at y0 y1 y2 y3 y4 y5 y6 y7 y8 y9
  have fz := hd.frozen
  have ft := hb.frozen
  have hl := hd.lt
  have hm := hb.lt
  go_wp2_with fail
  clear x0 x1 x2 x3 x4 x5 x6 y0 y1 y2 y3 y4 y5 y6 y7 y8 y9 fz ft hl hm hb ht hd hx
  refine (acked_any c t o p _).mono ?_
  rw [HA.out]
  rintro e w4 ⟨rfl, hc4⟩
  have B4 := B3.chg hc4
  unfold enC
  obtain ⟨hb, ht, hd, hx⟩ := B4.parts
  have x0 := hb.cell 0
  have x1 := hb.cell 1
  have x2 := hb.cell 2
  have x3 := hb.cell 3
  have x4 := hb.cell 4
  have x5 := hb.cell 5
  have x6 := hb.cell 6
  simp only [List.getElem?_toArray, List.getElem?_cons_succ, List.getElem?_cons_zero] at x0 x1 x2 x3 x4 x5 x6
  have y0 := ht.cell 0
  have y1 := ht.cell 1
  have y2 := ht.cell 2
  have y3 := ht.cell 3
  have y4 := ht.cell 4
  have y5 := ht.cell 5
  have y6 := ht.cell 6
  have y7 := ht.cell 7
  have y8 := ht.cell 8
  have y9 := ht.cell 9
  simp only [List.getElem?_toArray, List.getElem?_cons_succ, List.getElem?_cons_zero] at y0 y1 y2 y3 y4 y5 y6 y7 y8 y9
  have fz := hd.frozen
  have ft := hb.frozen
  have hl := hd.lt
  have hm := hb.lt
  go_wp2_with fail
  have B5 : TB w (w4.alloc (.cells (enC c') 46)) c ⟨0, 0, 0, 0, 0, 0, 0⟩ t o p := B4.chg ((Chg.refl _ _).alloc _)
  unfold enC at B5
  clear x0 x1 x2 x3 x4 x5 x6 y0 y1 y2 y3 y4 y5 y6 y7 y8 y9 fz ft hl hm hb ht hd hx
  generalize w4.alloc (.cells #[.int .i64 c'.st, .int .u32 c'.first, .int .u32 c'.own, .int .u32 c'.next, .int .u32 c'.sent, .int .i64 c'.got, .int .u32 c'.sum] 46) = W5 at *
  obtain ⟨hb, ht, hd, hx⟩ := B5.parts
  have x0 := hb.cell 0
  have x1 := hb.cell 1
  have x2 := hb.cell 2
  have x3 := hb.cell 3
  have x4 := hb.cell 4
  have x5 := hb.cell 5
  have x6 := hb.cell 6
  simp only [List.getElem?_toArray, List.getElem?_cons_succ, List.getElem?_cons_zero] at x0 x1 x2 x3 x4 x5 x6
  have y0 := ht.cell 0
  have y1 := ht.cell 1
  have y2 := ht.cell 2
  have y3 := ht.cell 3
  have y4 := ht.cell 4
  have y5 := ht.cell 5
  have y6 := ht.cell 6
  have y7 := ht.cell 7
  have y8 := ht.cell 8
  have y9 := ht.cell 9
  simp only [List.getElem?_toArray, List.getElem?_cons_succ, List.getElem?_cons_zero] at y0 y1 y2 y3 y4 y5 y6 y7 y8 y9
  have fz := hd.frozen
  have ft := hb.frozen
  have hl := hd.lt
  have hm := hb.lt
  go_cut [5] (fun v wx => SlT wx w.heap.size v [segF t.ack 0 4] ∧ Blk wx (w.heap.size + 1 + 1) 46 (enC (c)) ∧ Chg [] w wx)
  case first =>
    go_region_with
      (first | (go_at_call 43; refine (seg_any t.ack 0 4 _).mono ?_; rintro e w8 ⟨rfl, hc8⟩; have B8 := B5.drew.chg hc8; obtain ⟨qb, qt, qd, qx⟩ := B8.parts; have q0 := qb.cell 0; have q1 := qb.cell 1; have q2 := qb.cell 2; have q3 := qb.cell 3; have q4 := qb.cell 4; have q5 := qb.cell 5; have q6 := qb.cell 6; simp only [List.getElem?_toArray, List.getElem?_cons_succ, List.getElem?_cons_zero] at q0 q1 q2 q3 q4 q5 q6; have z0 := qt.cell 0; have z1 := qt.cell 1; have z2 := qt.cell 2; have z3 := qt.cell 3; have z4 := qt.cell 4; have z5 := qt.cell 5; have z6 := qt.cell 6; have z7 := qt.cell 7; have z8 := qt.cell 8; have z9 := qt.cell 9; simp only [List.getElem?_toArray, List.getElem?_cons_succ, List.getElem?_cons_zero] at z0 z1 z2 z3 z4 z5 z6 z7 z8 z9; have r0 := qd.cell 0; have r1 := qd.cell 1; have r2 := qd.cell 2; have r3 := qd.cell 3; have r4 := qd.cell 4; have r5 := qd.cell 5; have r6 := qd.cell 6; simp only [List.getElem?_toArray, List.getElem?_cons_succ, List.getElem?_cons_zero] at r0 r1 r2 r3 r4 r5 r6; have qf := qd.frozen; have ql := qd.lt; have qm := qb.lt; unfold enT))
    all_goals
      go_wp2_with fail
      go_meet
      have hst := Chg.setCells (g := w.heap.size + 1 + 1) (enC (c)).toList 0 (w := w8)
      have hz := B8.r.lt
      have hz0 := B8.c.size
      have hsz8 : (w8.setCells (w.heap.size + 1 + 1) 0 (enC (c)).toList).heap.size = w8.heap.size := by simp [World.setCells, World.setCell, enC]
      exact ⟨(one_seg' (w8.setCells (w.heap.size + 1 + 1) 0 (enC (c)).toList) (segF t.ack 0 4) hsz8.symm).less hz0, (Blk.setAll B8.r (enC (c)).toList rfl).alloc _, (B8.c.trans' hst (by simp <;> omega)).alloc _⟩
  case rest =>
    obtain ⟨hs9, hb9, hc9⟩ := hcut
    go_wp2_with fail
    first | rw [Exit.noGoto_ret] | rw [jump_ret]
    exact bodyPost_ret (results_blk2 rfl rfl hb9 _ Try.underlying46 rfl (by kernel_rfl)) rfl ⟨u5, rfl, hs9, hc9⟩

set_option maxRecDepth 20000 in
set_option maxHeartbeats 2000000 in
theorem take5 (c : CN) (t : TC) (o : Value) (A : Option Addr) (ca : Nat) (l : List Int) (w : World) (c' : CN) (sp : Int) (h : ¬ (c.st < 1 ∨ 4 < c.st)) (h4 : hasF t.flags 4 = false) (h2 : hasF t.flags 2 = false) (h16 : hasF t.flags 16 = true) (ha : ackedF c t = (c', true)) (hsp : spanF t.flags l.length = sp) (d3 : (sp == 0) = true) :
    Calls Try.prog 21 #[.agg (enC c), .agg (enT t o (.slice A l.length ca))] w fun e w' => e = .returned (.tuple #[.agg (enC c'), .slice none 0 0]) ∧ Chg [] w w' := by
  have d1 : decide (c.st < 1) = false := by simp; omega
  have d2 : decide (4 < c.st) = false := by simp; omega
  have H4 := Lib.hid h4
  have H2 := Lib.hid h2
  have H16 := Lib.hid h16
  have HA := Lib.hid ha
  have HSP := Lib.hid hsp
  have B0 := TB.start w c t o (.slice A l.length ca)
  clear h h4 h2 h16 ha hsp
  unfold enC enT
  go_enter Try.func21, Try.ntmps21
  go_wp2_with fail
  refine wp_scope_fwd 0 rfl ?_
  go_wp2_with fail
  refine (has_any t o (.slice A l.length ca) 4 _).mono ?_
  rw [H4.out]
  rintro e w1 ⟨rfl, hc1⟩
  have B1 := B0.chg hc1
  obtain ⟨hb, ht, hd, hx⟩ := B1.parts
  have x0 := hb.cell 0
  have x1 := hb.cell 1
  have x2 := hb.cell 2
  have x3 := hb.cell 3
  have x4 := hb.cell 4
  have x5 := hb.cell 5
  have x6 := hb.cell 6
  simp only [List.getElem?_toArray, List.getElem?_cons_succ, List.getElem?_cons_zero] at x0 x1 x2 x3 x4 x5 x6
  have y0 := ht.cell 0
  have y1 := ht.cell 1
  have y2 := ht.cell 2
  have y3 := ht.cell 3
  have y4 := ht.cell 4
  have y5 := ht.cell 5
  have y6 := ht.cell 6
  have y7 := ht.cell 7
  have y8 := ht.cell 8
  have y9 := ht.cell 9
  simp only [List.getElem?_toArray, List.getElem?_cons_succ, List.getElem?_cons_zero] at y0 y1 y2 y3 y4 y5 y6 y7 y8 y9
  have fz := hd.frozen
  have ft := hb.frozen
  have hl := hd.lt
  have hm := hb.lt
  go_wp2_with fail
  clear x0 x1 x2 x3 x4 x5 x6 y0 y1 y2 y3 y4 y5 y6 y7 y8 y9 fz ft hl hm hb ht hd hx
  refine (has_any t o (.slice A l.length ca) 2 _).mono ?_
  rw [H2.out]
  rintro e w2 ⟨rfl, hc2⟩
  have B2 := B1.chg hc2
  obtain ⟨hb, ht, hd, hx⟩ := B2.parts
  have x0 := hb.cell 0
  have x1 := hb.cell 1
  have x2 := hb.cell 2
  have x3 := hb.cell 3
  have x4 := hb.cell 4
  have x5 := hb.cell 5
  have x6 := hb.cell 6
  simp only [List.getElem?_toArray, List.getElem?_cons_succ, List.getElem?_cons_zero] at x0 x1 x2 x3 x4 x5 x6
  have y0 := ht.cell 0
  have y1 := ht.cell 1
  have y2 := ht.cell 2
  have y3 := ht.cell 3
  have y4 := ht.cell 4
  have y5 := ht.cell 5
  have y6 := ht.cell 6
  have y7 := ht.cell 7
  have y8 := ht.cell 8
  have y9 := ht.cell 9
  simp only [List.getElem?_toArray, List.getElem?_cons_succ, List.getElem?_cons_zero] at y0 y1 y2 y3 y4 y5 y6 y7 y8 y9
  have fz := hd.frozen
  have ft := hb.frozen
  have hl := hd.lt
  have hm := hb.lt
  go_wp2_with fail
  clear x0 x1 x2 x3 x4 x5 x6 y0 y1 y2 y3 y4 y5 y6 y7 y8 y9 fz ft hl hm hb ht hd hx
  refine (has_any t o (.slice A l.length ca) 16 _).mono ?_
  rw [H16.out]
  rintro e w3 ⟨rfl, hc3⟩
  have B3 := B2.chg hc3
  obtain ⟨hb, ht, hd, hx⟩ := B3.parts
  have x0 := hb.cell 0
  have x1 := hb.cell 1
  have x2 := hb.cell 2
  have x3 := hb.cell 3
  have x4 := hb.cell 4
  have x5 := hb.cell 5
  have x6 := hb.cell 6
  simp only [List.getElem?_toArray, List.getElem?_cons_succ, List.getElem?_cons_zero] at x0 x1 x2 x3 x4 x5 x6
  have y0 := ht.cell 0
  have y1 := ht.cell 1
  have y2 := ht.cell 2
  have y3 := ht.cell 3
  have y4 := ht.cell 4
  have y5 := ht.cell 5
  have y6 := ht.cell 6
  have y7 := ht.cell 7
  have y8 := ht.cell 8
  have y9 := ht.cell 9
  simp only [List.getElem?_toArray, List.getElem?_cons_succ, List.getElem?_cons_zero] at y0 y1 y2 y3 y4 y5 y6 y7 y8 y9
  have fz := hd.frozen
  have ft := hb.frozen
  have hl := hd.lt
  have hm := hb.lt
  go_wp2_with fail
  clear x0 x1 x2 x3 x4 x5 x6 y0 y1 y2 y3 y4 y5 y6 y7 y8 y9 fz ft hl hm hb ht hd hx
  refine (acked_any c t o (.slice A l.length ca) _).mono ?_
  rw [HA.out]
  rintro e w4 ⟨rfl, hc4⟩
  have B4 := B3.chg hc4
  unfold enC
  obtain ⟨hb, ht, hd, hx⟩ := B4.parts
  have x0 := hb.cell 0
  have x1 := hb.cell 1
  have x2 := hb.cell 2
  have x3 := hb.cell 3
  have x4 := hb.cell 4
  have x5 := hb.cell 5
  have x6 := hb.cell 6
  simp only [List.getElem?_toArray, List.getElem?_cons_succ, List.getElem?_cons_zero] at x0 x1 x2 x3 x4 x5 x6
  have y0 := ht.cell 0
  have y1 := ht.cell 1
  have y2 := ht.cell 2
  have y3 := ht.cell 3
  have y4 := ht.cell 4
  have y5 := ht.cell 5
  have y6 := ht.cell 6
  have y7 := ht.cell 7
  have y8 := ht.cell 8
  have y9 := ht.cell 9
  simp only [List.getElem?_toArray, List.getElem?_cons_succ, List.getElem?_cons_zero] at y0 y1 y2 y3 y4 y5 y6 y7 y8 y9
  have fz := hd.frozen
  have ft := hb.frozen
  have hl := hd.lt
  have hm := hb.lt
  go_wp2_with ((refine wpList_store_blk rfl 46 (.tmp 2) (.tmp 46) rfl rfl (B4.b.alloc _) rfl (vs := enC c') rfl rfl (by kernel_rfl) rfl ?_; intro w5 hb5 hc5; have B5 : TB w w5 c' ⟨0, 0, 0, 0, 0, 0, 0⟩ t o (.slice A l.length ca) := ⟨hb5, (B4.t.alloc _).chg hc5 (by simp <;> omega), (B4.r.alloc _).chg hc5 (by simp <;> omega), (B4.c.alloc _).trans' hc5 (by simp <;> omega)⟩; clear x0 x1 x2 x3 x4 x5 x6 y0 y1 y2 y3 y4 y5 y6 y7 y8 y9 fz ft hl hm hb ht hd hx; obtain ⟨qb, qt, qd, qx⟩ := B5.parts; have q0 := qb.cell 0; have q1 := qb.cell 1; have q2 := qb.cell 2; have q3 := qb.cell 3; have q4 := qb.cell 4; have q5 := qb.cell 5; have q6 := qb.cell 6; simp only [List.getElem?_toArray, List.getElem?_cons_succ, List.getElem?_cons_zero] at q0 q1 q2 q3 q4 q5 q6; have z0 := qt.cell 0; have z1 := qt.cell 1; have z2 := qt.cell 2; have z3 := qt.cell 3; have z4 := qt.cell 4; have z5 := qt.cell 5; have z6 := qt.cell 6; have z7 := qt.cell 7; have z8 := qt.cell 8; have z9 := qt.cell 9; simp only [List.getElem?_toArray, List.getElem?_cons_succ, List.getElem?_cons_zero] at z0 z1 z2 z3 z4 z5 z6 z7 z8 z9; have r0 := qd.cell 0; have r1 := qd.cell 1; have r2 := qd.cell 2; have r3 := qd.cell 3; have r4 := qd.cell 4; have r5 := qd.cell 5; have r6 := qd.cell 6; simp only [List.getElem?_toArray, List.getElem?_cons_succ, List.getElem?_cons_zero] at r0 r1 r2 r3 r4 r5 r6; have qf := qd.frozen; have ql := qd.lt; have qm := qb.lt))
  refine (span_any t o A l.length ca _).mono ?_
  rw [HSP.out]
  rintro e w6 ⟨rfl, hc6⟩
  have B6 := B5.chg hc6
  clear q0 q1 q2 q3 q4 q5 q6 z0 z1 z2 z3 z4 z5 z6 z7 z8 z9 r0 r1 r2 r3 r4 r5 r6 qf ql qm qb qt qd qx
  obtain ⟨hb, ht, hd, hx⟩ := B6.parts
  have x0 := hb.cell 0
  have x1 := hb.cell 1
  have x2 := hb.cell 2
  have x3 := hb.cell 3
  have x4 := hb.cell 4
  have x5 := hb.cell 5
  have x6 := hb.cell 6
  simp only [List.getElem?_toArray, List.getElem?_cons_succ, List.getElem?_cons_zero] at x0 x1 x2 x3 x4 x5 x6
  have y0 := ht.cell 0
  have y1 := ht.cell 1
  have y2 := ht.cell 2
  have y3 := ht.cell 3
  have y4 := ht.cell 4
  have y5 := ht.cell 5
  have y6 := ht.cell 6
  have y7 := ht.cell 7
  have y8 := ht.cell 8
  have y9 := ht.cell 9
  simp only [List.getElem?_toArray, List.getElem?_cons_succ, List.getElem?_cons_zero] at y0 y1 y2 y3 y4 y5 y6 y7 y8 y9
  have fz := hd.frozen
  have ft := hb.frozen
  have hl := hd.lt
  have hm := hb.lt
  go_wp2_with fail
  refine wp_goto ?_
  refine (⟨rfl, ?_⟩ : _ ∧ _)
  go_wp2_with (first | go_step3 | (refine wpList_store_blk rfl 46 (.tmp 4) (.tmp 79) rfl rfl B6.r rfl (vs := enC c') rfl rfl (by kernel_rfl) rfl ?_; intro w7 hb7 hc7))
  rw [Exit.noGoto_ret]
  exact bodyPost_ret (results_blk2 rfl rfl hb7 _ Try.underlying46 rfl (by kernel_rfl)) rfl ⟨rfl, B6.c.trans' hc7 (by simp <;> omega)⟩

set_option maxRecDepth 20000 in
set_option maxHeartbeats 2000000 in
theorem take6 (c : CN) (t : TC) (o : Value) (A : Option Addr) (ca : Nat) (l : List Int) (w : World) (c' : CN) (sp : Int) (h : ¬ (c.st < 1 ∨ 4 < c.st)) (h4 : hasF t.flags 4 = false) (h2 : hasF t.flags 2 = false) (h16 : hasF t.flags 16 = true) (ha : ackedF c t = (c', true)) (hsp : spanF t.flags l.length = sp) (d3 : (sp == 0) = false) (d4 : (c'.st == 2) = true) (d5 : (t.seq == c'.next) = true) (hp : SlB w 0 (.slice A l.length ca) l) (hlm : l.length ≤ 9223372036854775807) (hr : ∀ x ∈ l, 0 ≤ x ∧ x ≤ 255) (hg0 : 0 ≤ c'.got) (hg1 : c'.got + l.length ≤ 9223372036854775807) (hcs : 0 ≤ c'.sum ∧ c'.sum < 4294967296) :
    Calls Try.prog 21 #[.agg (enC c), .agg (enT t o (.slice A l.length ca))] w fun e w' => ∃ v, e = .returned (.tuple #[.agg (enC ((moreF c' t l).1)), v]) ∧ SlT w' w.heap.size v (moreF c' t l).2 ∧ Chg [] w w' := by
  have d1 : decide (c.st < 1) = false := by simp; omega
  have d2 : decide (4 < c.st) = false := by simp; omega
  have H4 := Lib.hid h4
  have H2 := Lib.hid h2
  have H16 := Lib.hid h16
  have HA := Lib.hid ha
  have HSP := Lib.hid hsp
  have B0 := TB.start w c t o (.slice A l.length ca)
  clear h h4 h2 h16 ha hsp
  unfold enC enT
  go_enter Try.func21, Try.ntmps21
  go_wp2_with fail
  refine wp_scope_fwd 0 rfl ?_
  go_wp2_with fail
  refine (has_any t o (.slice A l.length ca) 4 _).mono ?_
  rw [H4.out]
  rintro e w1 ⟨rfl, hc1⟩
  have B1 := B0.chg hc1
  obtain ⟨hb, ht, hd, hx⟩ := B1.parts
  have x0 := hb.cell 0
  have x1 := hb.cell 1
  have x2 := hb.cell 2
  have x3 := hb.cell 3
  have x4 := hb.cell 4
  have x5 := hb.cell 5
  have x6 := hb.cell 6
  simp only [List.getElem?_toArray, List.getElem?_cons_succ, List.getElem?_cons_zero] at x0 x1 x2 x3 x4 x5 x6
  have y0 := ht.cell 0
  have y1 := ht.cell 1
  have y2 := ht.cell 2
  have y3 := ht.cell 3
  have y4 := ht.cell 4
  have y5 := ht.cell 5
  have y6 := ht.cell 6
  have y7 := ht.cell 7
  have y8 := ht.cell 8
  have y9 := ht.cell 9
  simp only [List.getElem?_toArray, List.getElem?_cons_succ, List.getElem?_cons_zero] at y0 y1 y2 y3 y4 y5 y6 y7 y8 y9
  have fz := hd.frozen
  have ft := hb.frozen
  have hl := hd.lt
  have hm := hb.lt
  go_wp2_with fail
  clear x0 x1 x2 x3 x4 x5 x6 y0 y1 y2 y3 y4 y5 y6 y7 y8 y9 fz ft hl hm hb ht hd hx
  refine (has_any t o (.slice A l.length ca) 2 _).mono ?_
  rw [H2.out]
  rintro e w2 ⟨rfl, hc2⟩
  have B2 := B1.chg hc2
  obtain ⟨hb, ht, hd, hx⟩ := B2.parts
  have x0 := hb.cell 0
  have x1 := hb.cell 1
  have x2 := hb.cell 2
  have x3 := hb.cell 3
  have x4 := hb.cell 4
  have x5 := hb.cell 5
  have x6 := hb.cell 6
  simp only [List.getElem?_toArray, List.getElem?_cons_succ, List.getElem?_cons_zero] at x0 x1 x2 x3 x4 x5 x6
  have y0 := ht.cell 0
  have y1 := ht.cell 1
  have y2 := ht.cell 2
  have y3 := ht.cell 3
  have y4 := ht.cell 4
  have y5 := ht.cell 5
  have y6 := ht.cell 6
  have y7 := ht.cell 7
  have y8 := ht.cell 8
  have y9 := ht.cell 9
  simp only [List.getElem?_toArray, List.getElem?_cons_succ, List.getElem?_cons_zero] at y0 y1 y2 y3 y4 y5 y6 y7 y8 y9
  have fz := hd.frozen
  have ft := hb.frozen
  have hl := hd.lt
  have hm := hb.lt
  go_wp2_with fail
  clear x0 x1 x2 x3 x4 x5 x6 y0 y1 y2 y3 y4 y5 y6 y7 y8 y9 fz ft hl hm hb ht hd hx
  refine (has_any t o (.slice A l.length ca) 16 _).mono ?_
  rw [H16.out]
  rintro e w3 ⟨rfl, hc3⟩
  have B3 := B2.chg hc3
  obtain ⟨hb, ht, hd, hx⟩ := B3.parts
  have x0 := hb.cell 0
  have x1 := hb.cell 1
  have x2 := hb.cell 2
  have x3 := hb.cell 3
  have x4 := hb.cell 4
  have x5 := hb.cell 5
  have x6 := hb.cell 6
  simp only [List.getElem?_toArray, List.getElem?_cons_succ, List.getElem?_cons_zero] at x0 x1 x2 x3 x4 x5 x6
  have y0 := ht.cell 0
  have y1 := ht.cell 1
  have y2 := ht.cell 2
  have y3 := ht.cell 3
  have y4 := ht.cell 4
  have y5 := ht.cell 5
  have y6 := ht.cell 6
  have y7 := ht.cell 7
  have y8 := ht.cell 8
  have y9 := ht.cell 9
  simp only [List.getElem?_toArray, List.getElem?_cons_succ, List.getElem?_cons_zero] at y0 y1 y2 y3 y4 y5 y6 y7 y8 y9
  have fz := hd.frozen
  have ft := hb.frozen
  have hl := hd.lt
  have hm := hb.lt
  go_wp2_with fail
  clear x0 x1 x2 x3 x4 x5 x6 y0 y1 y2 y3 y4 y5 y6 y7 y8 y9 fz ft hl hm hb ht hd hx
  refine (acked_any c t o (.slice A l.length ca) _).mono ?_
  rw [HA.out]
  rintro e w4 ⟨rfl, hc4⟩
  have B4 := B3.chg hc4
  unfold enC
  obtain ⟨hb, ht, hd, hx⟩ := B4.parts
  have x0 := hb.cell 0
  have x1 := hb.cell 1
  have x2 := hb.cell 2
  have x3 := hb.cell 3
  have x4 := hb.cell 4
  have x5 := hb.cell 5
  have x6 := hb.cell 6
  simp only [List.getElem?_toArray, List.getElem?_cons_succ, List.getElem?_cons_zero] at x0 x1 x2 x3 x4 x5 x6
  have y0 := ht.cell 0
  have y1 := ht.cell 1
  have y2 := ht.cell 2
  have y3 := ht.cell 3
  have y4 := ht.cell 4
  have y5 := ht.cell 5
  have y6 := ht.cell 6
  have y7 := ht.cell 7
  have y8 := ht.cell 8
  have y9 := ht.cell 9
  simp only [List.getElem?_toArray, List.getElem?_cons_succ, List.getElem?_cons_zero] at y0 y1 y2 y3 y4 y5 y6 y7 y8 y9
  have fz := hd.frozen
  have ft := hb.frozen
  have hl := hd.lt
  have hm := hb.lt
  go_wp2_with ((refine wpList_store_blk rfl 46 (.tmp 2) (.tmp 46) rfl rfl (B4.b.alloc _) rfl (vs := enC c') rfl rfl (by kernel_rfl) rfl ?_; intro w5 hb5 hc5; have B5 : TB w w5 c' ⟨0, 0, 0, 0, 0, 0, 0⟩ t o (.slice A l.length ca) := ⟨hb5, (B4.t.alloc _).chg hc5 (by simp <;> omega), (B4.r.alloc _).chg hc5 (by simp <;> omega), (B4.c.alloc _).trans' hc5 (by simp <;> omega)⟩; clear x0 x1 x2 x3 x4 x5 x6 y0 y1 y2 y3 y4 y5 y6 y7 y8 y9 fz ft hl hm hb ht hd hx; obtain ⟨qb, qt, qd, qx⟩ := B5.parts; have q0 := qb.cell 0; have q1 := qb.cell 1; have q2 := qb.cell 2; have q3 := qb.cell 3; have q4 := qb.cell 4; have q5 := qb.cell 5; have q6 := qb.cell 6; simp only [List.getElem?_toArray, List.getElem?_cons_succ, List.getElem?_cons_zero] at q0 q1 q2 q3 q4 q5 q6; have z0 := qt.cell 0; have z1 := qt.cell 1; have z2 := qt.cell 2; have z3 := qt.cell 3; have z4 := qt.cell 4; have z5 := qt.cell 5; have z6 := qt.cell 6; have z7 := qt.cell 7; have z8 := qt.cell 8; have z9 := qt.cell 9; simp only [List.getElem?_toArray, List.getElem?_cons_succ, List.getElem?_cons_zero] at z0 z1 z2 z3 z4 z5 z6 z7 z8 z9; have r0 := qd.cell 0; have r1 := qd.cell 1; have r2 := qd.cell 2; have r3 := qd.cell 3; have r4 := qd.cell 4; have r5 := qd.cell 5; have r6 := qd.cell 6; simp only [List.getElem?_toArray, List.getElem?_cons_succ, List.getElem?_cons_zero] at r0 r1 r2 r3 r4 r5 r6; have qf := qd.frozen; have ql := qd.lt; have qm := qb.lt))
  refine (span_any t o A l.length ca _).mono ?_
  rw [HSP.out]
  rintro e w6 ⟨rfl, hc6⟩
  have B6 := B5.chg hc6
  clear q0 q1 q2 q3 q4 q5 q6 z0 z1 z2 z3 z4 z5 z6 z7 z8 z9 r0 r1 r2 r3 r4 r5 r6 qf ql qm qb qt qd qx
  obtain ⟨hb, ht, hd, hx⟩ := B6.parts
  have x0 := hb.cell 0
  have x1 := hb.cell 1
  have x2 := hb.cell 2
  have x3 := hb.cell 3
  have x4 := hb.cell 4
  have x5 := hb.cell 5
  have x6 := hb.cell 6
  simp only [List.getElem?_toArray, List.getElem?_cons_succ, List.getElem?_cons_zero] at x0 x1 x2 x3 x4 x5 x6
  have y0 := ht.cell 0
  have y1 := ht.cell 1
  have y2 := ht.cell 2
  have y3 := ht.cell 3
  have y4 := ht.cell 4
  have y5 := ht.cell 5
  have y6 := ht.cell 6
  have y7 := ht.cell 7
  have y8 := ht.cell 8
  have y9 := ht.cell 9
  simp only [List.getElem?_toArray, List.getElem?_cons_succ, List.getElem?_cons_zero] at y0 y1 y2 y3 y4 y5 y6 y7 y8 y9
  have fz := hd.frozen
  have ft := hb.frozen
  have hl := hd.lt
  have hm := hb.lt
  go_wp2_with fail
  have hsz6 := B6.c.size
  refine (more_any c' t o (.slice A l.length ca) l _ (Sl.chg0 hp B6.c) hlm hr hg0 hg1 hcs).mono ?_
  rintro e w7 ⟨v7, rfl, hs7, hc7⟩
  have B7 := B6.chg hc7
  go_wp2_with (refine wpList_store_blk rfl 46 (.tmp 4) (.tmp 65) rfl rfl B7.r rfl rfl rfl (by kernel_rfl) rfl ?_; intro w8 hb8 hc8)
  rw [jump_ret]
  have hz := B6.r.lt
  exact bodyPost_ret (results_blk2 rfl rfl hb8 _ Try.underlying46 rfl (by kernel_rfl)) rfl ⟨v7, rfl, (Sl.chg hs7 hc8 (by simp <;> omega)).less hsz6, B7.c.trans' hc8 (by simp <;> omega)⟩

set_option maxRecDepth 20000 in
set_option maxHeartbeats 2000000 in
theorem take7 (c : CN) (t : TC) (o : Value) (A : Option Addr) (ca : Nat) (l : List Int) (w : World) (c' : CN) (sp : Int) (h : ¬ (c.st < 1 ∨ 4 < c.st)) (h4 : hasF t.flags 4 = false) (h2 : hasF t.flags 2 = false) (h16 : hasF t.flags 16 = true) (ha : ackedF c t = (c', true)) (hsp : spanF t.flags l.length = sp) (d3 : (sp == 0) = false) (d4 : (c'.st == 2) = false) (d5 : (c'.st == 3) = true) :
    Calls Try.prog 21 #[.agg (enC c), .agg (enT t o (.slice A l.length ca))] w fun e w' => ∃ v, e = .returned (.tuple #[.agg (enC (c')), v]) ∧ SlT w' w.heap.size v [finF c'] ∧ Chg [] w w' := by
  have d1 : decide (c.st < 1) = false := by simp; omega
  have d2 : decide (4 < c.st) = false := by simp; omega
  have H4 := Lib.hid h4
  have H2 := Lib.hid h2
  have H16 := Lib.hid h16
  have HA := Lib.hid ha
  have HSP := Lib.hid hsp
  have B0 := TB.start w c t o (.slice A l.length ca)
  clear h h4 h2 h16 ha hsp
  unfold enC enT
  go_enter Try.func21, Try.ntmps21
  go_wp2_with fail
  refine wp_scope_fwd 0 rfl ?_
  go_wp2_with fail
  refine (has_any t o (.slice A l.length ca) 4 _).mono ?_
  rw [H4.out]
  rintro e w1 ⟨rfl, hc1⟩
  have B1 := B0.chg hc1
  obtain ⟨hb, ht, hd, hx⟩ := B1.parts
  have x0 := hb.cell 0
  have x1 := hb.cell 1
  have x2 := hb.cell 2
  have x3 := hb.cell 3
  have x4 := hb.cell 4
  have x5 := hb.cell 5
  have x6 := hb.cell 6
  simp only [List.getElem?_toArray, List.getElem?_cons_succ, List.getElem?_cons_zero] at x0 x1 x2 x3 x4 x5 x6
  have y0 := ht.cell 0
  have y1 := ht.cell 1
  have y2 := ht.cell 2
  have y3 := ht.cell 3
  have y4 := ht.cell 4
  have y5 := ht.cell 5
  have y6 := ht.cell 6
  have y7 := ht.cell 7
  have y8 := ht.cell 8
  have y9 := ht.cell 9
  simp only [List.getElem?_toArray, List.getElem?_cons_succ, List.getElem?_cons_zero] at y0 y1 y2 y3 y4 y5 y6 y7 y8 y9
  have fz := hd.frozen
  have ft := hb.frozen
  have hl := hd.lt
  have hm := hb.lt
  go_wp2_with fail
  clear x0 x1 x2 x3 x4 x5 x6 y0 y1 y2 y3 y4 y5 y6 y7 y8 y9 fz ft hl hm hb ht hd hx
  refine (has_any t o (.slice A l.length ca) 2 _).mono ?_
  rw [H2.out]
  rintro e w2 ⟨rfl, hc2⟩
  have B2 := B1.chg hc2
  obtain ⟨hb, ht, hd, hx⟩ := B2.parts
  have x0 := hb.cell 0
  have x1 := hb.cell 1
  have x2 := hb.cell 2
  have x3 := hb.cell 3
  have x4 := hb.cell 4
  have x5 := hb.cell 5
  have x6 := hb.cell 6
  simp only [List.getElem?_toArray, List.getElem?_cons_succ, List.getElem?_cons_zero] at x0 x1 x2 x3 x4 x5 x6
  have y0 := ht.cell 0
  have y1 := ht.cell 1
  have y2 := ht.cell 2
  have y3 := ht.cell 3
  have y4 := ht.cell 4
  have y5 := ht.cell 5
  have y6 := ht.cell 6
  have y7 := ht.cell 7
  have y8 := ht.cell 8
  have y9 := ht.cell 9
  simp only [List.getElem?_toArray, List.getElem?_cons_succ, List.getElem?_cons_zero] at y0 y1 y2 y3 y4 y5 y6 y7 y8 y9
  have fz := hd.frozen
  have ft := hb.frozen
  have hl := hd.lt
  have hm := hb.lt
  go_wp2_with fail
  clear x0 x1 x2 x3 x4 x5 x6 y0 y1 y2 y3 y4 y5 y6 y7 y8 y9 fz ft hl hm hb ht hd hx
  refine (has_any t o (.slice A l.length ca) 16 _).mono ?_
  rw [H16.out]
  rintro e w3 ⟨rfl, hc3⟩
  have B3 := B2.chg hc3
  obtain ⟨hb, ht, hd, hx⟩ := B3.parts
  have x0 := hb.cell 0
  have x1 := hb.cell 1
  have x2 := hb.cell 2
  have x3 := hb.cell 3
  have x4 := hb.cell 4
  have x5 := hb.cell 5
  have x6 := hb.cell 6
  simp only [List.getElem?_toArray, List.getElem?_cons_succ, List.getElem?_cons_zero] at x0 x1 x2 x3 x4 x5 x6
  have y0 := ht.cell 0
  have y1 := ht.cell 1
  have y2 := ht.cell 2
  have y3 := ht.cell 3
  have y4 := ht.cell 4
  have y5 := ht.cell 5
  have y6 := ht.cell 6
  have y7 := ht.cell 7
  have y8 := ht.cell 8
  have y9 := ht.cell 9
  simp only [List.getElem?_toArray, List.getElem?_cons_succ, List.getElem?_cons_zero] at y0 y1 y2 y3 y4 y5 y6 y7 y8 y9
  have fz := hd.frozen
  have ft := hb.frozen
  have hl := hd.lt
  have hm := hb.lt
  go_wp2_with fail
  clear x0 x1 x2 x3 x4 x5 x6 y0 y1 y2 y3 y4 y5 y6 y7 y8 y9 fz ft hl hm hb ht hd hx
  refine (acked_any c t o (.slice A l.length ca) _).mono ?_
  rw [HA.out]
  rintro e w4 ⟨rfl, hc4⟩
  have B4 := B3.chg hc4
  unfold enC
  obtain ⟨hb, ht, hd, hx⟩ := B4.parts
  have x0 := hb.cell 0
  have x1 := hb.cell 1
  have x2 := hb.cell 2
  have x3 := hb.cell 3
  have x4 := hb.cell 4
  have x5 := hb.cell 5
  have x6 := hb.cell 6
  simp only [List.getElem?_toArray, List.getElem?_cons_succ, List.getElem?_cons_zero] at x0 x1 x2 x3 x4 x5 x6
  have y0 := ht.cell 0
  have y1 := ht.cell 1
  have y2 := ht.cell 2
  have y3 := ht.cell 3
  have y4 := ht.cell 4
  have y5 := ht.cell 5
  have y6 := ht.cell 6
  have y7 := ht.cell 7
  have y8 := ht.cell 8
  have y9 := ht.cell 9
  simp only [List.getElem?_toArray, List.getElem?_cons_succ, List.getElem?_cons_zero] at y0 y1 y2 y3 y4 y5 y6 y7 y8 y9
  have fz := hd.frozen
  have ft := hb.frozen
  have hl := hd.lt
  have hm := hb.lt
  go_wp2_with ((refine wpList_store_blk rfl 46 (.tmp 2) (.tmp 46) rfl rfl (B4.b.alloc _) rfl (vs := enC c') rfl rfl (by kernel_rfl) rfl ?_; intro w5 hb5 hc5; have B5 : TB w w5 c' ⟨0, 0, 0, 0, 0, 0, 0⟩ t o (.slice A l.length ca) := ⟨hb5, (B4.t.alloc _).chg hc5 (by simp <;> omega), (B4.r.alloc _).chg hc5 (by simp <;> omega), (B4.c.alloc _).trans' hc5 (by simp <;> omega)⟩; clear x0 x1 x2 x3 x4 x5 x6 y0 y1 y2 y3 y4 y5 y6 y7 y8 y9 fz ft hl hm hb ht hd hx; obtain ⟨qb, qt, qd, qx⟩ := B5.parts; have q0 := qb.cell 0; have q1 := qb.cell 1; have q2 := qb.cell 2; have q3 := qb.cell 3; have q4 := qb.cell 4; have q5 := qb.cell 5; have q6 := qb.cell 6; simp only [List.getElem?_toArray, List.getElem?_cons_succ, List.getElem?_cons_zero] at q0 q1 q2 q3 q4 q5 q6; have z0 := qt.cell 0; have z1 := qt.cell 1; have z2 := qt.cell 2; have z3 := qt.cell 3; have z4 := qt.cell 4; have z5 := qt.cell 5; have z6 := qt.cell 6; have z7 := qt.cell 7; have z8 := qt.cell 8; have z9 := qt.cell 9; simp only [List.getElem?_toArray, List.getElem?_cons_succ, List.getElem?_cons_zero] at z0 z1 z2 z3 z4 z5 z6 z7 z8 z9; have r0 := qd.cell 0; have r1 := qd.cell 1; have r2 := qd.cell 2; have r3 := qd.cell 3; have r4 := qd.cell 4; have r5 := qd.cell 5; have r6 := qd.cell 6; simp only [List.getElem?_toArray, List.getElem?_cons_succ, List.getElem?_cons_zero] at r0 r1 r2 r3 r4 r5 r6; have qf := qd.frozen; have ql := qd.lt; have qm := qb.lt))
  refine (span_any t o A l.length ca _).mono ?_
  rw [HSP.out]
  rintro e w6 ⟨rfl, hc6⟩
  have B6 := B5.chg hc6
  clear q0 q1 q2 q3 q4 q5 q6 z0 z1 z2 z3 z4 z5 z6 z7 z8 z9 r0 r1 r2 r3 r4 r5 r6 qf ql qm qb qt qd qx
  obtain ⟨hb, ht, hd, hx⟩ := B6.parts
  have x0 := hb.cell 0
  have x1 := hb.cell 1
  have x2 := hb.cell 2
  have x3 := hb.cell 3
  have x4 := hb.cell 4
  have x5 := hb.cell 5
  have x6 := hb.cell 6
  simp only [List.getElem?_toArray, List.getElem?_cons_succ, List.getElem?_cons_zero] at x0 x1 x2 x3 x4 x5 x6
  have y0 := ht.cell 0
  have y1 := ht.cell 1
  have y2 := ht.cell 2
  have y3 := ht.cell 3
  have y4 := ht.cell 4
  have y5 := ht.cell 5
  have y6 := ht.cell 6
  have y7 := ht.cell 7
  have y8 := ht.cell 8
  have y9 := ht.cell 9
  simp only [List.getElem?_toArray, List.getElem?_cons_succ, List.getElem?_cons_zero] at y0 y1 y2 y3 y4 y5 y6 y7 y8 y9
  have fz := hd.frozen
  have ft := hb.frozen
  have hl := hd.lt
  have hm := hb.lt
  go_wp2_with fail
  go_cut [5] (fun v wx => SlT wx w.heap.size v [finF c'] ∧ Blk wx (w.heap.size + 1 + 1) 46 (enC (c')) ∧ Chg [] w wx)
  case first =>
    go_region_with
      (first | (go_at_call 33; refine (fin_any c' _).mono ?_; rintro e w8 ⟨rfl, hc8⟩; have B8 := B6.drew.chg hc8; obtain ⟨qb, qt, qd, qx⟩ := B8.parts; have q0 := qb.cell 0; have q1 := qb.cell 1; have q2 := qb.cell 2; have q3 := qb.cell 3; have q4 := qb.cell 4; have q5 := qb.cell 5; have q6 := qb.cell 6; simp only [List.getElem?_toArray, List.getElem?_cons_succ, List.getElem?_cons_zero] at q0 q1 q2 q3 q4 q5 q6; have z0 := qt.cell 0; have z1 := qt.cell 1; have z2 := qt.cell 2; have z3 := qt.cell 3; have z4 := qt.cell 4; have z5 := qt.cell 5; have z6 := qt.cell 6; have z7 := qt.cell 7; have z8 := qt.cell 8; have z9 := qt.cell 9; simp only [List.getElem?_toArray, List.getElem?_cons_succ, List.getElem?_cons_zero] at z0 z1 z2 z3 z4 z5 z6 z7 z8 z9; have r0 := qd.cell 0; have r1 := qd.cell 1; have r2 := qd.cell 2; have r3 := qd.cell 3; have r4 := qd.cell 4; have r5 := qd.cell 5; have r6 := qd.cell 6; simp only [List.getElem?_toArray, List.getElem?_cons_succ, List.getElem?_cons_zero] at r0 r1 r2 r3 r4 r5 r6; have qf := qd.frozen; have ql := qd.lt; have qm := qb.lt; unfold enT))
    all_goals
      go_wp2_with fail
      go_meet
      have hst := Chg.setCells (g := w.heap.size + 1 + 1) (enC (c')).toList 0 (w := w8)
      have hz := B8.r.lt
      have hz0 := B8.c.size
      have hsz8 : (w8.setCells (w.heap.size + 1 + 1) 0 (enC (c')).toList).heap.size = w8.heap.size := by simp [World.setCells, World.setCell, enC]
      exact ⟨(one_seg' (w8.setCells (w.heap.size + 1 + 1) 0 (enC (c')).toList) (finF c') hsz8.symm).less hz0, (Blk.setAll B8.r (enC (c')).toList rfl).alloc _, (B8.c.trans' hst (by simp <;> omega)).alloc _⟩
  case rest =>
    obtain ⟨hs9, hb9, hc9⟩ := hcut
    go_wp2_with fail
    first | rw [Exit.noGoto_ret] | rw [jump_ret]
    exact bodyPost_ret (results_blk2 rfl rfl hb9 _ Try.underlying46 rfl (by kernel_rfl)) rfl ⟨u5, rfl, hs9, hc9⟩

set_option maxRecDepth 20000 in
set_option maxHeartbeats 2000000 in
theorem take8 (c : CN) (t : TC) (o : Value) (A : Option Addr) (ca : Nat) (l : List Int) (w : World) (c' : CN) (sp : Int) (h : ¬ (c.st < 1 ∨ 4 < c.st)) (h4 : hasF t.flags 4 = false) (h2 : hasF t.flags 2 = false) (h16 : hasF t.flags 16 = true) (ha : ackedF c t = (c', true)) (hsp : spanF t.flags l.length = sp) (d3 : (sp == 0) = false) (d4 : (c'.st == 2) = false) (d5 : (c'.st == 3) = false) :
    Calls Try.prog 21 #[.agg (enC c), .agg (enT t o (.slice A l.length ca))] w fun e w' => ∃ v, e = .returned (.tuple #[.agg (enC (c')), v]) ∧ SlT w' w.heap.size v [bareF c'] ∧ Chg [] w w' := by
  have d1 : decide (c.st < 1) = false := by simp; omega
  have d2 : decide (4 < c.st) = false := by simp; omega
  have H4 := Lib.hid h4
  have H2 := Lib.hid h2
  have H16 := Lib.hid h16
  have HA := Lib.hid ha
  have HSP := Lib.hid hsp
  have B0 := TB.start w c t o (.slice A l.length ca)
  clear h h4 h2 h16 ha hsp
  unfold enC enT
  go_enter Try.func21, Try.ntmps21
  go_wp2_with fail
  refine wp_scope_fwd 0 rfl ?_
  go_wp2_with fail
  refine (has_any t o (.slice A l.length ca) 4 _).mono ?_
  rw [H4.out]
  rintro e w1 ⟨rfl, hc1⟩
  have B1 := B0.chg hc1
  obtain ⟨hb, ht, hd, hx⟩ := B1.parts
  have x0 := hb.cell 0
  have x1 := hb.cell 1
  have x2 := hb.cell 2
  have x3 := hb.cell 3
  have x4 := hb.cell 4
  have x5 := hb.cell 5
  have x6 := hb.cell 6
  simp only [List.getElem?_toArray, List.getElem?_cons_succ, List.getElem?_cons_zero] at x0 x1 x2 x3 x4 x5 x6
  have y0 := ht.cell 0
  have y1 := ht.cell 1
  have y2 := ht.cell 2
  have y3 := ht.cell 3
  have y4 := ht.cell 4
  have y5 := ht.cell 5
  have y6 := ht.cell 6
  have y7 := ht.cell 7
  have y8 := ht.cell 8
  have y9 := ht.cell 9
  simp only [List.getElem?_toArray, List.getElem?_cons_succ, List.getElem?_cons_zero] at y0 y1 y2 y3 y4 y5 y6 y7 y8 y9
  have fz := hd.frozen
  have ft := hb.frozen
  have hl := hd.lt
  have hm := hb.lt
  go_wp2_with fail
  clear x0 x1 x2 x3 x4 x5 x6 y0 y1 y2 y3 y4 y5 y6 y7 y8 y9 fz ft hl hm hb ht hd hx
  refine (has_any t o (.slice A l.length ca) 2 _).mono ?_
  rw [H2.out]
  rintro e w2 ⟨rfl, hc2⟩
  have B2 := B1.chg hc2
  obtain ⟨hb, ht, hd, hx⟩ := B2.parts
  have x0 := hb.cell 0
  have x1 := hb.cell 1
  have x2 := hb.cell 2
  have x3 := hb.cell 3
  have x4 := hb.cell 4
  have x5 := hb.cell 5
  have x6 := hb.cell 6
  simp only [List.getElem?_toArray, List.getElem?_cons_succ, List.getElem?_cons_zero] at x0 x1 x2 x3 x4 x5 x6
  have y0 := ht.cell 0
  have y1 := ht.cell 1
  have y2 := ht.cell 2
  have y3 := ht.cell 3
  have y4 := ht.cell 4
  have y5 := ht.cell 5
  have y6 := ht.cell 6
  have y7 := ht.cell 7
  have y8 := ht.cell 8
  have y9 := ht.cell 9
  simp only [List.getElem?_toArray, List.getElem?_cons_succ, List.getElem?_cons_zero] at y0 y1 y2 y3 y4 y5 y6 y7 y8 y9
  have fz := hd.frozen
  have ft := hb.frozen
  have hl := hd.lt
  have hm := hb.lt
  go_wp2_with fail
  clear x0 x1 x2 x3 x4 x5 x6 y0 y1 y2 y3 y4 y5 y6 y7 y8 y9 fz ft hl hm hb ht hd hx
  refine (has_any t o (.slice A l.length ca) 16 _).mono ?_
  rw [H16.out]
  rintro e w3 ⟨rfl, hc3⟩
  have B3 := B2.chg hc3
  obtain ⟨hb, ht, hd, hx⟩ := B3.parts
  have x0 := hb.cell 0
  have x1 := hb.cell 1
  have x2 := hb.cell 2
  have x3 := hb.cell 3
  have x4 := hb.cell 4
  have x5 := hb.cell 5
  have x6 := hb.cell 6
  simp only [List.getElem?_toArray, List.getElem?_cons_succ, List.getElem?_cons_zero] at x0 x1 x2 x3 x4 x5 x6
  have y0 := ht.cell 0
  have y1 := ht.cell 1
  have y2 := ht.cell 2
  have y3 := ht.cell 3
  have y4 := ht.cell 4
  have y5 := ht.cell 5
  have y6 := ht.cell 6
  have y7 := ht.cell 7
  have y8 := ht.cell 8
  have y9 := ht.cell 9
  simp only [List.getElem?_toArray, List.getElem?_cons_succ, List.getElem?_cons_zero] at y0 y1 y2 y3 y4 y5 y6 y7 y8 y9
  have fz := hd.frozen
  have ft := hb.frozen
  have hl := hd.lt
  have hm := hb.lt
  go_wp2_with fail
  clear x0 x1 x2 x3 x4 x5 x6 y0 y1 y2 y3 y4 y5 y6 y7 y8 y9 fz ft hl hm hb ht hd hx
  refine (acked_any c t o (.slice A l.length ca) _).mono ?_
  rw [HA.out]
  rintro e w4 ⟨rfl, hc4⟩
  have B4 := B3.chg hc4
  unfold enC
  obtain ⟨hb, ht, hd, hx⟩ := B4.parts
  have x0 := hb.cell 0
  have x1 := hb.cell 1
  have x2 := hb.cell 2
  have x3 := hb.cell 3
  have x4 := hb.cell 4
  have x5 := hb.cell 5
  have x6 := hb.cell 6
  simp only [List.getElem?_toArray, List.getElem?_cons_succ, List.getElem?_cons_zero] at x0 x1 x2 x3 x4 x5 x6
  have y0 := ht.cell 0
  have y1 := ht.cell 1
  have y2 := ht.cell 2
  have y3 := ht.cell 3
  have y4 := ht.cell 4
  have y5 := ht.cell 5
  have y6 := ht.cell 6
  have y7 := ht.cell 7
  have y8 := ht.cell 8
  have y9 := ht.cell 9
  simp only [List.getElem?_toArray, List.getElem?_cons_succ, List.getElem?_cons_zero] at y0 y1 y2 y3 y4 y5 y6 y7 y8 y9
  have fz := hd.frozen
  have ft := hb.frozen
  have hl := hd.lt
  have hm := hb.lt
  go_wp2_with ((refine wpList_store_blk rfl 46 (.tmp 2) (.tmp 46) rfl rfl (B4.b.alloc _) rfl (vs := enC c') rfl rfl (by kernel_rfl) rfl ?_; intro w5 hb5 hc5; have B5 : TB w w5 c' ⟨0, 0, 0, 0, 0, 0, 0⟩ t o (.slice A l.length ca) := ⟨hb5, (B4.t.alloc _).chg hc5 (by simp <;> omega), (B4.r.alloc _).chg hc5 (by simp <;> omega), (B4.c.alloc _).trans' hc5 (by simp <;> omega)⟩; clear x0 x1 x2 x3 x4 x5 x6 y0 y1 y2 y3 y4 y5 y6 y7 y8 y9 fz ft hl hm hb ht hd hx; obtain ⟨qb, qt, qd, qx⟩ := B5.parts; have q0 := qb.cell 0; have q1 := qb.cell 1; have q2 := qb.cell 2; have q3 := qb.cell 3; have q4 := qb.cell 4; have q5 := qb.cell 5; have q6 := qb.cell 6; simp only [List.getElem?_toArray, List.getElem?_cons_succ, List.getElem?_cons_zero] at q0 q1 q2 q3 q4 q5 q6; have z0 := qt.cell 0; have z1 := qt.cell 1; have z2 := qt.cell 2; have z3 := qt.cell 3; have z4 := qt.cell 4; have z5 := qt.cell 5; have z6 := qt.cell 6; have z7 := qt.cell 7; have z8 := qt.cell 8; have z9 := qt.cell 9; simp only [List.getElem?_toArray, List.getElem?_cons_succ, List.getElem?_cons_zero] at z0 z1 z2 z3 z4 z5 z6 z7 z8 z9; have r0 := qd.cell 0; have r1 := qd.cell 1; have r2 := qd.cell 2; have r3 := qd.cell 3; have r4 := qd.cell 4; have r5 := qd.cell 5; have r6 := qd.cell 6; simp only [List.getElem?_toArray, List.getElem?_cons_succ, List.getElem?_cons_zero] at r0 r1 r2 r3 r4 r5 r6; have qf := qd.frozen; have ql := qd.lt; have qm := qb.lt))
  refine (span_any t o A l.length ca _).mono ?_
  rw [HSP.out]
  rintro e w6 ⟨rfl, hc6⟩
  have B6 := B5.chg hc6
  clear q0 q1 q2 q3 q4 q5 q6 z0 z1 z2 z3 z4 z5 z6 z7 z8 z9 r0 r1 r2 r3 r4 r5 r6 qf ql qm qb qt qd qx
  obtain ⟨hb, ht, hd, hx⟩ := B6.parts
  have x0 := hb.cell 0
  have x1 := hb.cell 1
  have x2 := hb.cell 2
  have x3 := hb.cell 3
  have x4 := hb.cell 4
  have x5 := hb.cell 5
  have x6 := hb.cell 6
  simp only [List.getElem?_toArray, List.getElem?_cons_succ, List.getElem?_cons_zero] at x0 x1 x2 x3 x4 x5 x6
  have y0 := ht.cell 0
  have y1 := ht.cell 1
  have y2 := ht.cell 2
  have y3 := ht.cell 3
  have y4 := ht.cell 4
  have y5 := ht.cell 5
  have y6 := ht.cell 6
  have y7 := ht.cell 7
  have y8 := ht.cell 8
  have y9 := ht.cell 9
  simp only [List.getElem?_toArray, List.getElem?_cons_succ, List.getElem?_cons_zero] at y0 y1 y2 y3 y4 y5 y6 y7 y8 y9
  have fz := hd.frozen
  have ft := hb.frozen
  have hl := hd.lt
  have hm := hb.lt
  go_wp2_with fail
  go_cut [5] (fun v wx => SlT wx w.heap.size v [bareF c'] ∧ Blk wx (w.heap.size + 1 + 1) 46 (enC (c')) ∧ Chg [] w wx)
  case first =>
    go_region_with
      (first | (go_at_call 31; refine (bare_any c' _).mono ?_; rintro e w8 ⟨rfl, hc8⟩; have B8 := B6.drew.chg hc8; obtain ⟨qb, qt, qd, qx⟩ := B8.parts; have q0 := qb.cell 0; have q1 := qb.cell 1; have q2 := qb.cell 2; have q3 := qb.cell 3; have q4 := qb.cell 4; have q5 := qb.cell 5; have q6 := qb.cell 6; simp only [List.getElem?_toArray, List.getElem?_cons_succ, List.getElem?_cons_zero] at q0 q1 q2 q3 q4 q5 q6; have z0 := qt.cell 0; have z1 := qt.cell 1; have z2 := qt.cell 2; have z3 := qt.cell 3; have z4 := qt.cell 4; have z5 := qt.cell 5; have z6 := qt.cell 6; have z7 := qt.cell 7; have z8 := qt.cell 8; have z9 := qt.cell 9; simp only [List.getElem?_toArray, List.getElem?_cons_succ, List.getElem?_cons_zero] at z0 z1 z2 z3 z4 z5 z6 z7 z8 z9; have r0 := qd.cell 0; have r1 := qd.cell 1; have r2 := qd.cell 2; have r3 := qd.cell 3; have r4 := qd.cell 4; have r5 := qd.cell 5; have r6 := qd.cell 6; simp only [List.getElem?_toArray, List.getElem?_cons_succ, List.getElem?_cons_zero] at r0 r1 r2 r3 r4 r5 r6; have qf := qd.frozen; have ql := qd.lt; have qm := qb.lt; unfold enT))
    all_goals
      go_wp2_with fail
      go_meet
      have hst := Chg.setCells (g := w.heap.size + 1 + 1) (enC (c')).toList 0 (w := w8)
      have hz := B8.r.lt
      have hz0 := B8.c.size
      have hsz8 : (w8.setCells (w.heap.size + 1 + 1) 0 (enC (c')).toList).heap.size = w8.heap.size := by simp [World.setCells, World.setCell, enC]
      exact ⟨(one_seg' (w8.setCells (w.heap.size + 1 + 1) 0 (enC (c')).toList) (bareF c') hsz8.symm).less hz0, (Blk.setAll B8.r (enC (c')).toList rfl).alloc _, (B8.c.trans' hst (by simp <;> omega)).alloc _⟩
  case rest =>
    obtain ⟨hs9, hb9, hc9⟩ := hcut
    go_wp2_with fail
    first | rw [Exit.noGoto_ret] | rw [jump_ret]
    exact bodyPost_ret (results_blk2 rfl rfl hb9 _ Try.underlying46 rfl (by kernel_rfl)) rfl ⟨u5, rfl, hs9, hc9⟩

set_option maxRecDepth 20000 in
set_option maxHeartbeats 2000000 in
theorem take9 (c : CN) (t : TC) (o : Value) (A : Option Addr) (ca : Nat) (l : List Int) (w : World) (c' : CN) (sp : Int) (h : ¬ (c.st < 1 ∨ 4 < c.st)) (h4 : hasF t.flags 4 = false) (h2 : hasF t.flags 2 = false) (h16 : hasF t.flags 16 = true) (ha : ackedF c t = (c', true)) (hsp : spanF t.flags l.length = sp) (d3 : (sp == 0) = false) (d4 : (c'.st == 2) = true) (d5 : (t.seq == c'.next) = false) (d6 : (c'.st == 3) = false) :
    Calls Try.prog 21 #[.agg (enC c), .agg (enT t o (.slice A l.length ca))] w fun e w' => ∃ v, e = .returned (.tuple #[.agg (enC (c')), v]) ∧ SlT w' w.heap.size v [bareF c'] ∧ Chg [] w w' := by
  have d1 : decide (c.st < 1) = false := by simp; omega
  have d2 : decide (4 < c.st) = false := by simp; omega
  have H4 := Lib.hid h4
  have H2 := Lib.hid h2
  have H16 := Lib.hid h16
  have HA := Lib.hid ha
  have HSP := Lib.hid hsp
  have B0 := TB.start w c t o (.slice A l.length ca)
  clear h h4 h2 h16 ha hsp
  unfold enC enT
  go_enter Try.func21, Try.ntmps21
  go_wp2_with fail
  refine wp_scope_fwd 0 rfl ?_
  go_wp2_with fail
  refine (has_any t o (.slice A l.length ca) 4 _).mono ?_
  rw [H4.out]
  rintro e w1 ⟨rfl, hc1⟩
  have B1 := B0.chg hc1
  obtain ⟨hb, ht, hd, hx⟩ := B1.parts
  have x0 := hb.cell 0
  have x1 := hb.cell 1
  have x2 := hb.cell 2
  have x3 := hb.cell 3
  have x4 := hb.cell 4
  have x5 := hb.cell 5
  have x6 := hb.cell 6
  simp only [List.getElem?_toArray, List.getElem?_cons_succ, List.getElem?_cons_zero] at x0 x1 x2 x3 x4 x5 x6
  have y0 := ht.cell 0
  have y1 := ht.cell 1
  have y2 := ht.cell 2
  have y3 := ht.cell 3
  have y4 := ht.cell 4
  have y5 := ht.cell 5
  have y6 := ht.cell 6
  have y7 := ht.cell 7
  have y8 := ht.cell 8
  have y9 := ht.cell 9
  simp only [List.getElem?_toArray, List.getElem?_cons_succ, List.getElem?_cons_zero] at y0 y1 y2 y3 y4 y5 y6 y7 y8 y9
  have fz := hd.frozen
  have ft := hb.frozen
  have hl := hd.lt
  have hm := hb.lt
  go_wp2_with fail
  clear x0 x1 x2 x3 x4 x5 x6 y0 y1 y2 y3 y4 y5 y6 y7 y8 y9 fz ft hl hm hb ht hd hx
  refine (has_any t o (.slice A l.length ca) 2 _).mono ?_
  rw [H2.out]
  rintro e w2 ⟨rfl, hc2⟩
  have B2 := B1.chg hc2
  obtain ⟨hb, ht, hd, hx⟩ := B2.parts
  have x0 := hb.cell 0
  have x1 := hb.cell 1
  have x2 := hb.cell 2
  have x3 := hb.cell 3
  have x4 := hb.cell 4
  have x5 := hb.cell 5
  have x6 := hb.cell 6
  simp only [List.getElem?_toArray, List.getElem?_cons_succ, List.getElem?_cons_zero] at x0 x1 x2 x3 x4 x5 x6
  have y0 := ht.cell 0
  have y1 := ht.cell 1
  have y2 := ht.cell 2
  have y3 := ht.cell 3
  have y4 := ht.cell 4
  have y5 := ht.cell 5
  have y6 := ht.cell 6
  have y7 := ht.cell 7
  have y8 := ht.cell 8
  have y9 := ht.cell 9
  simp only [List.getElem?_toArray, List.getElem?_cons_succ, List.getElem?_cons_zero] at y0 y1 y2 y3 y4 y5 y6 y7 y8 y9
  have fz := hd.frozen
  have ft := hb.frozen
  have hl := hd.lt
  have hm := hb.lt
  go_wp2_with fail
  clear x0 x1 x2 x3 x4 x5 x6 y0 y1 y2 y3 y4 y5 y6 y7 y8 y9 fz ft hl hm hb ht hd hx
  refine (has_any t o (.slice A l.length ca) 16 _).mono ?_
  rw [H16.out]
  rintro e w3 ⟨rfl, hc3⟩
  have B3 := B2.chg hc3
  obtain ⟨hb, ht, hd, hx⟩ := B3.parts
  have x0 := hb.cell 0
  have x1 := hb.cell 1
  have x2 := hb.cell 2
  have x3 := hb.cell 3
  have x4 := hb.cell 4
  have x5 := hb.cell 5
  have x6 := hb.cell 6
  simp only [List.getElem?_toArray, List.getElem?_cons_succ, List.getElem?_cons_zero] at x0 x1 x2 x3 x4 x5 x6
  have y0 := ht.cell 0
  have y1 := ht.cell 1
  have y2 := ht.cell 2
  have y3 := ht.cell 3
  have y4 := ht.cell 4
  have y5 := ht.cell 5
  have y6 := ht.cell 6
  have y7 := ht.cell 7
  have y8 := ht.cell 8
  have y9 := ht.cell 9
  simp only [List.getElem?_toArray, List.getElem?_cons_succ, List.getElem?_cons_zero] at y0 y1 y2 y3 y4 y5 y6 y7 y8 y9
  have fz := hd.frozen
  have ft := hb.frozen
  have hl := hd.lt
  have hm := hb.lt
  go_wp2_with fail
  clear x0 x1 x2 x3 x4 x5 x6 y0 y1 y2 y3 y4 y5 y6 y7 y8 y9 fz ft hl hm hb ht hd hx
  refine (acked_any c t o (.slice A l.length ca) _).mono ?_
  rw [HA.out]
  rintro e w4 ⟨rfl, hc4⟩
  have B4 := B3.chg hc4
  unfold enC
  obtain ⟨hb, ht, hd, hx⟩ := B4.parts
  have x0 := hb.cell 0
  have x1 := hb.cell 1
  have x2 := hb.cell 2
  have x3 := hb.cell 3
  have x4 := hb.cell 4
  have x5 := hb.cell 5
  have x6 := hb.cell 6
  simp only [List.getElem?_toArray, List.getElem?_cons_succ, List.getElem?_cons_zero] at x0 x1 x2 x3 x4 x5 x6
  have y0 := ht.cell 0
  have y1 := ht.cell 1
  have y2 := ht.cell 2
  have y3 := ht.cell 3
  have y4 := ht.cell 4
  have y5 := ht.cell 5
  have y6 := ht.cell 6
  have y7 := ht.cell 7
  have y8 := ht.cell 8
  have y9 := ht.cell 9
  simp only [List.getElem?_toArray, List.getElem?_cons_succ, List.getElem?_cons_zero] at y0 y1 y2 y3 y4 y5 y6 y7 y8 y9
  have fz := hd.frozen
  have ft := hb.frozen
  have hl := hd.lt
  have hm := hb.lt
  go_wp2_with ((refine wpList_store_blk rfl 46 (.tmp 2) (.tmp 46) rfl rfl (B4.b.alloc _) rfl (vs := enC c') rfl rfl (by kernel_rfl) rfl ?_; intro w5 hb5 hc5; have B5 : TB w w5 c' ⟨0, 0, 0, 0, 0, 0, 0⟩ t o (.slice A l.length ca) := ⟨hb5, (B4.t.alloc _).chg hc5 (by simp <;> omega), (B4.r.alloc _).chg hc5 (by simp <;> omega), (B4.c.alloc _).trans' hc5 (by simp <;> omega)⟩; clear x0 x1 x2 x3 x4 x5 x6 y0 y1 y2 y3 y4 y5 y6 y7 y8 y9 fz ft hl hm hb ht hd hx; obtain ⟨qb, qt, qd, qx⟩ := B5.parts; have q0 := qb.cell 0; have q1 := qb.cell 1; have q2 := qb.cell 2; have q3 := qb.cell 3; have q4 := qb.cell 4; have q5 := qb.cell 5; have q6 := qb.cell 6; simp only [List.getElem?_toArray, List.getElem?_cons_succ, List.getElem?_cons_zero] at q0 q1 q2 q3 q4 q5 q6; have z0 := qt.cell 0; have z1 := qt.cell 1; have z2 := qt.cell 2; have z3 := qt.cell 3; have z4 := qt.cell 4; have z5 := qt.cell 5; have z6 := qt.cell 6; have z7 := qt.cell 7; have z8 := qt.cell 8; have z9 := qt.cell 9; simp only [List.getElem?_toArray, List.getElem?_cons_succ, List.getElem?_cons_zero] at z0 z1 z2 z3 z4 z5 z6 z7 z8 z9; have r0 := qd.cell 0; have r1 := qd.cell 1; have r2 := qd.cell 2; have r3 := qd.cell 3; have r4 := qd.cell 4; have r5 := qd.cell 5; have r6 := qd.cell 6; simp only [List.getElem?_toArray, List.getElem?_cons_succ, List.getElem?_cons_zero] at r0 r1 r2 r3 r4 r5 r6; have qf := qd.frozen; have ql := qd.lt; have qm := qb.lt))
  refine (span_any t o A l.length ca _).mono ?_
  rw [HSP.out]
  rintro e w6 ⟨rfl, hc6⟩
  have B6 := B5.chg hc6
  clear q0 q1 q2 q3 q4 q5 q6 z0 z1 z2 z3 z4 z5 z6 z7 z8 z9 r0 r1 r2 r3 r4 r5 r6 qf ql qm qb qt qd qx
  obtain ⟨hb, ht, hd, hx⟩ := B6.parts
  have x0 := hb.cell 0
  have x1 := hb.cell 1
  have x2 := hb.cell 2
  have x3 := hb.cell 3
  have x4 := hb.cell 4
  have x5 := hb.cell 5
  have x6 := hb.cell 6
  simp only [List.getElem?_toArray, List.getElem?_cons_succ, List.getElem?_cons_zero] at x0 x1 x2 x3 x4 x5 x6
  have y0 := ht.cell 0
  have y1 := ht.cell 1
  have y2 := ht.cell 2
  have y3 := ht.cell 3
  have y4 := ht.cell 4
  have y5 := ht.cell 5
  have y6 := ht.cell 6
  have y7 := ht.cell 7
  have y8 := ht.cell 8
  have y9 := ht.cell 9
  simp only [List.getElem?_toArray, List.getElem?_cons_succ, List.getElem?_cons_zero] at y0 y1 y2 y3 y4 y5 y6 y7 y8 y9
  have fz := hd.frozen
  have ft := hb.frozen
  have hl := hd.lt
  have hm := hb.lt
  go_wp2_with fail
  go_cut [5] (fun v wx => SlT wx w.heap.size v [bareF c'] ∧ Blk wx (w.heap.size + 1 + 1) 46 (enC (c')) ∧ Chg [] w wx)
  case first =>
    go_region_with
      (first | (go_at_call 31; refine (bare_any c' _).mono ?_; rintro e w8 ⟨rfl, hc8⟩; have B8 := B6.drew.chg hc8; obtain ⟨qb, qt, qd, qx⟩ := B8.parts; have q0 := qb.cell 0; have q1 := qb.cell 1; have q2 := qb.cell 2; have q3 := qb.cell 3; have q4 := qb.cell 4; have q5 := qb.cell 5; have q6 := qb.cell 6; simp only [List.getElem?_toArray, List.getElem?_cons_succ, List.getElem?_cons_zero] at q0 q1 q2 q3 q4 q5 q6; have z0 := qt.cell 0; have z1 := qt.cell 1; have z2 := qt.cell 2; have z3 := qt.cell 3; have z4 := qt.cell 4; have z5 := qt.cell 5; have z6 := qt.cell 6; have z7 := qt.cell 7; have z8 := qt.cell 8; have z9 := qt.cell 9; simp only [List.getElem?_toArray, List.getElem?_cons_succ, List.getElem?_cons_zero] at z0 z1 z2 z3 z4 z5 z6 z7 z8 z9; have r0 := qd.cell 0; have r1 := qd.cell 1; have r2 := qd.cell 2; have r3 := qd.cell 3; have r4 := qd.cell 4; have r5 := qd.cell 5; have r6 := qd.cell 6; simp only [List.getElem?_toArray, List.getElem?_cons_succ, List.getElem?_cons_zero] at r0 r1 r2 r3 r4 r5 r6; have qf := qd.frozen; have ql := qd.lt; have qm := qb.lt; unfold enT))
    all_goals
      go_wp2_with fail
      go_meet
      have hst := Chg.setCells (g := w.heap.size + 1 + 1) (enC (c')).toList 0 (w := w8)
      have hz := B8.r.lt
      have hz0 := B8.c.size
      have hsz8 : (w8.setCells (w.heap.size + 1 + 1) 0 (enC (c')).toList).heap.size = w8.heap.size := by simp [World.setCells, World.setCell, enC]
      exact ⟨(one_seg' (w8.setCells (w.heap.size + 1 + 1) 0 (enC (c')).toList) (bareF c') hsz8.symm).less hz0, (Blk.setAll B8.r (enC (c')).toList rfl).alloc _, (B8.c.trans' hst (by simp <;> omega)).alloc _⟩
  case rest =>
    obtain ⟨hs9, hb9, hc9⟩ := hcut
    go_wp2_with fail
    first | rw [Exit.noGoto_ret] | rw [jump_ret]
    exact bodyPost_ret (results_blk2 rfl rfl hb9 _ Try.underlying46 rfl (by kernel_rfl)) rfl ⟨u5, rfl, hs9, hc9⟩
end Go.Proofs.Ytelbaooifmkpkaa
