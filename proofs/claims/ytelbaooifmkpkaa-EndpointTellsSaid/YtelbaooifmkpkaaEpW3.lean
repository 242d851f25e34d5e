/-
  WALKS: Take, case by case. Conditions: the payload reads as bytes; the count does not pass an int.
-/
import Derived.Test.YtelbaooifmkpkaaEpW2
set_option linter.unusedVariables false
set_option linter.unusedSimpArgs false
namespace Go.Proofs.Ytelbaooifmkpkaa
open Go.RowKit

theorem take0 (c : CN) (t : TC) (o p : Value) (w : World) (h : c.st < 1 ∨ 4 < c.st) :
    Calls Try.prog 21 #[.agg (enC c), .agg (enT t o p)] w fun e w' => e = .returned (.tuple #[.agg (enC c), .slice none 0 0]) ∧ Chg [] w w' := by
  unfold enC enT
  rcases h with h | h
  · have d1 : decide (c.st < 1) = true := by simp [h]
    go_enter Try.func21, Try.ntmps21
    go_wp2_with fail
    go_step3
    go_wp2_with fail
    rw [Exit.noGoto_ret]
    exact bodyPost_ret (results_blk2 rfl rfl (Blk.new' (by simp)) _ Try.underlying46 rfl (by kernel_rfl)) rfl ⟨rfl, (by repeat (first | with_reducible assumption | with_reducible exact Chg.refl _ _ | with_reducible refine Chg.drew ?_ | with_reducible refine Chg.drewN ?_ _ | with_reducible refine Chg.alloc ?_ _ | (with_reducible refine Chg.setCell ?_ ?_ _; rotate_left; first | (exact .inr (by simp)) | (exact .inr (by simp; omega)) | (exact .inr (by omega)) | (exact .inl (by simp)))))⟩
  · have d1 : decide (c.st < 1) = false := by simp; omega
    have d2 : decide (4 < c.st) = true := by simp [h]
    go_enter Try.func21, Try.ntmps21
    go_wp2_with fail
    go_step3
    go_wp2_with fail
    rw [Exit.noGoto_ret]
    exact bodyPost_ret (results_blk2 rfl rfl (Blk.new' (by simp)) _ Try.underlying46 rfl (by kernel_rfl)) rfl ⟨rfl, (by repeat (first | with_reducible assumption | with_reducible exact Chg.refl _ _ | with_reducible refine Chg.drew ?_ | with_reducible refine Chg.drewN ?_ _ | with_reducible refine Chg.alloc ?_ _ | (with_reducible refine Chg.setCell ?_ ?_ _; rotate_left; first | (exact .inr (by simp)) | (exact .inr (by simp; omega)) | (exact .inr (by omega)) | (exact .inl (by simp)))))⟩

/-- The three boxes that Take begins with. -/
structure TB (w W : World) (c c0 : CN) (t : TC) (o p : Value) : Prop where
  b : Blk W w.heap.size 46 (enC c)
  t : Blk W (w.heap.size + 1) 52 (enT t o p)
  r : Blk W (w.heap.size + 1 + 1) 46 (enC c0)
  c : Chg [] w W
section
variable {w W W' : World} {c c0 : CN} {t : TC} {o p : Value}
theorem TB.start (w : World) (c : CN) (t : TC) (o p : Value) : TB w (((w.alloc (.cells (enC c) 46)).alloc (.cells (enT t o p) 52)).alloc (.cells (enC ⟨0, 0, 0, 0, 0, 0, 0⟩) 46)) c ⟨0, 0, 0, 0, 0, 0, 0⟩ t o p :=
  ⟨((Blk.new _ _ _).alloc _).alloc _, (Blk.new' (by simp)).alloc _, Blk.new' (by simp), (((Chg.refl _ _).alloc _).alloc _).alloc _⟩
theorem TB.chg (h : TB w W c c0 t o p) (hc : Chg [] W W') : TB w W' c c0 t o p := ⟨h.b.chg hc (by simp), h.t.chg hc (by simp), h.r.chg hc (by simp), h.c.trans hc⟩
theorem TB.drew (h : TB w W c c0 t o p) : TB w W.drew c c0 t o p := ⟨h.b, h.t, h.r, h.c.drew⟩
theorem TB.parts (h : TB w W c c0 t o p) : Blk W w.heap.size 46 #[.int .i64 c.st, .int .u32 c.first, .int .u32 c.own, .int .u32 c.next, .int .u32 c.sent, .int .i64 c.got, .int .u32 c.sum] ∧
    Blk W (w.heap.size + 1) 52 #[.int .i64 t.sport, .int .i64 t.dport, .int .u32 t.seq, .int .u32 t.ack, .int .i64 t.flags, .int .i64 t.window, .int .i64 t.ck, .int .i64 t.urgent, o, p] ∧
    Blk W (w.heap.size + 1 + 1) 46 #[.int .i64 c0.st, .int .u32 c0.first, .int .u32 c0.own, .int .u32 c0.next, .int .u32 c0.sent, .int .i64 c0.got, .int .u32 c0.sum] ∧ Chg [] w W := ⟨h.b, h.t, h.r, h.c⟩
end

set_option maxRecDepth 20000 in
set_option maxHeartbeats 1000000 in
theorem take1 (c : CN) (t : TC) (o p : Value) (w : World) (h : ¬ (c.st < 1 ∨ 4 < c.st)) (h4 : hasF t.flags 4 = true) :
    Calls Try.prog 21 #[.agg (enC c), .agg (enT t o p)] w fun e w' => e = .returned (.tuple #[.agg (enC (abortF c t)), .slice none 0 0]) ∧ Chg [] w w' := by
  have d1 : decide (c.st < 1) = false := by simp; omega
  have d2 : decide (4 < c.st) = false := by simp; omega
  have H4 := Lib.hid h4
  have B0 := TB.start w c t o p
  clear h h4
  unfold enC enT
  go_enter Try.func21, Try.ntmps21
  go_wp2_with fail
  go_step3
  go_wp2_with fail
  refine (has_any t o p 4 _).mono ?_
  rw [H4.out]
  rintro e w1 ⟨rfl, hc1⟩
  have B1 := B0.chg hc1
  obtain ⟨hb1, ht1, hd1, hx1⟩ := B1.parts
  have x0 := hb1.cell 0
  have x1 := hb1.cell 1
  have x2 := hb1.cell 2
  have x3 := hb1.cell 3
  have x4 := hb1.cell 4
  have x5 := hb1.cell 5
  have x6 := hb1.cell 6
  simp only [List.getElem?_toArray, List.getElem?_cons_succ, List.getElem?_cons_zero] at x0 x1 x2 x3 x4 x5 x6
  have y0 := ht1.cell 0
  have y1 := ht1.cell 1
  have y2 := ht1.cell 2
  have y3 := ht1.cell 3
  have y4 := ht1.cell 4
  have y5 := ht1.cell 5
  have y6 := ht1.cell 6
  have y7 := ht1.cell 7
  have y8 := ht1.cell 8
  have y9 := ht1.cell 9
  simp only [List.getElem?_toArray, List.getElem?_cons_succ, List.getElem?_cons_zero] at y0 y1 y2 y3 y4 y5 y6 y7 y8 y9
  have fz1 := hd1.frozen
  have ft1 := hb1.frozen
  have hl1 := hd1.lt
  go_wp2_with fail
  refine (abort_any c t o p _).mono ?_
  rintro e w2 ⟨rfl, hc2⟩
  have B2 := B1.chg hc2
  go_wp2_with (refine wpList_store_blk rfl 46 (.tmp 4) (.tmp 22) rfl rfl B2.r rfl rfl rfl (by kernel_rfl) rfl ?_; intro w3 hb3 hc3)
  rw [Exit.noGoto_ret]
  exact bodyPost_ret (results_blk2 rfl rfl hb3 _ Try.underlying46 rfl (by kernel_rfl)) rfl ⟨rfl, B2.c.trans' hc3 (by simp <;> omega)⟩

set_option maxRecDepth 20000 in
set_option maxHeartbeats 2000000 in
theorem take3 (c : CN) (t : TC) (o p : Value) (w : World) (h : ¬ (c.st < 1 ∨ 4 < c.st)) (h4 : hasF t.flags 4 = false) (h2 : hasF t.flags 2 = false) (h16 : hasF t.flags 16 = false) :
    Calls Try.prog 21 #[.agg (enC c), .agg (enT t o p)] w fun e w' => e = .returned (.tuple #[.agg (enC c), .slice none 0 0]) ∧ Chg [] w w' := by
  have d1 : decide (c.st < 1) = false := by simp; omega
  have d2 : decide (4 < c.st) = false := by simp; omega
  have H4 := Lib.hid h4
  have H2 := Lib.hid h2
  have H16 := Lib.hid h16
  have B0 := TB.start w c t o p
  clear h h4 h2 h16
  unfold enC enT
  go_enter Try.func21, Try.ntmps21
  go_wp2_with fail
  refine wp_scope_fwd 0 rfl ?_
  go_wp2_with fail
  refine (has_any t o p 4 _).mono ?_
  rw [H4.out]
  rintro e w1 ⟨rfl, hc1⟩
  have B1 := B0.chg hc1
  obtain ⟨hb, ht, hd, hx⟩ := B1.parts
  have x0 := hb.cell 0
  have x1 := hb.cell 1
  have x2 := hb.cell 2
  have x3 := hb.cell 3
  have x4 := hb.cell 4
  have x5 := hb.cell 5
  have x6 := hb.cell 6
  simp only [List.getElem?_toArray, List.getElem?_cons_succ, List.getElem?_cons_zero] at x0 x1 x2 x3 x4 x5 x6
  have y0 := ht.cell 0
  have y1 := ht.cell 1
  have y2 := ht.cell 2
  have y3 := ht.cell 3
  have y4 := ht.cell 4
  have y5 := ht.cell 5
  have y6 := ht.cell 6
  have y7 := ht.cell 7
  have y8 := ht.cell 8
  have y9 := ht.cell 9
  simp only [List.getElem?_toArray, List.getElem?_cons_succ, List.getElem?_cons_zero] at y0 y1 y2 y3 y4 y5 y6 y7 y8 y9
  have fz := hd.frozen
  have ft := hb.frozen
  have hl := hd.lt
  have hm := hb.lt
  go_wp2_with fail
  clear x0 x1 x2 x3 x4 x5 x6 y0 y1 y2 y3 y4 y5 y6 y7 y8 y9 fz ft hl hm hb ht hd hx
  refine (has_any t o p 2 _).mono ?_
  rw [H2.out]
  rintro e w2 ⟨rfl, hc2⟩
  have B2 := B1.chg hc2
  obtain ⟨hb, ht, hd, hx⟩ := B2.parts
  have x0 := hb.cell 0
  have x1 := hb.cell 1
  have x2 := hb.cell 2
  have x3 := hb.cell 3
  have x4 := hb.cell 4
  have x5 := hb.cell 5
  have x6 := hb.cell 6
  simp only [List.getElem?_toArray, List.getElem?_cons_succ, List.getElem?_cons_zero] at x0 x1 x2 x3 x4 x5 x6
  have y0 := ht.cell 0
  have y1 := ht.cell 1
  have y2 := ht.cell 2
  have y3 := ht.cell 3
  have y4 := ht.cell 4
  have y5 := ht.cell 5
  have y6 := ht.cell 6
  have y7 := ht.cell 7
  have y8 := ht.cell 8
  have y9 := ht.cell 9
  simp only [List.getElem?_toArray, List.getElem?_cons_succ, List.getElem?_cons_zero] at y0 y1 y2 y3 y4 y5 y6 y7 y8 y9
  have fz := hd.frozen
  have ft := hb.frozen
  have hl := hd.lt
  have hm := hb.lt
  go_wp2_with fail
  clear x0 x1 x2 x3 x4 x5 x6 y0 y1 y2 y3 y4 y5 y6 y7 y8 y9 fz ft hl hm hb ht hd hx
  refine (has_any t o p 16 _).mono ?_
  rw [H16.out]
  rintro e w3 ⟨rfl, hc3⟩
  have B3 := B2.chg hc3
  obtain ⟨hb, ht, hd, hx⟩ := B3.parts
  have x0 := hb.cell 0
  have x1 := hb.cell 1
  have x2 := hb.cell 2
  have x3 := hb.cell 3
  have x4 := hb.cell 4
  have x5 := hb.cell 5
  have x6 := hb.cell 6
  simp only [List.getElem?_toArray, List.getElem?_cons_succ, List.getElem?_cons_zero] at x0 x1 x2 x3 x4 x5 x6
  have y0 := ht.cell 0
  have y1 := ht.cell 1
  have y2 := ht.cell 2
  have y3 := ht.cell 3
  have y4 := ht.cell 4
  have y5 := ht.cell 5
  have y6 := ht.cell 6
  have y7 := ht.cell 7
  have y8 := ht.cell 8
  have y9 := ht.cell 9
  simp only [List.getElem?_toArray, List.getElem?_cons_succ, List.getElem?_cons_zero] at y0 y1 y2 y3 y4 y5 y6 y7 y8 y9
  have fz := hd.frozen
  have ft := hb.frozen
  have hl := hd.lt
  have hm := hb.lt
  go_wp2_with fail
  refine wp_goto ?_
  refine (⟨rfl, ?_⟩ : _ ∧ _)
  go_wp2_with (first | go_step3 | (refine wpList_store_blk rfl 46 (.tmp 4) (.tmp 79) rfl rfl B3.r rfl rfl rfl (by kernel_rfl) rfl ?_; intro w4 hb4 hc4))
  first | rw [Exit.noGoto_ret] | rw [jump_ret]
  exact bodyPost_ret (results_blk2 rfl rfl hb4 _ Try.underlying46 rfl (by kernel_rfl)) rfl ⟨rfl, B3.c.trans' hc4 (by simp <;> omega)⟩

set_option maxRecDepth 20000 in
set_option maxHeartbeats 2000000 in
theorem take2 (c : CN) (t : TC) (o p : Value) (w : World) (h : ¬ (c.st < 1 ∨ 4 < c.st)) (h4 : hasF t.flags 4 = false) (h2 : hasF t.flags 2 = true) :
    Calls Try.prog 21 #[.agg (enC c), .agg (enT t o p)] w fun e w' => ∃ v, e = .returned (.tuple #[.agg (enC (c)), v]) ∧ SlT w' w.heap.size v (againF c t) ∧ Chg [] w w' := by
  have d1 : decide (c.st < 1) = false := by simp; omega
  have d2 : decide (4 < c.st) = false := by simp; omega
  have H4 := Lib.hid h4
  have H2 := Lib.hid h2
  have B0 := TB.start w c t o p
  clear h h4 h2
  unfold enC enT
  go_enter Try.func21, Try.ntmps21
  go_wp2_with fail
  refine wp_scope_fwd 0 rfl ?_
  go_wp2_with fail
  refine (has_any t o p 4 _).mono ?_
  rw [H4.out]
  rintro e w1 ⟨rfl, hc1⟩
  have B1 := B0.chg hc1
  obtain ⟨hb, ht, hd, hx⟩ := B1.parts
  have x0 := hb.cell 0
  have x1 := hb.cell 1
  have x2 := hb.cell 2
  have x3 := hb.cell 3
  have x4 := hb.cell 4
  have x5 := hb.cell 5
  have x6 := hb.cell 6
  simp only [List.getElem?_toArray, List.getElem?_cons_succ, List.getElem?_cons_zero] at x0 x1 x2 x3 x4 x5 x6
  have y0 := ht.cell 0
  have y1 := ht.cell 1
  have y2 := ht.cell 2
  have y3 := ht.cell 3
  have y4 := ht.cell 4
  have y5 := ht.cell 5
  have y6 := ht.cell 6
  have y7 := ht.cell 7
  have y8 := ht.cell 8
  have y9 := ht.cell 9
  simp only [List.getElem?_toArray, List.getElem?_cons_succ, List.getElem?_cons_zero] at y0 y1 y2 y3 y4 y5 y6 y7 y8 y9
  have fz := hd.frozen
  have ft := hb.frozen
  have hl := hd.lt
  have hm := hb.lt
  go_wp2_with fail
  clear x0 x1 x2 x3 x4 x5 x6 y0 y1 y2 y3 y4 y5 y6 y7 y8 y9 fz ft hl hm hb ht hd hx
  refine (has_any t o p 2 _).mono ?_
  rw [H2.out]
  rintro e w2 ⟨rfl, hc2⟩
  have B2 := B1.chg hc2
  obtain ⟨hb, ht, hd, hx⟩ := B2.parts
  have x0 := hb.cell 0
  have x1 := hb.cell 1
  have x2 := hb.cell 2
  have x3 := hb.cell 3
  have x4 := hb.cell 4
  have x5 := hb.cell 5
  have x6 := hb.cell 6
  simp only [List.getElem?_toArray, List.getElem?_cons_succ, List.getElem?_cons_zero] at x0 x1 x2 x3 x4 x5 x6
  have y0 := ht.cell 0
  have y1 := ht.cell 1
  have y2 := ht.cell 2
  have y3 := ht.cell 3
  have y4 := ht.cell 4
  have y5 := ht.cell 5
  have y6 := ht.cell 6
  have y7 := ht.cell 7
  have y8 := ht.cell 8
  have y9 := ht.cell 9
  simp only [List.getElem?_toArray, List.getElem?_cons_succ, List.getElem?_cons_zero] at y0 y1 y2 y3 y4 y5 y6 y7 y8 y9
  have fz := hd.frozen
  have ft := hb.frozen
  have hl := hd.lt
  have hm := hb.lt
  go_wp2_with fail
  go_cut [5] (fun v wx => SlT wx w.heap.size v (againF c t) ∧ Blk wx (w.heap.size + 1 + 1) 46 (enC c) ∧ Chg [] w wx)
  case first =>
    go_region_with
      (first | (go_at_call 41; refine (again_any c t o p _).mono ?_; rintro e w3 ⟨v3, rfl, hs3, hc3⟩; have B3 := B2.drew.chg hc3; obtain ⟨qb, qt, qd, qx⟩ := B3.parts; have q0 := qb.cell 0; have q1 := qb.cell 1; have q2 := qb.cell 2; have q3 := qb.cell 3; have q4 := qb.cell 4; have q5 := qb.cell 5; have q6 := qb.cell 6; simp only [List.getElem?_toArray, List.getElem?_cons_succ, List.getElem?_cons_zero] at q0 q1 q2 q3 q4 q5 q6; have z0 := qt.cell 0; have z1 := qt.cell 1; have z2 := qt.cell 2; have z3 := qt.cell 3; have z4 := qt.cell 4; have z5 := qt.cell 5; have z6 := qt.cell 6; have z7 := qt.cell 7; have z8 := qt.cell 8; have z9 := qt.cell 9; simp only [List.getElem?_toArray, List.getElem?_cons_succ, List.getElem?_cons_zero] at z0 z1 z2 z3 z4 z5 z6 z7 z8 z9; have r0 := qd.cell 0; have r1 := qd.cell 1; have r2 := qd.cell 2; have r3 := qd.cell 3; have r4 := qd.cell 4; have r5 := qd.cell 5; have r6 := qd.cell 6; simp only [List.getElem?_toArray, List.getElem?_cons_succ, List.getElem?_cons_zero] at r0 r1 r2 r3 r4 r5 r6; have qf := qd.frozen; have ql := qd.lt; have qm := qb.lt))
    all_goals
      go_wp2_with fail
      go_meet
      have hst := Chg.setCells (g := w.heap.size + 1 + 1) (enC c).toList 0 (w := w3)
      have hz := B2.drew.r.lt
      exact ⟨(Sl.chg hs3 hst (by simp <;> omega)).less B2.drew.c.size, Blk.setAll B3.r (enC c).toList rfl, B3.c.trans' hst (by simp <;> omega)⟩
  case rest =>
    obtain ⟨hs9, hb9, hc9⟩ := hcut
    go_wp2_with fail
    first | rw [Exit.noGoto_ret] | rw [jump_ret]
    exact bodyPost_ret (results_blk2 rfl rfl hb9 _ Try.underlying46 rfl (by kernel_rfl)) rfl ⟨u5, rfl, hs9, hc9⟩

end Go.Proofs.Ytelbaooifmkpkaa
