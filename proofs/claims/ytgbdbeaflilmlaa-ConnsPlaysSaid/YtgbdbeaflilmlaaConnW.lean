/-
  WALKS over package conns: the table in memory; New, Find, Now, Len, Cap. Condition: a table that New made, at most 300 calls.
-/
import Derived.Test.YtgbdbeaflilmlaaConnP
import Derived.Test.YtgbdbeaflilmlaaBumpZ
import Derived.Test.YtgbdbeaflilmlaaDueA
import Derived.Deep.DeepCutAuto
import Derived.Deep.CutBlock
set_option linter.unusedVariables false
set_option linter.unusedSimpArgs false
namespace Go.Proofs.Ytgbdbeaflilmlaa
open Go.RowKit Go.Maps

/-- Integers as keys. -/
def KZc : KV Try.prog 3 Int where
  lit n := .int .i64 n
  ok n := (Lit.int .i64 n).wf = true
  key n _ := by simp [WideAt.IsKeyLit]
  inj a b _ _ h := by injection h
  val n := .int .i64 n
  law := lawZ
  isk n h := by simp [keyOf, Try.underlying3, mapKey, h]
  inv v l h := by
    obtain ⟨x, rfl, rfl, hw⟩ := Maps.keyOf_int_inv Try.underlying3 h
    exact ⟨x, hw, rfl, rfl⟩
theorem wf_c {n : Int} (h0 : 0 ≤ n) (h1 : n ≤ 1000000) : (Lit.int .i64 n).wf = true := by
  simp [Lit.wf, IntKind.min, IntKind.max, IntKind.signed, IntKind.bits]; omega
section
variable {P : Program} {ops : Array Oper} {o : Oper} {a : Act} {S : World → Prop}
theorem yields_look2 (hw : Region.wanted o (yielded ops a.tmps) = true) (t : TypeId) (m k : Operand) (ho : o.op = .lookup t m k true) {mv kv v : Value} (hm : a.eval m = mv) (hk : a.eval k = kv) (hS : ∀ w, S w → (Instr.lookup t mv kv true).run P w = .ok v w) : YieldsIf P ops S o v a :=
  .inl ⟨hw, fun w hw' => by
    unfold execOp
    simp only [ho, hm, hk, Sem.run_bind, Sem.run_pure, Result.andThen_ok, hS w hw']⟩
end
def footT (tb m1 m2 m3 q : Nat) (vs : Value) : List Nat := tb :: m1 :: m2 :: m3 :: footQ q vs
/-- The table in memory. -/
structure CtR (w : World) (tb m1 m2 m3 q nn : Nat) (vs : Value) (sq : Int) (its : List It) (c : TC) : Prop where
  blk : Blk w tb 129 #[.int .i64 c.n, .int .i64 c.now, .int .i64 c.last, .map (some m1), .map (some m2), .map (some m3), .pointer (some ⟨q, 0, none⟩)]
  oe : OM KF w m1 nn (mE c.l) c.l.length
  on : ∃ s, OM KF w m2 nn (mN c.l) s
  of : ∃ s, OM KZc w m3 nn (mF c.l) s
  qu : QU w q vs sq its
  d1 : tb ≠ m1 ∧ tb ≠ m2 ∧ tb ≠ m3 ∧ m1 ≠ m2 ∧ m1 ≠ m3 ∧ m2 ≠ m3
  d2 : tb ∉ footQ q vs ∧ m1 ∉ footQ q vs ∧ m2 ∉ footQ q vs ∧ m3 ∉ footQ q vs
section
variable {w w' : World} {tb m1 m2 m3 q nn : Nat} {vs : Value} {sq : Int} {its : List It} {c : TC} {S : List Nat}
theorem CtR.chg (h : CtR w tb m1 m2 m3 q nn vs sq its c) (hc : Chg S w w') (hS : ∀ x ∈ footT tb m1 m2 m3 q vs, x ∉ S) : CtR w' tb m1 m2 m3 q nn vs sq its c := by
  obtain ⟨s2, h2⟩ := h.on
  obtain ⟨s3, h3⟩ := h.of
  exact ⟨h.blk.chg hc (hS tb (by simp [footT])), h.oe.chg hc (hS m1 (by simp [footT])), ⟨s2, h2.chg hc (hS m2 (by simp [footT]))⟩, ⟨s3, h3.chg hc (hS m3 (by simp [footT]))⟩,
    h.qu.chg hc (fun x hx => hS x (by simp [footT]; exact .inr (.inr (.inr (.inr hx))))), h.d1, h.d2⟩
theorem CtR.chg0 (h : CtR w tb m1 m2 m3 q nn vs sq its c) (hc : Chg [] w w') : CtR w' tb m1 m2 m3 q nn vs sq its c := h.chg hc (by simp)
theorem CtR.lt (h : CtR w tb m1 m2 m3 q nn vs sq its c) : ∀ x ∈ footT tb m1 m2 m3 q vs, x < w.heap.size := by
  obtain ⟨s2, h2⟩ := h.on
  obtain ⟨s3, h3⟩ := h.of
  intro x hx
  simp only [footT, List.mem_cons] at hx
  rcases hx with rfl | rfl | rfl | rfl | hx
  · exact h.blk.lt
  · exact h.oe.lt
  · exact h2.lt
  · exact h3.lt
  · exact h.qu.r.lt x hx
end
/-- .. all of whose memory has come behind W; K calls were made; S is its memory. -/
structure CtS (W w : World) (tb K : Nat) (c : TC) (S : List Nat) : Prop where
  r : ∃ m1 m2 m3 q nn vs sq its, CtR w tb m1 m2 m3 q nn vs sq its c ∧ S = footT tb m1 m2 m3 q vs ∧ nn ≤ K ∧ 0 ≤ sq ∧ sq ≤ K ∧ (its.map fun x => (x.at_, x.id)).Perm (c.l.map fun p => (p.1.til, p.2))
  ci : CI K c
  chg : Chg [] W w
  new : ∀ x ∈ S, W.heap.size ≤ x
theorem CtS.chg0 {W w w' : World} {tb K : Nat} {c : TC} {S : List Nat} (h : CtS W w tb K c S) (hc : Chg [] w w') : CtS W w' tb K c S := by
  obtain ⟨⟨m1, m2, m3, q, nn, vs, sq, its, h1, h2⟩, h3, h4, h5⟩ := h
  exact ⟨⟨m1, m2, m3, q, nn, vs, sq, its, h1.chg0 hc, h2⟩, h3, h4.trans hc, h5⟩
theorem CtS.mono {W w : World} {tb K K' : Nat} {c : TC} {S : List Nat} (h : CtS W w tb K c S) (hK : K ≤ K') : CtS W w tb K' c S := by
  obtain ⟨⟨m1, m2, m3, q, nn, vs, sq, its, h1, h2, h6, h7, h8, h9⟩, h3, h4, h5⟩ := h
  exact ⟨⟨m1, m2, m3, q, nn, vs, sq, its, h1, h2, by omega, h7, by omega, h9⟩, h3.mono hK, h4, h5⟩
theorem CtS.lt {W w : World} {tb K : Nat} {c : TC} {S : List Nat} (h : CtS W w tb K c S) : ∀ x ∈ S, x < w.heap.size := by
  obtain ⟨⟨m1, m2, m3, q, nn, vs, sq, its, h1, h2, _⟩, _⟩ := h
  rw [h2]; exact h1.lt
/-- The table has gone from one state to another one. -/
def CtTo (W w : World) (tb K : Nat) (c : TC) (S : List Nat) (w' : World) : Prop := ∃ S', CtS W w' tb K c S' ∧ Chg S w w' ∧ ∀ x ∈ S', x ∈ S ∨ w.heap.size ≤ x
theorem CtS.same {W w w' : World} {tb K K' : Nat} {c : TC} {S : List Nat} (h : CtS W w tb K c S) (hK : K ≤ K') (hc : Chg [] w w') : CtTo W w tb K' c S w' := ⟨S, (h.mono hK).chg0 hc, hc.more (by simp), fun _ hx => .inl hx⟩
theorem zeroEn (w : World) : (zeroValue 96).run Try.prog w = .ok (.agg (arrN eN0)) w := by kernel_rfl
theorem zeroFl (w : World) : (zeroValue 73).run Try.prog w = .ok eN0.fl.v w := by kernel_rfl

section
variable {w : World} {tb m1 m2 m3 q nn : Nat} {vs : Value} {sq : Int} {its : List It} {c : TC}
set_option maxHeartbeats 400000 in
theorem cis_any (h : CtR w tb m1 m2 m3 q nn vs sq its c) : Calls Try.prog 73 #[.pointer (some ⟨tb, 0, none⟩)] w fun e w' => e = .returned (.bool true) ∧ w = w' := by
  have c6 : w.cell? ⟨tb, 6, none⟩ = some (.pointer (some ⟨q, 0, none⟩)) := h.blk.cell 6
  clear h
  go_enter Try.func73, Try.ntmps73
  go_wp2_with fail
  go_ret
  exact ⟨rfl, rfl⟩
set_option maxHeartbeats 400000 in
theorem cnow_any (h : CtR w tb m1 m2 m3 q nn vs sq its c) : Calls Try.prog 41 #[.pointer (some ⟨tb, 0, none⟩)] w fun e w' => e = .returned (.int .i64 c.now) ∧ w = w' := by
  have c1 : w.cell? ⟨tb, 1, none⟩ = some (.int .i64 c.now) := h.blk.cell 1
  have F1 := Lib.hid (cis_any h)
  clear h
  go_enter Try.func41, Try.ntmps41
  go_wp2_with fail
  refine F1.out.mono ?_
  rintro e w1 ⟨rfl, rfl⟩
  go_wp2_with fail
  go_ret
  exact ⟨rfl, rfl⟩
set_option maxHeartbeats 400000 in
theorem ccap_any (h : CtR w tb m1 m2 m3 q nn vs sq its c) : Calls Try.prog 48 #[.pointer (some ⟨tb, 0, none⟩)] w fun e w' => e = .returned (.int .i64 c.n) ∧ w = w' := by
  have c0 : w.cell? ⟨tb, 0, none⟩ = some (.int .i64 c.n) := h.blk.cell 0
  have F1 := Lib.hid (cis_any h)
  clear h
  go_enter Try.func48, Try.ntmps48
  go_wp2_with fail
  refine F1.out.mono ?_
  rintro e w1 ⟨rfl, rfl⟩
  go_wp2_with fail
  go_ret
  exact ⟨rfl, rfl⟩
set_option maxHeartbeats 400000 in
theorem clen_any (h : CtR w tb m1 m2 m3 q nn vs sq its c) : Calls Try.prog 42 #[.pointer (some ⟨tb, 0, none⟩)] w fun e w' => e = .returned (.int .i64 c.l.length) ∧ w = w' := by
  have c3 : w.cell? ⟨tb, 3, none⟩ = some (.map (some m1)) := h.blk.cell 3
  have F1 := Lib.hid (cis_any h)
  have hl := fun ty => h.oe.len Try.underlying125 ty
  clear h
  go_enter Try.func42, Try.ntmps42
  go_wp2_with fail
  refine F1.out.mono ?_
  rintro e w1 ⟨rfl, rfl⟩
  go_wp2_with fail
  go_ret
  exact ⟨rfl, rfl⟩
set_option maxRecDepth 100000 in
set_option maxHeartbeats 1000000 in
theorem cfind_any (h : CtR w tb m1 m2 m3 q nn vs sq its c) {f : Fl} (hf : okF f) :
    Calls Try.prog 40 #[.pointer (some ⟨tb, 0, none⟩), f.v] w fun e w' => e = .returned (.tuple #[.agg (arrN (((getC c f).map (·.1)).getD eN0)), .bool (hasC c f)]) ∧ Chg [] w w' := by
  have hlt := h.lt tb (by simp [footT])
  have hcA := ((Chg.refl [] w).alloc (.cells (arrF f) 73)).alloc (.cells arrN0 96)
  have hBf : Blk ((w.alloc (.cells (arrF f) 73)).alloc (.cells arrN0 96)) w.heap.size 73 (arrF f) := (Blk.new _ _ _).alloc _
  have hBl : Blk ((w.alloc (.cells (arrF f) 73)).alloc (.cells arrN0 96)) (w.heap.size + 1) 96 arrN0 := Blk.new' (by simp)
  have hsz : ((w.alloc (.cells (arrF f) 73)).alloc (.cells arrN0 96)).heap.size = w.heap.size + 2 := by simp
  have HI := Lib.hid (And.intro hcA (And.intro hBf (And.intro hBl (And.intro (h.chg0 hcA) hsz))))
  have HL : Hid (∀ W, OM KF W m1 nn (mE c.l) c.l.length → (Instr.lookup 125 (.map (some m1)) f.v true).run Try.prog W = .ok (.tuple #[.agg (arrN (((getC c f).map (·.1)).getD eN0)), .bool (hasC c f)]) W) := Lib.hid fun W ho => by
    have := ho.look2 Try.underlying125 (zeroEn W) (x := f) hf
    have e1 : (mE c.l f).getD (.agg (arrN eN0)) = .agg (arrN (((getC c f).map (·.1)).getD eN0)) := by
      unfold mE getC
      cases c.l.find? (fun p => decide (flC p = f)) <;> rfl
    have e2 : (mE c.l f).isSome = hasC c f := by
      unfold mE hasC getC
      cases c.l.find? (fun p => decide (flC p = f)) <;> rfl
    rw [e1, e2] at this
    exact this
  clear hcA hBf hBl hsz h
  generalize ((getC c f).map (·.1)).getD eN0 = x at *
  generalize hasC c f = bb at *
  go_enter Try.func40, Try.ntmps40
  go_upto_region 1 with fail
  generalize (w.alloc (.cells (arrF f) 73)).alloc (.cells arrN0 96) = w1 at *
  generalize hg : w.heap.size = gf at *
  have F1 := Lib.hid (cis_any HI.out.2.2.2.1)
  go_wp2_with fail
  refine F1.out.mono ?_
  rintro e w2 ⟨rfl, rfl⟩
  clear F1
  go_upto_region 3 with fail
  have hS0 : Chg [] w1 w1.drew := (Chg.refl [] w1).drew
  have HC0 : ∀ W, Chg [] w1 W → W.cell? ⟨tb, 3, none⟩ = some (.map (some m1)) := fun W hc => hc.cell (HI.out.2.2.2.1.blk.cell 3) (by simp)
  have HRF : ∀ W, Chg [] w1 W → W.rangeAt gf 0 (arrF f).toList := fun W hc => (HI.out.2.1.chg hc (by simp)).rangeQ
  have HLK : ∀ W, Chg [] w1 W → (Instr.lookup 125 (.map (some m1)) f.v true).run Try.prog W = .ok (.tuple #[.agg (arrN x), .bool bb]) W := fun W hc => HL.out W (HI.out.2.2.2.1.oe.chg0 hc)
  have hBx : Blk (w1.alloc (.cells arrN0 96)).drew w1.heap.size 96 arrN0 := (Blk.new _ _ _).drew
  have hcB := ((Chg.refl [] w1).alloc (.cells arrN0 96)).drew
  refine wp_region_noPanic ?_
  refine wp_region_held_drew (S := Chg [] w1) (by kernel_rfl) hS0 (fun _ => ?_)
  refine wpAnyH_take (i := 0) (v := ?_) rfl (by kernel_rfl) (by kernel_rfl) (by kernel_rfl) (fun _ _ _ h => h) (yields_pure (by rfl) (fun w => ?_)) (by with_reducible assumption) ?_
  rotate_left
  · (go_simp <;> with_reducible rfl)
  try simp only [List.getElem_toArray, List.getElem_cons_succ, List.getElem_cons_zero, Act.put, List.setIfInBounds_toArray, List.set_cons_zero, List.set_cons_succ]
  refine wpAnyH_take (i := 1) (v := ?_) rfl (by kernel_rfl) (by kernel_rfl) (by kernel_rfl) (fun _ _ _ h => h) (yields_pure (by rfl) (fun w => ?_)) (by with_reducible assumption) ?_
  rotate_left
  · (go_simp <;> with_reducible rfl)
  try simp only [List.getElem_toArray, List.getElem_cons_succ, List.getElem_cons_zero, Act.put, List.setIfInBounds_toArray, List.set_cons_zero, List.set_cons_succ]
  refine wpAnyH_take (i := 2) (v := ?_) rfl (by kernel_rfl) (by kernel_rfl) (by kernel_rfl) (fun _ _ _ h => h) (yields_pure (by rfl) (fun w => ?_)) (by with_reducible assumption) ?_
  rotate_left
  · (go_simp <;> with_reducible rfl)
  try simp only [List.getElem_toArray, List.getElem_cons_succ, List.getElem_cons_zero, Act.put, List.setIfInBounds_toArray, List.set_cons_zero, List.set_cons_succ]
  refine wpAnyH_take (i := 3) rfl (by kernel_rfl) (by kernel_rfl) (by kernel_rfl) (fun _ _ _ h => h) (yields_cell (by rfl) 125 (.tmp 15) rfl tb 3 rfl (.map (some m1)) _ HC0 Try.underlying125 rfl) (by with_reducible assumption) ?_
  try simp only [List.getElem_toArray, List.getElem_cons_succ, List.getElem_cons_zero, Act.put, List.setIfInBounds_toArray, List.set_cons_zero, List.set_cons_succ]
  refine wpAnyH_take (i := 4) rfl (by kernel_rfl) (by kernel_rfl) (by kernel_rfl) (fun _ _ _ h => h) (yields_row (by rfl) 73 (.tmp 3) rfl gf 0 rfl (arrF f) _ HRF Try.underlying73 rfl infF) (by with_reducible assumption) ?_
  try simp only [List.getElem_toArray, List.getElem_cons_succ, List.getElem_cons_zero, Act.put, List.setIfInBounds_toArray, List.set_cons_zero, List.set_cons_succ]
  refine wpAnyH_take (i := 5) rfl (by kernel_rfl) (by kernel_rfl) (by kernel_rfl) (fun _ _ _ h => h) (yields_look2 (by rfl) 125 (.tmp 16) (.tmp 17) rfl rfl rfl (HLK)) (by with_reducible assumption) ?_
  try simp only [List.getElem_toArray, List.getElem_cons_succ, List.getElem_cons_zero, Act.put, List.setIfInBounds_toArray, List.set_cons_zero, List.set_cons_succ]
  refine wpAnyH_take (i := 6) (v := ?_) rfl (by kernel_rfl) (by kernel_rfl) (by kernel_rfl) (fun _ _ _ h => h) (yields_pure (by rfl) (fun w => ?_)) (by with_reducible assumption) ?_
  rotate_left
  · (go_simp <;> with_reducible rfl)
  try simp only [List.getElem_toArray, List.getElem_cons_succ, List.getElem_cons_zero, Act.put, List.setIfInBounds_toArray, List.set_cons_zero, List.set_cons_succ]
  refine wpAnyH_take (i := 7) (v := ?_) rfl (by kernel_rfl) (by kernel_rfl) (by kernel_rfl) (fun _ _ _ h => h) (yields_pure (by rfl) (fun w => ?_)) (by with_reducible assumption) ?_
  rotate_left
  · (go_simp <;> with_reducible rfl)
  try simp only [List.getElem_toArray, List.getElem_cons_succ, List.getElem_cons_zero, Act.put, List.setIfInBounds_toArray, List.set_cons_zero, List.set_cons_succ]
  refine wpAnyH_take (i := 8) (v := ?_) rfl (by kernel_rfl) (by kernel_rfl) (by kernel_rfl) (fun _ _ _ h => h) (yields_pure (by rfl) (fun w => ?_)) (by with_reducible assumption) ?_
  rotate_left
  · (go_simp <;> with_reducible rfl)
  try simp only [List.getElem_toArray, List.getElem_cons_succ, List.getElem_cons_zero, Act.put, List.setIfInBounds_toArray, List.set_cons_zero, List.set_cons_succ]
  refine wpAnyH_ready (rs := [9]) (by kernel_rfl) (by simp) (AllReadyH.cons rfl (fun K hK => ?_) AllReadyH.nil)
  go_simp
  refine hK.out _ _ (by with_reducible assumption) (fun _ => ?_)
  clear hK K
  try simp only [List.getElem_toArray, List.getElem_cons_succ, List.getElem_cons_zero, Act.put, List.setIfInBounds_toArray, List.set_cons_zero, List.set_cons_succ]
  refine wpAnyH_ready (rs := [10]) (by kernel_rfl) (by simp) (AllReadyH.cons rfl (fun K hK => ?_) AllReadyH.nil)
  refine step_store_blk rfl 96 (.tmp 6) (.tmp 19) rfl hBx rfl rfl rfl (infN (e := x)) rfl ?_
  intro w5 hB5 hc5
  have hc6 : Chg [] w1 w5 := hcB.trans' hc5 (by intro y hy; simp at hy; subst hy; exact .inr (Nat.le_refl _))
  refine hK.out _ _ (by with_reducible assumption) (fun _ => ?_)
  clear hK K
  try simp only [List.getElem_toArray, List.getElem_cons_succ, List.getElem_cons_zero, Act.put, List.setIfInBounds_toArray, List.set_cons_zero, List.set_cons_succ]
  refine wpAnyH_take (i := 11) (v := ?_) rfl (by kernel_rfl) (by kernel_rfl) (by kernel_rfl) (fun _ _ _ h => h) (yields_pure (by rfl) (fun w => ?_)) (by with_reducible assumption) ?_
  rotate_left
  · (go_simp <;> with_reducible rfl)
  try simp only [List.getElem_toArray, List.getElem_cons_succ, List.getElem_cons_zero, Act.put, List.setIfInBounds_toArray, List.set_cons_zero, List.set_cons_succ]
  refine wpAnyH_done (by kernel_rfl) ?_ _
  refine NoPanic.normal ?_
  generalize hgx : w1.heap.size = gx at *
  have R5 := Lib.hid hB5.rangeQ
  have hBl := HI.out.2.2.1.chg hc6 (by simp)
  have HC6 := Lib.hid (HI.out.1.trans hc6)
  clear hS0 HC0 HRF HLK hBx hcB hB5 hc5 hc6
  go_wp2_with (first
    | (refine wpList_row 96 (.tmp 6) rfl rfl gx 0 rfl (arrN x) _ R5.out Try.underlying96 rfl infN ?_)
    | (refine wpList_store_blk rfl 96 _ _ rfl rfl hBl rfl rfl rfl (infN (e := x)) rfl ?_; intro w7 hB7 hc7)
    | fail)
  exact bodyPost_ret (results_blk2 rfl rfl hB7 _ Try.underlying96 rfl (by kernel_rfl)) rfl ⟨rfl, HC6.out.trans' hc7 (by intro y hy; simp at hy; subst hy; exact .inr (by omega))⟩
end
theorem CI.new {n : Int} (h1 : 1 ≤ n) (h2 : n ≤ 64) : CI 0 ⟨n, 0, 0, []⟩ := ⟨by simp, by simp, by simp, by simp, by simp only [List.length_nil]; omega, by simp, by simp, ⟨h1, h2⟩⟩
set_option maxHeartbeats 400000 in
theorem cnew_no {n : Int} (h : n < 1 ∨ 64 < n) (w : World) : Calls Try.prog 35 #[.int .i64 n] w fun e w' => e = .returned (.pointer none) ∧ w = w' := by
  rcases (show n < 1 ∨ (¬ n < 1 ∧ 64 < n) by omega) with h1 | ⟨h1, h2⟩
  · have b1 : decide (n < 1) = true := by simp [h1]
    go_enter Try.func35, Try.ntmps35
    go_wp2_with fail
    go_ret
    exact ⟨rfl, rfl⟩
  · have b1 : decide (n < 1) = false := decide_eq_false h1
    have b2 : decide (64 < n) = true := by simp [h2]
    go_enter Try.func35, Try.ntmps35
    go_wp2_with fail
    go_ret
    exact ⟨rfl, rfl⟩
set_option maxHeartbeats 1000000 in
theorem cnew_any {n : Int} (h1 : 1 ≤ n) (h2 : n ≤ 64) (w : World) : Calls Try.prog 35 #[.int .i64 n] w fun e w' => ∃ tb S, e = .returned (.pointer (some ⟨tb, 0, none⟩)) ∧ CtS w w' tb 0 ⟨n, 0, 0, []⟩ S ∧ Chg [] w w' := by
  have hmm := @run_makeMap Try.prog
  have b1 : decide (n < 1) = false := by simp; omega
  have b2 : decide (64 < n) = false := by simp; omega
  have b3 : ¬ n < 1 := by omega
  have b4 : ¬ 64 < n := by omega
  have F1 := Lib.hid (qnew_any (((w.alloc (.map #[] 0)).alloc (.map #[] 0)).alloc (.map #[] 0)))
  have hcm := (((Chg.refl [] w).alloc (.map #[] 0)).alloc (.map #[] 0)).alloc (.map #[] 0)
  have o1 : OM KF (((w.alloc (.map #[] 0)).alloc (.map #[] 0)).alloc (.map #[] 0)) w.heap.size 0 (fun _ => none) 0 := ((OM.new (K := KF) w).chg0 ((Chg.refl _ _).alloc _)).chg0 ((Chg.refl _ _).alloc _)
  have o2 : OM KF (((w.alloc (.map #[] 0)).alloc (.map #[] 0)).alloc (.map #[] 0)) (w.heap.size + 1) 0 (fun _ => none) 0 := by
    have := (OM.new (K := KF) (w.alloc (.map #[] 0))).chg0 ((Chg.refl _ _).alloc (.map #[] 0))
    simpa using this
  have o3 : OM KZc (((w.alloc (.map #[] 0)).alloc (.map #[] 0)).alloc (.map #[] 0)) (w.heap.size + 2) 0 (fun _ => none) 0 := by
    have := OM.new (K := KZc) ((w.alloc (.map #[] 0)).alloc (.map #[] 0))
    simpa using this
  have hsz : (((w.alloc (.map #[] 0)).alloc (.map #[] 0)).alloc (.map #[] 0)).heap.size = w.heap.size + 3 := by simp
  have HI := Lib.hid (And.intro hcm (And.intro o1 (And.intro o2 (And.intro o3 hsz))))
  clear hcm o1 o2 o3 hsz
  go_enter Try.func35, Try.ntmps35
  go_wp2_with fail
  refine F1.out.mono ?_
  rintro e w1 ⟨q, rfl, hq, hc1, hq0⟩
  have hq1 := hq.r.lt q (by simp [footQ])
  have hz1 := hc1.size
  have hA := (Chg.refl [] w1).alloc (.cells #[.int .i64 n, .int .i64 0, .int .i64 0, .map (some w.heap.size), .map (some (w.heap.size + 1)), .map (some (w.heap.size + 2)), .pointer (some ⟨q, 0, none⟩)] 129)
  have hsz := HI.out.2.2.2.2
  rw [hsz] at hq0 hz1
  have HH := Lib.hid (And.intro hq (And.intro hc1 hA))
  clear hq hc1 hA F1
  go_wp2
  go_ret
  obtain ⟨hq, hc1, hA⟩ := HH.out
  have e1 : mE [] = fun _ => none := rfl
  have e2 : mN [] = fun _ => none := rfl
  have e3 : mF [] = fun _ => none := rfl
  refine ⟨w1.heap.size, footT w1.heap.size w.heap.size (w.heap.size + 1) (w.heap.size + 2) q (.slice none 0 0), rfl, ⟨⟨w.heap.size, w.heap.size + 1, w.heap.size + 2, q, 0, .slice none 0 0, 0, [], ⟨Blk.new _ _ _, ?_, ⟨0, ?_⟩, ⟨0, ?_⟩, hq.chg0 hA, by omega, ?_⟩, rfl, Nat.le_refl _, by omega, by simp, by simp⟩, CI.new h1 h2, (HI.out.1.trans hc1).trans hA, ?_⟩, (HI.out.1.trans hc1).trans hA⟩
  · exact (HI.out.2.1.chg0 hc1).chg0 hA
  · exact (HI.out.2.2.1.chg0 hc1).chg0 hA
  · exact (HI.out.2.2.2.1.chg0 hc1).chg0 hA
  · simp [footQ, Value.ownBlock]; omega
  · intro x hx; simp [footT, footQ, Value.ownBlock] at hx; omega
end Go.Proofs.Ytgbdbeaflilmlaa
