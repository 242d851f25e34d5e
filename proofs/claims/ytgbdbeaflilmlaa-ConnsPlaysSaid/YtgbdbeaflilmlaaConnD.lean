/-
  WALKS over package conns: Drop. Condition: a table that New made, at most 1000 calls.
-/
import Derived.Test.YtgbdbeaflilmlaaConnW
set_option linter.unusedVariables false
set_option linter.unusedSimpArgs false
namespace Go.Proofs.Ytgbdbeaflilmlaa
open Go.RowKit Go.Maps

/-- 'delete' of a map as the walk meets it. -/
theorem wpList_delete_om2 {P : Program} {k e : TypeId} {κ : Type} [DecidableEq κ] {K : KV P k κ} {ops : Array Oper} {rest : List Oper} {o : Oper} {a : Act} {w : World} {Q : Exit → Act → World → Prop} {b n s : Nat} {M : κ → Option Value} (hg : o.guard = none) (m x : Operand) (t : TypeId)
    (hop : o.op = .call { callee := .builtin .delete, args := #[m, x], argTypes := #[t, k] }) (ht : P.underlying t = some (.map k e)) (hm : a.eval m = .map (some b)) (h : OM K w b n M s) (y : κ) (hy : K.ok y) (hx : a.eval x = K.val y)
    (hK : ∀ w', OM K w' b n (fun z => if z = y then none else M z) (if (M y).isSome then s - 1 else s) → Chg [b] w w' → wpList P ops Q rest (a.put o.dst (.tuple #[])) w') : wpList P ops Q (o :: rest) a w := by
  refine wpList_plain hg fun K' hK' => ?_
  obtain ⟨w', hr, h1, h2⟩ := h.del ht hy o.type
  unfold Oper.wp execOp
  simp only [hop, resolve, invoke, builtin, Sem.run_bind, Sem.run_pure, Result.andThen_ok, List.map_toArray, List.map_cons, List.map_nil, hm, hx, hr]
  exact hK' _ _ (hK w' h1 h2)
/-- .. in a region that draws its order. -/
theorem step_delete_om {P : Program} {k e : TypeId} {κ : Type} [DecidableEq κ] {K0 : KV P k κ} {ops : Array Oper} {o : Oper} {a : Act} {w : World} {K : Act → World → Prop} {Q : Exit → Act → World → Prop} {E : Prop} {b n s : Nat} {M : κ → Option Value} (hgd : o.guard = none) (m x : Operand) (t : TypeId)
    (hop : o.op = .call { callee := .builtin .delete, args := #[m, x], argTypes := #[t, k] }) (ht : P.underlying t = some (.map k e)) (hm : a.eval m = .map (some b)) (h : OM K0 w b n M s) (y : κ) (hy : K0.ok y) (hx : a.eval x = K0.val y)
    (hK : ∀ w', OM K0 w' b n (fun z => if z = y then none else M z) (if (M y).isSome then s - 1 else s) → Chg [b] w w' → K (a.put o.dst (.tuple #[])) w') : if Region.wanted o (yielded ops a.tmps) = true then Oper.wp P o a w K Q else E := by
  rw [if_pos (by simp [Region.wanted, hgd])]
  obtain ⟨w', hr, h1, h2⟩ := h.del ht hy o.type
  unfold Oper.wp execOp
  simp only [hop, resolve, invoke, builtin, Sem.run_bind, Sem.run_pure, Result.andThen_ok, List.map_toArray, List.map_cons, List.map_nil, hm, hx, hr]
  exact hK w' h1 h2

/-- What Drop has done. -/
def DrTo (w : World) (tb m1 m2 m3 q nn : Nat) (vs : Value) (sq : Int) (its : List It) (c : TC) (p : En × Int) (w' : World) : Prop :=
  ∃ vs' its', CtR w' tb m1 m2 m3 q nn vs' sq its' (dropC c p.1.fl) ∧ its'.Perm (stayI p.2 its) ∧ Chg (footT tb m1 m2 m3 q vs) w w' ∧ ∀ x ∈ footQ q vs', x ∈ footQ q vs ∨ w.heap.size ≤ x
section
variable {w : World} {tb m1 m2 m3 q nn : Nat} {vs : Value} {sq : Int} {its : List It} {c : TC}
theorem CtR.dr_fin {w3 w5 w6 w7 w8 : World} {K : Nat} {p : En × Int} {s2 s3 : Nat} (h : CtR w tb m1 m2 m3 q nn vs sq its c) (hci : CI K c) (hp : p ∈ c.l) (hc3 : Chg [] w w3)
    (hT : Turned w3 q vs sq (fun l' => l'.Perm (stayI p.2 its)) w5)
    (o3 : OM KZc w6 m3 nn (fun z => if z = p.2 then none else mF c.l z) s3) (hc6 : Chg [m3] w5 w6)
    (o2 : OM KF w7 m2 nn (fun z => if z = p.1.fl then none else mN c.l z) s2) (hc7 : Chg [m2] w6 w7)
    (o1 : OM KF w8 m1 nn (fun z => if z = p.1.fl then none else mE c.l z) (if (mE c.l p.1.fl).isSome then c.l.length - 1 else c.l.length)) (hc8 : Chg [m1] w7 w8) : DrTo w tb m1 m2 m3 q nn vs sq its c p w8 := by
  obtain ⟨vs', its', hqr, hok, hpm, hcq, hfq⟩ := hT
  obtain ⟨d1, d2, d3, d4, d5, d6⟩ := h.d1
  obtain ⟨f1, f2, f3, f4⟩ := h.d2
  have hz3 := hc3.size
  have hlt := h.lt
  have key : ∀ {x : Nat}, x ∈ footT tb m1 m2 m3 q vs → x ∉ footQ q vs → x ∉ footQ q vs' := fun {x} hx hn hm => (hfq x hm).elim hn (fun h3 => by have := hlt x hx; omega)
  have g1 := key (x := tb) (by simp [footT]) f1
  have g2 := key (x := m1) (by simp [footT]) f2
  have g3 := key (x := m2) (by simp [footT]) f3
  have g4 := key (x := m3) (by simp [footT]) f4
  have hget : getC c p.1.fl = some p := hci.get hp
  refine ⟨vs', its', ⟨?_, ?_, ⟨s2, ?_⟩, ⟨s3, ?_⟩, ?_, h.d1, g1, g2, g3, g4⟩, hpm, ?_, fun x hx => (hfq x hx).imp id (fun k => Nat.le_trans hz3 k)⟩
  · exact ((((h.blk.chg hc3 (by simp)).chg hcq f1).chg hc6 (by simpa using d3)).chg hc7 (by simpa using d2)).chg hc8 (by simpa using d1)
  · show OM KF w8 m1 nn (mE (dropL c.l p.1.fl)) (dropL c.l p.1.fl).length
    have hs : (mE c.l p.1.fl).isSome = true := by
      unfold mE; unfold getC at hget; rw [hget]; rfl
    rw [hs, if_pos rfl] at o1
    have hs2 : (c.l.find? fun p' => decide (flC p' = p.1.fl)).isSome = true := by unfold getC at hget; rw [hget]; rfl
    rw [mE_drop, drop_len hci.nd, if_pos hs2]
    exact o1
  · show OM KF w8 m2 nn (mN (dropL c.l p.1.fl)) s2
    rw [mN_drop]
    exact o2.chg hc8 (by simpa using Ne.symm d4)
  · show OM KZc w8 m3 nn (mF (dropL c.l (flC p))) s3
    rw [mF_drop hci hp]
    exact (o3.chg hc7 (by simpa using Ne.symm d6)).chg hc8 (by simpa using Ne.symm d5)
  · exact (((⟨hqr, hok⟩ : QU w5 q vs' sq its').chg hc6 (by intro x hx e; simp at e; subst e; exact g4 hx)).chg hc7 (by intro x hx e; simp at e; subst e; exact g3 hx)).chg hc8 (by intro x hx e; simp at e; subst e; exact g2 hx)
  · exact ((((hc3.more (by simp)).trans (hcq.more (fun x hx => by simp [footT]; exact .inr (.inr (.inr (.inr hx)))))).trans (hc6.more (by simp [footT]))).trans (hc7.more (by simp [footT]))).trans (hc8.more (by simp [footT]))
set_option maxRecDepth 100000 in
set_option maxHeartbeats 2000000 in
theorem cdrop_some {K : Nat} (h : CtR w tb m1 m2 m3 q nn vs sq its c) (hci : CI K c) (hK : K ≤ 1000) (hl : its.length ≤ 2900) {p : En × Int} (hp : p ∈ c.l) :
    Calls Try.prog 38 #[.pointer (some ⟨tb, 0, none⟩), p.1.fl.v] w fun e w' => e = .returned (.bool true) ∧ DrTo w tb m1 m2 m3 q nn vs sq its c p w' := by
  have hkf : okF p.1.fl := hci.ok p hp
  have hkz : (Lit.int .i64 p.2).wf = true := wf_c (by have := (hci.lo p hp).1; omega) (by have := (hci.lo p hp).2; have := hci.la; omega)
  have hget : getC c p.1.fl = some p := hci.get hp
  have hcA := (Chg.refl [] w).alloc (.cells (arrF p.1.fl) 73)
  have hBf : Blk (w.alloc (.cells (arrF p.1.fl) 73)) w.heap.size 73 (arrF p.1.fl) := Blk.new _ _ _
  have F0 : Hid (∀ W, Chg [] w W → Calls Try.prog 40 #[.pointer (some ⟨tb, 0, none⟩), p.1.fl.v] W fun e w' => e = .returned (.tuple #[.agg (arrN p.1), .bool true]) ∧ Chg [] W w') := Lib.hid (fun W hc => by
    have := cfind_any (h.chg0 hc) hkf
    unfold hasC at this
    rw [hget] at this
    exact this)
  have HL : Hid (∀ W, Chg [] w W → (Instr.lookup 126 (.map (some m2)) p.1.fl.v false).run Try.prog W = .ok (.int .i64 p.2) W) := Lib.hid fun W hc => by
    obtain ⟨s2, h2⟩ := (h.chg0 hc).on
    have := h2.look Try.underlying126 (z := .int .i64 0) (by kernel_rfl) (x := p.1.fl) hkf
    have e1 : (mN c.l p.1.fl).getD (.int .i64 0) = .int .i64 p.2 := by
      unfold mN; unfold getC at hget; rw [hget]; rfl
    rw [e1] at this
    exact this
  have FR := Lib.hid (fun W (hc : Chg [] w W) => qrem_any (h.chg0 hc).qu hl p.2)
  have HP : Hid (∀ w e w', RemPost w q vs sq its p.2 e w' = ((∃ n : Int, e = .returned (.int .i64 n)) ∧ Turned w q vs sq (fun l' => l'.Perm (stayI p.2 its)) w')) := Lib.hid fun _ _ _ => rfl
  have HI := Lib.hid (And.intro h (And.intro hcA hBf))
  have HZ := Lib.hid (And.intro hkf hkz)
  have HX := Lib.hid (And.intro hci hp)
  have hszA : (w.alloc (.cells (arrF p.1.fl) 73)).heap.size = w.heap.size + 1 := by simp
  clear h hcA hBf hkf hkz hget hci hp hl
  generalize hen : p.1 = en at *
  generalize hno : p.2 = no at *
  go_enter Try.func38, Try.ntmps38
  go_upto_region 1 with fail
  generalize w.alloc (.cells (arrF en.fl) 73) = w1 at *
  have FF := Lib.hid (F0.out w1 HI.out.2.1)
  have hBr := HI.out.2.2.rangeQ
  have H1sz := Lib.hid hszA
  generalize hg : w.heap.size = gf at *
  clear hszA
  go_wp2_with (first
    | (refine wpList_row 73 (.tmp 3) rfl rfl gf 0 rfl (arrF en.fl) _ hBr Try.underlying73 rfl infF ?_)
    | fail)
  refine FF.out.mono ?_
  rintro e w2 ⟨rfl, hc2⟩
  clear FF
  have hBl : Blk (w2.alloc (.cells arrN0 96)) w2.heap.size 96 arrN0 := Blk.new _ _ _
  have HC2 := Lib.hid (hc2.trans ((Chg.refl [] w2).alloc (.cells arrN0 96)))
  have HZ2 := Lib.hid hc2.size
  clear hc2
  go_wp2_with (first
    | (refine wpList_store_blk rfl 96 _ _ rfl rfl hBl rfl rfl rfl (infN (e := en)) rfl ?_; intro w3 hB3 hc3)
    | fail)
  have HC3 : Hid (Chg [] w1 w3) := Lib.hid (HC2.out.trans' hc3 (by intro y hy; simp at hy; subst hy; exact .inr HZ2.out))
  clear hBl HC2 hB3 hc3
  go_upto_region 4 with fail
  have HCC : Chg [] w w3 := HI.out.2.1.trans HC3.out
  have hS0 : Chg [] w3 w3.drew := (Chg.refl [] w3).drew
  have HC0 : ∀ W, Chg [] w3 W → W.cell? ⟨tb, 4, none⟩ = some (.map (some m2)) := fun W hc => (HCC.trans hc).cell (HI.out.1.blk.cell 4) (by simp)
  have HRF : ∀ W, Chg [] w3 W → W.rangeAt gf 0 (arrF en.fl).toList := fun W hc => (HI.out.2.2.chg (HC3.out.trans hc) (by simp)).rangeQ
  have HLK : ∀ W, Chg [] w3 W → (Instr.lookup 126 (.map (some m2)) en.fl.v false).run Try.prog W = .ok (.int .i64 no) W := fun W hc => HL.out W (HCC.trans hc)
  refine wp_region_noPanic ?_
  refine wp_region_held_drew (S := Chg [] w3) (by kernel_rfl) hS0 (fun _ => ?_)
  refine wpAnyH_take (i := 0) (v := ?_) rfl (by kernel_rfl) (by kernel_rfl) (by kernel_rfl) (fun _ _ _ h => h) (yields_pure (by rfl) (fun w => ?_)) (by with_reducible assumption) ?_
  rotate_left
  · (go_simp <;> with_reducible rfl)
  try simp only [List.getElem_toArray, List.getElem_cons_succ, List.getElem_cons_zero, Act.put, List.setIfInBounds_toArray, List.set_cons_zero, List.set_cons_succ]
  refine wpAnyH_take (i := 1) (v := ?_) rfl (by kernel_rfl) (by kernel_rfl) (by kernel_rfl) (fun _ _ _ h => h) (yields_pure (by rfl) (fun w => ?_)) (by with_reducible assumption) ?_
  rotate_left
  · (go_simp <;> with_reducible rfl)
  try simp only [List.getElem_toArray, List.getElem_cons_succ, List.getElem_cons_zero, Act.put, List.setIfInBounds_toArray, List.set_cons_zero, List.set_cons_succ]
  refine wpAnyH_take (i := 2) (v := ?_) rfl (by kernel_rfl) (by kernel_rfl) (by kernel_rfl) (fun _ _ _ h => h) (yields_pure (by rfl) (fun w => ?_)) (by with_reducible assumption) ?_
  rotate_left
  · (go_simp <;> with_reducible rfl)
  try simp only [List.getElem_toArray, List.getElem_cons_succ, List.getElem_cons_zero, Act.put, List.setIfInBounds_toArray, List.set_cons_zero, List.set_cons_succ]
  refine wpAnyH_take (i := 3) rfl (by kernel_rfl) (by kernel_rfl) (by kernel_rfl) (fun _ _ _ h => h) (yields_cell (by rfl) 126 (.tmp 18) rfl tb 4 rfl (.map (some m2)) _ HC0 Try.underlying126 rfl) (by with_reducible assumption) ?_
  try simp only [List.getElem_toArray, List.getElem_cons_succ, List.getElem_cons_zero, Act.put, List.setIfInBounds_toArray, List.set_cons_zero, List.set_cons_succ]
  refine wpAnyH_take (i := 4) rfl (by kernel_rfl) (by kernel_rfl) (by kernel_rfl) (fun _ _ _ h => h) (yields_row (by rfl) 73 (.tmp 3) rfl gf 0 rfl (arrF en.fl) _ HRF Try.underlying73 rfl infF) (by with_reducible assumption) ?_
  try simp only [List.getElem_toArray, List.getElem_cons_succ, List.getElem_cons_zero, Act.put, List.setIfInBounds_toArray, List.set_cons_zero, List.set_cons_succ]
  refine wpAnyH_take (i := 5) rfl (by kernel_rfl) (by kernel_rfl) (by kernel_rfl) (fun _ _ _ h => h) (yields_lookup (by rfl) 126 (.tmp 19) (.tmp 20) rfl rfl rfl (HLK)) (by with_reducible assumption) ?_
  try simp only [List.getElem_toArray, List.getElem_cons_succ, List.getElem_cons_zero, Act.put, List.setIfInBounds_toArray, List.set_cons_zero, List.set_cons_succ]
  refine wpAnyH_take (i := 6) (v := ?_) rfl (by kernel_rfl) (by kernel_rfl) (by kernel_rfl) (fun _ _ _ h => h) (yields_pure (by rfl) (fun w => ?_)) (by with_reducible assumption) ?_
  rotate_left
  · (go_simp <;> with_reducible rfl)
  try simp only [List.getElem_toArray, List.getElem_cons_succ, List.getElem_cons_zero, Act.put, List.setIfInBounds_toArray, List.set_cons_zero, List.set_cons_succ]
  refine wpAnyH_done (by kernel_rfl) ?_ _
  refine NoPanic.normal ?_
  clear hS0 HC0 HRF HLK
  have HC4 := Lib.hid HCC.drew
  have HB4 := Lib.hid (HI.out.2.2.chg HC3.out.drew (by simp))
  clear HCC HC3
  generalize w3.drew = w4 at *
  have F1 := Lib.hid (FR.out w4 HC4.out)
  have c6 : w4.cell? ⟨tb, 6, none⟩ = some (.pointer (some ⟨q, 0, none⟩)) := HC4.out.cell (HI.out.1.blk.cell 6) (by simp)
  go_wp2_with fail
  refine F1.out.mono ?_
  rintro e w5 hR
  rw [HP.out] at hR
  obtain ⟨⟨nr, rfl⟩, hT⟩ := hR
  clear F1 c6
  have hcq : Chg (footQ q vs) w4 w5 := by obtain ⟨_, _, _, _, _, h4, _⟩ := hT; exact h4
  have HT := Lib.hid hT
  have HQ5 := Lib.hid hcq
  have hB5 := HB4.out.chg hcq (by
    intro hx
    have := HI.out.1.lt gf (by simp [footT]; exact .inr (.inr (.inr (.inr hx))))
    omega)
  have c5 : w5.cell? ⟨tb, 5, none⟩ = some (.map (some m3)) := hcq.cell (HC4.out.cell (HI.out.1.blk.cell 5) (by simp)) HI.out.1.d2.1
  have HO3 : Hid (∃ s, OM KZc w5 m3 nn (mF c.l) s) := Lib.hid (by
    obtain ⟨s3, h3⟩ := HI.out.1.of
    exact ⟨s3, (h3.chg0 HC4.out).chg hcq HI.out.1.d2.2.2.2⟩)
  obtain ⟨s3, o3⟩ := HO3.out
  clear hT hcq HO3
  go_wp2_with (first
    | (refine wpList_delete_om2 rfl _ _ _ rfl Try.underlying127 rfl o3 no HZ.out.2 rfl ?_; intro w6 o6 hc6)
    | fail)
  have HO6 := Lib.hid o6
  have HC6 := Lib.hid hc6
  have hB6 := hB5.chg hc6 (by
    have := HI.out.1.lt m3 (by simp [footT])
    simp; omega)
  clear o6 hc6 o3 c5 hB5
  go_upto_region 7 with fail
  have hT4 : w6.cell? ⟨tb, 4, none⟩ = some (.map (some m2)) := HC6.out.cell (HQ5.out.cell (HC4.out.cell (HI.out.1.blk.cell 4) (by simp)) HI.out.1.d2.1) (by simpa using HI.out.1.d1.2.2.1)
  have hT3 : w6.cell? ⟨tb, 3, none⟩ = some (.map (some m1)) := HC6.out.cell (HQ5.out.cell (HC4.out.cell (HI.out.1.blk.cell 3) (by simp)) HI.out.1.d2.1) (by simpa using HI.out.1.d1.2.2.1)
  have HO2 : Hid (∃ s, OM KF w6 m2 nn (mN c.l) s) := Lib.hid (by
    obtain ⟨s2, h2⟩ := HI.out.1.on
    exact ⟨s2, (((h2.chg0 HC4.out).chg HQ5.out HI.out.1.d2.2.2.1).chg HC6.out (by simpa using HI.out.1.d1.2.2.2.2.2))⟩)
  have HO1 : Hid (OM KF w6 m1 nn (mE c.l) c.l.length) := Lib.hid (((HI.out.1.oe.chg0 HC4.out).chg HQ5.out HI.out.1.d2.2.1).chg HC6.out (by simpa using HI.out.1.d1.2.2.2.2.1))
  have g2 : gf ≠ m2 := by have := HI.out.1.lt m2 (by simp [footT]); omega
  have g1 : gf ≠ m1 := by have := HI.out.1.lt m1 (by simp [footT]); omega
  obtain ⟨s2, o2'⟩ := HO2.out
  have o2 := o2'.chg0 ((Chg.refl [] w6).drew)
  have hS0 : Chg [m2] w6 w6.drew := (Chg.refl [m2] w6).drew
  have HC0 : ∀ W, Chg [m2] w6 W → W.cell? ⟨tb, 4, none⟩ = some (.map (some m2)) := fun W hc => hc.cell hT4 (by simpa using HI.out.1.d1.2.1)
  have HRF : ∀ W, Chg [m2] w6 W → W.rangeAt gf 0 (arrF en.fl).toList := fun W hc => (hB6.chg hc (by simpa using g2)).rangeQ
  refine wp_region_noPanic ?_
  refine wp_region_held_drew (S := Chg [m2] w6) (by kernel_rfl) hS0 (fun _ => ?_)
  refine wpAnyH_take (i := 0) (v := ?_) rfl (by kernel_rfl) (by kernel_rfl) (by kernel_rfl) (fun _ _ _ h => h) (yields_pure (by rfl) (fun w => ?_)) (by with_reducible assumption) ?_
  rotate_left
  · (go_simp <;> with_reducible rfl)
  try simp only [List.getElem_toArray, List.getElem_cons_succ, List.getElem_cons_zero, Act.put, List.setIfInBounds_toArray, List.set_cons_zero, List.set_cons_succ]
  refine wpAnyH_take (i := 1) (v := ?_) rfl (by kernel_rfl) (by kernel_rfl) (by kernel_rfl) (fun _ _ _ h => h) (yields_pure (by rfl) (fun w => ?_)) (by with_reducible assumption) ?_
  rotate_left
  · (go_simp <;> with_reducible rfl)
  try simp only [List.getElem_toArray, List.getElem_cons_succ, List.getElem_cons_zero, Act.put, List.setIfInBounds_toArray, List.set_cons_zero, List.set_cons_succ]
  refine wpAnyH_take (i := 2) (v := ?_) rfl (by kernel_rfl) (by kernel_rfl) (by kernel_rfl) (fun _ _ _ h => h) (yields_pure (by rfl) (fun w => ?_)) (by with_reducible assumption) ?_
  rotate_left
  · (go_simp <;> with_reducible rfl)
  try simp only [List.getElem_toArray, List.getElem_cons_succ, List.getElem_cons_zero, Act.put, List.setIfInBounds_toArray, List.set_cons_zero, List.set_cons_succ]
  refine wpAnyH_take (i := 3) rfl (by kernel_rfl) (by kernel_rfl) (by kernel_rfl) (fun _ _ _ h => h) (yields_cell (by rfl) 126 (.tmp 35) rfl tb 4 rfl (.map (some m2)) _ HC0 Try.underlying126 rfl) (by with_reducible assumption) ?_
  try simp only [List.getElem_toArray, List.getElem_cons_succ, List.getElem_cons_zero, Act.put, List.setIfInBounds_toArray, List.set_cons_zero, List.set_cons_succ]
  refine wpAnyH_take (i := 4) rfl (by kernel_rfl) (by kernel_rfl) (by kernel_rfl) (fun _ _ _ h => h) (yields_row (by rfl) 73 (.tmp 3) rfl gf 0 rfl (arrF en.fl) _ HRF Try.underlying73 rfl infF) (by with_reducible assumption) ?_
  try simp only [List.getElem_toArray, List.getElem_cons_succ, List.getElem_cons_zero, Act.put, List.setIfInBounds_toArray, List.set_cons_zero, List.set_cons_succ]
  refine wpAnyH_ready (rs := [5]) (by kernel_rfl) (by simp) (AllReadyH.cons rfl (fun K hK => ?_) AllReadyH.nil)
  refine step_delete_om rfl _ _ _ rfl Try.underlying126 rfl o2 en.fl HZ.out.1 rfl ?_
  intro w7 o7 hc7
  have hcS : Chg [m2] w6 w7 := ((Chg.refl [m2] w6).drew).trans hc7
  refine hK.out _ _ (by with_reducible assumption) (fun _ => ?_)
  clear hK K
  try simp only [List.getElem_toArray, List.getElem_cons_succ, List.getElem_cons_zero, Act.put, List.setIfInBounds_toArray, List.set_cons_zero, List.set_cons_succ]
  refine wpAnyH_done (by kernel_rfl) ?_ _
  refine NoPanic.normal ?_
  have HO7 := Lib.hid o7
  have HC7 := Lib.hid hcS
  have hB7 := hB6.chg hcS (by simpa using g2)
  have hT3 := hcS.cell hT3 (by simpa using HI.out.1.d1.2.1)
  clear o2' o2 hS0 HC0 HRF o7 hc7 hcS HO2
  go_upto_region 8 with fail
  have o2 := (HO1.out.chg HC7.out (by simpa using HI.out.1.d1.2.2.2.1)).chg0 ((Chg.refl [] w7).drew)
  have hS0 : Chg [m1] w7 w7.drew := (Chg.refl [m1] w7).drew
  have HC0 : ∀ W, Chg [m1] w7 W → W.cell? ⟨tb, 3, none⟩ = some (.map (some m1)) := fun W hc => hc.cell hT3 (by simpa using HI.out.1.d1.1)
  have HRF : ∀ W, Chg [m1] w7 W → W.rangeAt gf 0 (arrF en.fl).toList := fun W hc => (hB7.chg hc (by simpa using g1)).rangeQ
  refine wp_region_noPanic ?_
  refine wp_region_held_drew (S := Chg [m1] w7) (by kernel_rfl) hS0 (fun _ => ?_)
  refine wpAnyH_take (i := 0) (v := ?_) rfl (by kernel_rfl) (by kernel_rfl) (by kernel_rfl) (fun _ _ _ h => h) (yields_pure (by rfl) (fun w => ?_)) (by with_reducible assumption) ?_
  rotate_left
  · (go_simp <;> with_reducible rfl)
  try simp only [List.getElem_toArray, List.getElem_cons_succ, List.getElem_cons_zero, Act.put, List.setIfInBounds_toArray, List.set_cons_zero, List.set_cons_succ]
  refine wpAnyH_take (i := 1) (v := ?_) rfl (by kernel_rfl) (by kernel_rfl) (by kernel_rfl) (fun _ _ _ h => h) (yields_pure (by rfl) (fun w => ?_)) (by with_reducible assumption) ?_
  rotate_left
  · (go_simp <;> with_reducible rfl)
  try simp only [List.getElem_toArray, List.getElem_cons_succ, List.getElem_cons_zero, Act.put, List.setIfInBounds_toArray, List.set_cons_zero, List.set_cons_succ]
  refine wpAnyH_take (i := 2) (v := ?_) rfl (by kernel_rfl) (by kernel_rfl) (by kernel_rfl) (fun _ _ _ h => h) (yields_pure (by rfl) (fun w => ?_)) (by with_reducible assumption) ?_
  rotate_left
  · (go_simp <;> with_reducible rfl)
  try simp only [List.getElem_toArray, List.getElem_cons_succ, List.getElem_cons_zero, Act.put, List.setIfInBounds_toArray, List.set_cons_zero, List.set_cons_succ]
  refine wpAnyH_take (i := 3) rfl (by kernel_rfl) (by kernel_rfl) (by kernel_rfl) (fun _ _ _ h => h) (yields_cell (by rfl) 125 (.tmp 40) rfl tb 3 rfl (.map (some m1)) _ HC0 Try.underlying125 rfl) (by with_reducible assumption) ?_
  try simp only [List.getElem_toArray, List.getElem_cons_succ, List.getElem_cons_zero, Act.put, List.setIfInBounds_toArray, List.set_cons_zero, List.set_cons_succ]
  refine wpAnyH_take (i := 4) rfl (by kernel_rfl) (by kernel_rfl) (by kernel_rfl) (fun _ _ _ h => h) (yields_row (by rfl) 73 (.tmp 3) rfl gf 0 rfl (arrF en.fl) _ HRF Try.underlying73 rfl infF) (by with_reducible assumption) ?_
  try simp only [List.getElem_toArray, List.getElem_cons_succ, List.getElem_cons_zero, Act.put, List.setIfInBounds_toArray, List.set_cons_zero, List.set_cons_succ]
  refine wpAnyH_ready (rs := [5]) (by kernel_rfl) (by simp) (AllReadyH.cons rfl (fun K hK => ?_) AllReadyH.nil)
  refine step_delete_om rfl _ _ _ rfl Try.underlying125 rfl o2 en.fl HZ.out.1 rfl ?_
  intro w8 o7 hc7
  have hcS : Chg [m1] w7 w8 := ((Chg.refl [m1] w7).drew).trans hc7
  refine hK.out _ _ (by with_reducible assumption) (fun _ => ?_)
  clear hK K
  try simp only [List.getElem_toArray, List.getElem_cons_succ, List.getElem_cons_zero, Act.put, List.setIfInBounds_toArray, List.set_cons_zero, List.set_cons_succ]
  refine wpAnyH_done (by kernel_rfl) ?_ _
  refine NoPanic.normal ?_
  have HO8 := Lib.hid o7
  have HC8 := Lib.hid hcS
  clear o2 hS0 HC0 HRF o7 hc7 hcS hT3 hT4
  go_wp2_with fail
  go_ret
  subst hen hno
  exact ⟨rfl, HI.out.1.dr_fin HX.out.1 HX.out.2 HC4.out HT.out HO6.out HC6.out HO7.out HC7.out HO8.out HC8.out⟩
set_option maxRecDepth 100000 in
set_option maxHeartbeats 2000000 in
theorem cdrop_none (h : CtR w tb m1 m2 m3 q nn vs sq its c) {f : Fl} (hf : okF f) (hn : hasC c f = false) :
    Calls Try.prog 38 #[.pointer (some ⟨tb, 0, none⟩), f.v] w fun e w' => e = .returned (.bool false) ∧ Chg [] w w' := by
  have hcA := (Chg.refl [] w).alloc (.cells (arrF f) 73)
  have hBf : Blk (w.alloc (.cells (arrF f) 73)) w.heap.size 73 (arrF f) := Blk.new _ _ _
  have F0 := cfind_any (h.chg0 hcA) hf
  have hg : getC c f = none := by unfold hasC at hn; simpa using hn
  rw [hn, hg] at F0
  have FF := Lib.hid F0
  have HC1 := Lib.hid hcA
  clear h hcA hf hn hg F0
  go_enter Try.func38, Try.ntmps38
  go_upto_region 1 with fail
  generalize w.alloc (.cells (arrF f) 73) = w1 at *
  have hBr := hBf.rangeQ
  have hlt := hBf.lt
  generalize w.heap.size = gf at *
  clear hBf
  go_wp2_with (first
    | (refine wpList_row 73 (.tmp 3) rfl rfl gf 0 rfl (arrF f) _ hBr Try.underlying73 rfl infF ?_)
    | fail)
  refine FF.out.mono ?_
  rintro e w2 ⟨rfl, hc2⟩
  clear FF
  have hBl : Blk (w2.alloc (.cells arrN0 96)) w2.heap.size 96 arrN0 := Blk.new _ _ _
  have HC2 := Lib.hid (hc2.trans ((Chg.refl [] w2).alloc (.cells arrN0 96)))
  have HZ2 := Lib.hid hc2.size
  clear hc2
  go_wp2_with (first
    | (refine wpList_store_blk rfl 96 _ _ rfl rfl hBl rfl rfl rfl (infN (e := eN0)) rfl ?_; intro w3 hB3 hc3)
    | fail)
  have HC3 : Hid (Chg [] w1 w3) := Lib.hid (HC2.out.trans' hc3 (by intro y hy; simp at hy; subst hy; exact .inr HZ2.out))
  clear hBl HC2 hB3 hc3
  go_wp2_with fail
  go_ret
  exact ⟨rfl, HC1.out.trans HC3.out⟩
end
theorem DrTo.cts {W w w' : World} {tb m1 m2 m3 q nn K : Nat} {vs : Value} {sq : Int} {its : List It} {c : TC} {p : En × Int} (h : DrTo w tb m1 m2 m3 q nn vs sq its c p w') (hci : CI K c) (hp : p ∈ c.l) (hnn : nn ≤ K) (h0 : 0 ≤ sq) (h1 : sq ≤ K) (hpm : (its.map fun x => (x.at_, x.id)).Perm (c.l.map fun p => (p.1.til, p.2)))
    (hcW : Chg [] W w) (hnew : ∀ x ∈ footT tb m1 m2 m3 q vs, W.heap.size ≤ x) : CtTo W w tb K (dropC c p.1.fl) (footT tb m1 m2 m3 q vs) w' := by
  obtain ⟨vs', its', hr, hpp, hc, hf⟩ := h
  have hf' : ∀ x ∈ footT tb m1 m2 m3 q vs', x ∈ footT tb m1 m2 m3 q vs ∨ w.heap.size ≤ x := by
    intro x hx
    simp only [footT, List.mem_cons] at hx ⊢
    rcases hx with h | h | h | h | h
    · exact .inl (.inl h)
    · exact .inl (.inr (.inl h))
    · exact .inl (.inr (.inr (.inl h)))
    · exact .inl (.inr (.inr (.inr (.inl h))))
    · exact (hf x h).imp (fun k => .inr (.inr (.inr (.inr k)))) id
  refine ⟨_, ⟨⟨m1, m2, m3, q, nn, vs', sq, its', hr, rfl, hnn, h0, h1, ?_⟩, hci.drop _, hcW.trans' hc (fun x hx => .inr (hnew x hx)), fun x hx => (hf' x hx).elim (hnew x) (fun k => Nat.le_trans hcW.size k)⟩, hc, hf'⟩
  refine (hpp.map _).trans ?_
  have := hpm.filter (fun q => !(q.2 == p.2))
  rw [List.filter_map, List.filter_map] at this
  show List.Perm _ ((dropL c.l (flC p)).map _)
  rw [drop_no hci hp]
  exact this
theorem cdrop_any {W w : World} {tb K : Nat} {c : TC} {S : List Nat} (h : CtS W w tb K c S) (hK : K ≤ 1000) {f : Fl} (hf : okF f) :
    Calls Try.prog 38 #[.pointer (some ⟨tb, 0, none⟩), f.v] w fun e w' => e = .returned (.bool (hasC c f)) ∧ CtTo W w tb K (dropC c f) S w' := by
  obtain ⟨⟨m1, m2, m3, q, nn, vs, sq, its, hr, rfl, hnn, h0, h1, hpm⟩, hci, hcW, hnew⟩ := h
  cases hg : getC c f with
  | none =>
    have hn : hasC c f = false := by unfold hasC; rw [hg]; rfl
    refine (cdrop_none hr hf hn).mono ?_
    rintro e w' ⟨rfl, hc⟩
    rw [hn, drop_none hg]
    exact ⟨rfl, CtS.same ⟨⟨m1, m2, m3, q, nn, vs, sq, its, hr, rfl, hnn, h0, h1, hpm⟩, hci, hcW, hnew⟩ (Nat.le_refl _) hc⟩
  | some p =>
    have hn : hasC c f = true := by unfold hasC; rw [hg]; rfl
    obtain ⟨hp, rfl⟩ := getC_some hg
    have hl : its.length ≤ 2900 := by
      have h2 := hpm.length_eq
      have := hci.len; have := hci.n1
      simp at h2
      omega
    refine (cdrop_some hr hci hK hl hp).mono ?_
    rintro e w' ⟨rfl, hd⟩
    rw [hn]
    exact ⟨rfl, hd.cts hci hp hnn h0 h1 hpm hcW hnew⟩
end Go.Proofs.Ytgbdbeaflilmlaa
