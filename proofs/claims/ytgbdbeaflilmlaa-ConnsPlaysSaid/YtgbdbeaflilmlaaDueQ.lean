/-
  WALKS over package due: an item pushed, the first one taken out. Condition: a queue is at most 3000 items.
-/
import Derived.Test.YtgbdbeaflilmlaaDueD
import Derived.Test.YtgbdbeaflilmlaaDueDel
set_option linter.unusedVariables false
set_option linter.unusedSimpArgs false
namespace Go.Proofs.Ytgbdbeaflilmlaa
open Go.RowKit

/-- A queue: its block, its row, its items as they lie. -/
structure QR (w : World) (q : Nat) (vs : Value) (sq : Int) (l : List It) : Prop where
  blk : Blk w q 158 #[.bool true, vs, .int .i64 sq]
  own : w.ownsRow 0 162 3 vs l.length (l.flatMap encI)
  far : q ∉ vs.ownBlock.toList
def footQ (q : Nat) (vs : Value) : List Nat := q :: vs.ownBlock.toList
section
variable {w w' : World} {q : Nat} {vs : Value} {sq : Int} {l : List It} {S : List Nat}
theorem QR.chg (h : QR w q vs sq l) (hc : Chg S w w') (hS : ∀ x ∈ footQ q vs, x ∉ S) : QR w' q vs sq l :=
  ⟨h.blk.chg hc (hS q (by simp [footQ])), own_chg h.own hc (fun x hx => hS x (by simp [footQ] at *; exact .inr hx)), h.far⟩
theorem QR.chg0 (h : QR w q vs sq l) (hc : Chg [] w w') : QR w' q vs sq l := h.chg hc (by simp)
theorem QR.lt (h : QR w q vs sq l) : ∀ x ∈ footQ q vs, x < w.heap.size := by
  intro x hx
  rcases List.mem_cons.1 hx with rfl | hx
  · exact h.blk.lt
  · exact (own_lt h.own x hx).2
theorem QR.hq (h : QR w q vs sq l) (hl : l ≠ []) : ∃ g cap, vs = .slice (some ⟨g, 0, none⟩) l.length cap ∧ HQ w q g (cap * 3) cap sq l := by
  have hb := h.blk
  have hf := h.far
  rcases h.own.2 with ⟨_, h0⟩ | ⟨g, cap, cur, hv, hg, hh, hn, hm, hs, ht⟩
  · exact absurd (List.eq_nil_of_length_eq_zero h0) hl
  · subst hv
    exact ⟨g, cap, rfl, hb, ⟨cur, hh, hs, ht⟩, rfl, hn, fun e => hf (by simp [Value.ownBlock, e]), hm⟩
theorem HQ.qr {g c cap : Nat} (h : HQ w q g c cap sq l) : QR w q (.slice (some ⟨g, 0, none⟩) l.length cap) sq l := by
  obtain ⟨cs, hk, hc, ht⟩ := h.row
  exact ⟨h.blk, ⟨by rw [flat_len encI_len], .inr ⟨g, cap, cs, rfl, Nat.zero_le _, hk, h.hl, h.hm, by rw [hc, h.hc], ht⟩⟩, by simpa [Value.ownBlock] using h.qg⟩
end

/-- A cell loaded, in a region. -/
theorem step_load_cell {P : Program} {ops : Array Oper} {op : Oper} {a : Act} {w : World} {K : Act → World → Prop} {Q : Exit → Act → World → Prop} {E : Prop} (hgd : op.guard = none) (ty : TypeId) (x : Operand) (ho : op.op = .load ty x) (b off : Nat) (hx : a.eval x = .pointer (some ⟨b, off, none⟩)) (v : Value) (d : TypeDesc)
    (hS : w.cell? ⟨b, off, none⟩ = some v) (hu : P.underlying ty = some d) (hd : d.isRow = false) (h : K (a.put op.dst v) w) : if Region.wanted op (yielded ops a.tmps) = true then Oper.wp P op a w K Q else E := by
  rw [if_pos (by simp [Region.wanted, hgd])]
  unfold Oper.wp execOp
  simp only [ho, hx, Instr.loadAt, Instr.sureAddr, Sem.run_bind, Sem.run_pure, Result.andThen_ok, run_loadVar_one w _ ty d v hS hu hd]
  exact h
theorem litI (w : World) (x : It) : Sl (w.alloc (.cells (arrI x) 162)) 0 3 (.slice (some ⟨w.heap.size, 0, none⟩) 1 1) 1 (encI x) :=
  Sl.of_own (own_lit (base := 0) w 162 3 1 (arrI x) (Nat.zero_le _) (by simp [maxLen]) rfl)

def PushPost (w : World) (q : Nat) (vs : Value) (sq : Int) (l : List It) (w' : World) : Prop := ∃ vs', QR w' q vs' sq l ∧ Chg (footQ q vs) w w' ∧ ∀ x ∈ footQ q vs', x ∈ footQ q vs ∨ w.heap.size ≤ x
theorem push_fin {w w1 : World} {q : Nat} {vs : Value} {sq : Int} {l : List It} {x : It} (h : QR w q vs sq l) (hZ : Chg [] w w1) (v7 : Value) (w7 : World) (hown : w7.ownsRow 0 162 3 v7 (l.length + 1) (l.flatMap encI ++ encI x)) (hc : Chg vs.ownBlock.toList w1 w7) (hb : v7.ownBlock = vs.ownBlock ∨ v7.ownBlock = some w1.heap.size) :
    PushPost w q vs sq (l ++ [x]) (w7.setCell ⟨q, 1, none⟩ v7) := by
  have hB := (h.chg0 hZ).blk.chg hc h.far
  have hle := hZ.size
  have hfar : q ∉ v7.ownBlock.toList := by
    rcases hb with hb | hb
    · rw [hb]; exact h.far
    · rw [hb]; have := h.blk.lt; simp; omega
  have hc2 : Chg [q] w7 (w7.setCell ⟨q, 1, none⟩ v7) := (Chg.refl _ _).setCell (.inl (by simp)) _
  refine ⟨v7, ⟨?_, ?_, hfar⟩, ?_, fun y hy => ?_⟩
  · exact hB.set_ 1 v7
  · rw [List.length_append, List.flatMap_append]
    simp only [List.length_cons, List.length_nil, List.flatMap_cons, List.flatMap_nil, List.append_nil]
    exact own_chg hown hc2 (fun y hy hm => by simp at hm; subst hm; exact hfar hy)
  · exact (hZ.more (by simp)).trans ((hc.more (T := footQ q vs) (fun y hy => by simp [footQ] at *; exact .inr hy)).trans (hc2.more (fun y hy => by simp at hy; subst hy; simp [footQ])))
  · rcases List.mem_cons.1 hy with rfl | hy
    · exact .inl (by simp [footQ])
    · rcases hb with hb | hb
      · rw [hb] at hy; exact .inl (by simp [footQ] at *; exact .inr hy)
      · rw [hb] at hy; simp at hy; subst hy; exact .inr hle
set_option maxRecDepth 100000 in
set_option maxHeartbeats 1000000 in
theorem ipush_any {w : World} {q : Nat} {vs : Value} {sq : Int} {l : List It} (h : QR w q vs sq l) (hl : l.length ≤ 3000) (x : It) :
    Calls Try.prog 176 #[.pointer (some ⟨q, 1, none⟩), .iface 162 x.v] w fun e w' => e = .returned (.tuple #[]) ∧ PushPost w q vs sq (l ++ [x]) w' := by
  have H0 := Lib.hid h
  have c1 : w.drew.cell? ⟨q, 1, none⟩ = some vs := h.blk.drew.cell 1
  have c2 : ((w.alloc (.cells (arrI x) 162)).drew).cell? ⟨q, 1, none⟩ = some vs := (h.blk.alloc _).drew.cell 1
  have hB1 : Blk ((w.alloc (.cells (arrI x) 162)).drew) q 158 #[.bool true, vs, .int .i64 sq] := (h.blk.alloc _).drew
  have hZ := ((Chg.refl [] w).alloc (.cells (arrI x) 162)).drew
  have hown1 := own_chg h.own hZ (by simp)
  have hlit := (litI w x).chg0 ((Chg.refl [] _).drew)
  have HF := Lib.hid (push_fin (x := x) h hZ)
  clear hZ
  have hta := fun i W => run_assert (P := Try.prog) Try.underlying162 rfl x.v i W
  have hA : AnyW w.drew := trivial
  have hA1 : AnyW ((w.alloc (.cells (arrI x) 162)).drew) := trivial
  clear h
  go_enter Try.func176, Try.ntmps176
  go_wp2_with fail
  refine wp_region_noPanic ?_
  refine wp_region_held_drew (S := AnyW) (by kernel_rfl) hA (fun _ => ?_)
  refine wpAnyH_take (i := 0) (v := ?_) rfl (by kernel_rfl) (by kernel_rfl) (by kernel_rfl) (fun _ _ _ h => h) (yields_pure (by rfl) (fun w => ?_)) (by with_reducible assumption) ?_
  rotate_left
  · (go_simp <;> with_reducible rfl)
  try simp only [List.getElem_toArray, List.getElem_cons_succ, List.getElem_cons_zero, Act.put, List.setIfInBounds_toArray, List.set_cons_zero, List.set_cons_succ]
  refine wpAnyH_take (i := 1) (v := ?_) rfl (by kernel_rfl) (by kernel_rfl) (by kernel_rfl) (fun _ _ _ h => h) (yields_pure (by rfl) (fun w => ?_)) (by with_reducible assumption) ?_
  rotate_left
  · (go_simp <;> with_reducible rfl)
  try simp only [List.getElem_toArray, List.getElem_cons_succ, List.getElem_cons_zero, Act.put, List.setIfInBounds_toArray, List.set_cons_zero, List.set_cons_succ]
  refine wpAnyH_take (i := 2) (v := ?_) rfl (by kernel_rfl) (by kernel_rfl) (by kernel_rfl) (fun _ _ _ h => h) (yields_pure (by rfl) (fun w => ?_)) (by with_reducible assumption) ?_
  rotate_left
  · (go_simp <;> with_reducible rfl)
  try simp only [List.getElem_toArray, List.getElem_cons_succ, List.getElem_cons_zero, Act.put, List.setIfInBounds_toArray, List.set_cons_zero, List.set_cons_succ]
  refine wpAnyH_take (i := 4) (v := ?_) rfl (by kernel_rfl) (by kernel_rfl) (by kernel_rfl) (fun _ _ _ h => h) (yields_pure (by rfl) (fun w => ?_)) (by with_reducible assumption) ?_
  rotate_left
  · (go_simp <;> with_reducible rfl)
  try simp only [List.getElem_toArray, List.getElem_cons_succ, List.getElem_cons_zero, Act.put, List.setIfInBounds_toArray, List.set_cons_zero, List.set_cons_succ]
  refine wpAnyH_take (i := 5) (v := ?_) rfl (by kernel_rfl) (by kernel_rfl) (by kernel_rfl) (fun _ _ _ h => h) (yields_pure (by rfl) (fun w => ?_)) (by with_reducible assumption) ?_
  rotate_left
  · (go_simp <;> with_reducible rfl)
  try simp only [List.getElem_toArray, List.getElem_cons_succ, List.getElem_cons_zero, Act.put, List.setIfInBounds_toArray, List.set_cons_zero, List.set_cons_succ]
  refine wpAnyH_ready (rs := [3, 6]) (by kernel_rfl) (by simp) (AllReadyH.cons rfl (fun K hK => ?_) (AllReadyH.cons rfl (fun K hK => ?_) AllReadyH.nil))
  · refine step_load_cell rfl 156 (.tmp 6) rfl q 1 rfl vs _ c1 Try.underlying156 rfl ?_
    refine hK.out _ _ (by with_reducible assumption) (fun _ => ?_)
    clear hK K
    try simp only [List.getElem_toArray, List.getElem_cons_succ, List.getElem_cons_zero, Act.put, List.setIfInBounds_toArray, List.set_cons_zero, List.set_cons_succ]
    refine wpAnyH_ready (rs := [6]) (by kernel_rfl) (by simp) (AllReadyH.cons rfl (fun K hK => ?_) AllReadyH.nil)
    go_simp
    refine hK.out _ _ (by with_reducible assumption) (fun _ => ?_)
    clear hK K
    try simp only [List.getElem_toArray, List.getElem_cons_succ, List.getElem_cons_zero, Act.put, List.setIfInBounds_toArray, List.set_cons_zero, List.set_cons_succ]
    refine wpAnyH_ready (rs := [7]) (by kernel_rfl) (by simp) (AllReadyH.cons rfl (fun K hK => ?_) AllReadyH.nil)
    refine step_app elI rfl (.tmp 7) (.tmp 10) rfl 0 rfl hown1 rfl hlit (encI_one x) (by unfold maxLen; omega) (by omega) (Nat.zero_le _) ?_
    intro v7 w7 hown7 hc7 hb7
    obtain ⟨g7, cap7, rfl, _, _⟩ := own_form hown7 (by omega)
    have hB7 := hB1.chg hc7 H0.out.far
    have k7 := hB7.cell 1
    have f7 := hB7.frozen 1
    have hA7 : AnyW w7 := trivial
    have hA8 : AnyW (w7.setCell ⟨q, 1, none⟩ (.slice (some ⟨g7, 0, none⟩) (l.length + 1) cap7)) := trivial
    refine hK.out _ _ (by with_reducible assumption) (fun _ => ?_)
    clear hK K
    try simp only [List.getElem_toArray, List.getElem_cons_succ, List.getElem_cons_zero, Act.put, List.setIfInBounds_toArray, List.set_cons_zero, List.set_cons_succ]
    refine wpAnyH_take (i := 8) (v := ?_) rfl (by kernel_rfl) (by kernel_rfl) (by kernel_rfl) (fun _ _ _ h => h) (yields_pure (by rfl) (fun w => ?_)) (by with_reducible assumption) ?_
    rotate_left
    · (go_simp <;> with_reducible rfl)
    try simp only [List.getElem_toArray, List.getElem_cons_succ, List.getElem_cons_zero, Act.put, List.setIfInBounds_toArray, List.set_cons_zero, List.set_cons_succ]
    refine wpAnyH_ready (rs := [9]) (by kernel_rfl) (by simp) (AllReadyH.cons rfl (fun K hK => ?_) AllReadyH.nil)
    go_simp
    refine hK.out _ _ (by with_reducible assumption) (fun _ => ?_)
    clear hK K
    try simp only [List.getElem_toArray, List.getElem_cons_succ, List.getElem_cons_zero, Act.put, List.setIfInBounds_toArray, List.set_cons_zero, List.set_cons_succ]
    refine wpAnyH_done (by kernel_rfl) ?_ _
    refine NoPanic.normal ?_
    go_end0
    exact ⟨rfl, HF.out _ w7 hown7 hc7 hb7⟩
  · go_simp
    refine hK.out _ _ (by with_reducible assumption) (fun _ => ?_)
    clear hK K
    try simp only [List.getElem_toArray, List.getElem_cons_succ, List.getElem_cons_zero, Act.put, List.setIfInBounds_toArray, List.set_cons_zero, List.set_cons_succ]
    refine wpAnyH_ready (rs := [3]) (by kernel_rfl) (by simp) (AllReadyH.cons rfl (fun K hK => ?_) AllReadyH.nil)
    refine step_load_cell rfl 156 (.tmp 6) rfl q 1 rfl vs _ c2 Try.underlying156 rfl ?_
    refine hK.out _ _ (by with_reducible assumption) (fun _ => ?_)
    clear hK K
    try simp only [List.getElem_toArray, List.getElem_cons_succ, List.getElem_cons_zero, Act.put, List.setIfInBounds_toArray, List.set_cons_zero, List.set_cons_succ]
    refine wpAnyH_ready (rs := [7]) (by kernel_rfl) (by simp) (AllReadyH.cons rfl (fun K hK => ?_) AllReadyH.nil)
    refine step_app elI rfl (.tmp 7) (.tmp 10) rfl 0 rfl hown1 rfl hlit (encI_one x) (by unfold maxLen; omega) (by omega) (Nat.zero_le _) ?_
    intro v7 w7 hown7 hc7 hb7
    obtain ⟨g7, cap7, rfl, _, _⟩ := own_form hown7 (by omega)
    have hB7 := hB1.chg hc7 H0.out.far
    have k7 := hB7.cell 1
    have f7 := hB7.frozen 1
    have hA7 : AnyW w7 := trivial
    have hA8 : AnyW (w7.setCell ⟨q, 1, none⟩ (.slice (some ⟨g7, 0, none⟩) (l.length + 1) cap7)) := trivial
    refine hK.out _ _ (by with_reducible assumption) (fun _ => ?_)
    clear hK K
    try simp only [List.getElem_toArray, List.getElem_cons_succ, List.getElem_cons_zero, Act.put, List.setIfInBounds_toArray, List.set_cons_zero, List.set_cons_succ]
    refine wpAnyH_take (i := 8) (v := ?_) rfl (by kernel_rfl) (by kernel_rfl) (by kernel_rfl) (fun _ _ _ h => h) (yields_pure (by rfl) (fun w => ?_)) (by with_reducible assumption) ?_
    rotate_left
    · (go_simp <;> with_reducible rfl)
    try simp only [List.getElem_toArray, List.getElem_cons_succ, List.getElem_cons_zero, Act.put, List.setIfInBounds_toArray, List.set_cons_zero, List.set_cons_succ]
    refine wpAnyH_ready (rs := [9]) (by kernel_rfl) (by simp) (AllReadyH.cons rfl (fun K hK => ?_) AllReadyH.nil)
    go_simp
    refine hK.out _ _ (by with_reducible assumption) (fun _ => ?_)
    clear hK K
    try simp only [List.getElem_toArray, List.getElem_cons_succ, List.getElem_cons_zero, Act.put, List.setIfInBounds_toArray, List.set_cons_zero, List.set_cons_succ]
    refine wpAnyH_done (by kernel_rfl) ?_ _
    refine NoPanic.normal ?_
    go_end0
    exact ⟨rfl, HF.out _ w7 hown7 hc7 hb7⟩
end Go.Proofs.Ytgbdbeaflilmlaa
