/-
  WALKS over package pick: the first backend from a slot on; the two of a hash. Condition: the table reads as at most 300 integers.
-/
import Derived.Test.YtecblclpchndiaaGreatPickIter
import Derived.RangeFuncCalls
set_option linter.unusedVariables false
set_option linter.unusedSimpArgs false
namespace Go.Proofs.YtecblclpchndiaaGreat
open Go.RowKit Go.Shelf

attribute [local go_sem] Oper.semAt_some

theorem cell_of_box_l {W : World} {B : Nat} {v : Value} {t : TypeId} (h : W.heap[B]? = some (.cells #[v] t (0, 0))) : W.cell? ⟨B, 0, none⟩ = some v ∧ W.frozen? ⟨B, 0, none⟩ = false := by
  constructor <;> simp [World.cell?, World.frozen?, h]
theorem cell_new_l (W : World) (v : Value) (t : TypeId) : (W.alloc (.cells #[v] t)).cell? ⟨W.heap.size, 0, none⟩ = some v ∧ (W.alloc (.cells #[v] t)).frozen? ⟨W.heap.size, 0, none⟩ = false :=
  cell_of_box_l (World.alloc_heap_new W _)
theorem cell_alloc_l {W : World} {a : Addr} {v : Value} (o : Obj) (h : W.cell? a = some v) : (W.alloc o).cell? a = some v := cell_kept h (World.grownBy_alloc W o none) (fun r e => by cases e)
theorem frozen_alloc_l {W : World} {a : Addr} {v : Value} (o : Obj) (h : W.cell? a = some v) (hf : W.frozen? a = false) : (W.alloc o).frozen? a = false := (frozen_kept h (World.grownBy_alloc W o none) (fun r e => by cases e)).trans hf
/-- The slice v reads as the integers l. -/
def SlZ (w : World) (B : Nat) (v : Value) (l : List Int) : Prop := Sl w B 1 v l.length (l.map (Value.int .i64))
theorem SlZ.chg0 {w w' : World} {B : Nat} {v : Value} {l : List Int} (h : SlZ w B v l) (hc : Chg [] w w') : SlZ w' B v l := Sl.chg0 h hc
theorem SlZ.all {w : World} {B : Nat} {v : Value} {l : List Int} (h : SlZ w B v l) (hl : 0 < l.length) :
    ∃ b o c, v = .slice (some ⟨b, o, none⟩) l.length c ∧ B ≤ b ∧ b < w.heap.size ∧ l.length ≤ c ∧ ∀ j, j < l.length → w.cell? ⟨b, o + j, none⟩ = some (.int .i64 (l[j]?.getD 0)) := by
  obtain ⟨hl', A, c, rfl, hcap, hx⟩ := h
  obtain ⟨b, o, rfl, hb, hx⟩ := hx hl
  have hc : ∀ j, j < l.length → w.cell? ⟨b, o + j, none⟩ = some (.int .i64 (l[j]?.getD 0)) := fun j hj => hx j _ (by simp [List.getElem?_eq_getElem hj])
  exact ⟨b, o, c, rfl, hb, World.block_lt_of_cell? w ⟨b, o + 0, none⟩ (hc 0 hl), hcap, hc⟩

set_option maxRecDepth 100000 in
set_option maxHeartbeats 2000000 in
theorem first_cells (b off cap u : Nat) (o : Int) (l : List Int) (w : World) (h0 : 0 < l.length) (hl : l.length ≤ 300) (hu : u < 18446744073709551616) (hb : b < w.heap.size)
    (hc : ∀ j, j < l.length → w.cell? ⟨b, off + j, none⟩ = some (.int .i64 (l[j]?.getD 0))) :
    Calls Tryz.prog 73 #[.slice (some ⟨b, off, none⟩) l.length cap, .int .u64 u, .int .i64 o] w fun e w' => e = .returned (.int .i64 (firstF l (u % l.length) o)) ∧ Below w.heap.size w w' := by
  refine (callsIn_wide (n := 5)).1 ?_
  have hst : u % l.length < l.length := Nat.mod_lt _ h0
  have hC := Lib.hid hc
  clear hc
  have hne : ¬ l.length = 0 := by omega
  have hdm : ((u : Int)).tmod (l.length : Int) = ((u % l.length : Nat) : Int) := by rw [Int.tmod_eq_emod_of_nonneg (by omega)]; rfl
  have hdm2 : ((u : Int)) % (l.length : Int) = ((u % l.length : Nat) : Int) := rfl
  refine callsIn_of_wp_marks Tryz.func73 rfl trivial ?_ rfl
  simp only [Tryz.ntmps73, List.size_toArray, List.length_cons, List.length_nil, Nat.reduceAdd, Nat.reduceSub, Array.replicate_succ, Array.replicate_zero, List.push_toArray, List.append_toArray, List.nil_append, List.cons_append]
  generalize hN : u % l.length = st at *
  generalize hL : l.length = len at *
  gi_wp2_with (refine ⟨trivial, ?_⟩; gi_at_call 87; refine (callsIn_wide.2 (round_any _ _ _ _ _)).mono ?_; rintro e w' ⟨rfl, rfl⟩)
  have c0 := cell_new_l w (.int .i64 o) 3
  have c1 := cell_new_l (w.alloc (.cells #[.int .i64 o] 3)) (.int .i64 0) 3
  have c2 := cell_new_l ((w.alloc (.cells #[.int .i64 o] 3)).alloc (.cells #[.int .i64 0] 3)) (.slice (some ⟨b, off, none⟩) len cap) 38
  have c3 := cell_new_l (((w.alloc (.cells #[.int .i64 o] 3)).alloc (.cells #[.int .i64 0] 3)).alloc (.cells #[.slice (some ⟨b, off, none⟩) len cap] 38)) (.int .i64 st) 3
  simp only [World.size_alloc] at c1 c2 c3
  have hB0 : Below w.heap.size w ((((w.alloc (.cells #[.int .i64 o] 3)).alloc (.cells #[.int .i64 0] 3)).alloc (.cells #[.slice (some ⟨b, off, none⟩) len cap] 38)).alloc (.cells #[.int .i64 st] 3)) :=
    ((((Below.refl _ w).alloc (Nat.le_refl _) _).alloc (by simp) _).alloc (by simp; omega) _).alloc (by simp; omega) _
  have hseq := round_stops (5 - 1) (by omega) (w.heap.size + 1 + 1) (w.heap.size + 1 + 1 + 1) (w.heap.size + 1 + 1 + 1 + 1) b off cap st l (by omega) (by omega) (by omega)
    ((((w.alloc (.cells #[.int .i64 o] 3)).alloc (.cells #[.int .i64 0] 3)).alloc (.cells #[.slice (some ⟨b, off, none⟩) len cap] 38)).alloc (.cells #[.int .i64 st] 3)) (by omega) (by omega) (by simp)
    (by rw [hL]; exact cell_alloc_l _ c2.1) c3.1 (fun j hj => (hB0.cell (p := ⟨b, off + j, none⟩) hb).trans (hC.out j (by omega)))
  rw [hL] at hseq
  refine wpIn_rangeFunc_ownF rfl (by omega) (gf := 97) (lb := #[.pointer (some ⟨w.heap.size + 1 + 1, 0, none⟩), .pointer (some ⟨w.heap.size + 1 + 1 + 1, 0, none⟩)]) rfl trivial (enters_of Tryz.func97 (by kernel_rfl) rfl)
    hseq
    belowK_t (belowK_b (by simp)) (Below.refl _ _) (fun _ => rfl)
    (fun pre W => ((∀ y ∈ pre, okN o y = false) ∧ W.cell? ⟨w.heap.size, 0, none⟩ = some (.int .i64 o) ∧ W.cell? ⟨w.heap.size + 1, 0, none⟩ = some (.int .i64 0) ∧ W.frozen? ⟨w.heap.size + 1, 0, none⟩ = false) ∧ Below w.heap.size w W)
    (fun c pre W => (c = .ret ∧ ∃ pre' x, pre = pre' ++ [x] ∧ (∀ y ∈ pre', okN o y = false) ∧ okN o x = true ∧ W.cell? ⟨w.heap.size + 1, 0, none⟩ = some (.int .i64 x)) ∧ Below w.heap.size w W)
    (OwnFrom.and (Own.from (fun s A B row hs hg hr => ⟨hs.1, cell_kept hs.2.1 hg hr, cell_kept hs.2.2.1 hg hr, (frozen_kept hs.2.2.1 hg hr).trans hs.2.2.2⟩) _) (ownFrom_below (Nat.le_refl _) (by simp; omega)))
    (fun c => OwnFrom.and (Own.from (fun s A B row hs hg hr => by
      obtain ⟨h1, pre', x, h2, h3, h4, h5⟩ := hs
      exact ⟨h1, pre', x, h2, h3, h4, cell_kept h5 hg hr⟩) _) (ownFrom_below (Nat.le_refl _) (by simp; omega)))
    ⟨⟨by simp, cell_alloc_l _ (cell_alloc_l _ (cell_alloc_l _ c0.1)), cell_alloc_l _ (cell_alloc_l _ c1.1), frozen_alloc_l _ (cell_alloc_l _ c1.1) (frozen_alloc_l _ c1.1 c1.2)⟩, hB0⟩
    ?a1 ?assign ?body ?done ?stop
  case assign =>
    intro l x W K hK
    gi_wp2
    exact hK
  case body =>
    rintro l pre x W ⟨⟨hp, hcw, hcr, hfr⟩, hB⟩ _
    have hsn : ∀ y ∈ pre ++ [x], y ∈ pre ∨ y = x := by intro y hy; simpa using hy
    by_cases hx0 : 0 < x
    · by_cases hxo : x = o
      · have hq : okN o x = false := okN_no.2 (by simp [hxo])
        have HQ := Lib.hid hq
        clear hq
        subst hxo
        gi_wp2
        exact ⟨KeepsOthers.refl _, Below.refl _ _, ⟨fun y hy => (hsn y hy).elim (hp y) (fun e => e ▸ HQ.out), hcw, hcr, hfr⟩, hB⟩
      · have hq : okN o x = true := okN_iff.2 ⟨hx0, hxo⟩
        have HQ := Lib.hid hq
        clear hq
        have hxb : (x == o) = false := by simp [hxo]
        gi_wp2
        exact ⟨KeepsOthers.setCell _ _ _, ⟨rfl, pre, x, rfl, hp, HQ.out, World.cell?_setCell_same' _ _ _ (by rw [hcr]; rfl)⟩, hB.setCell (p := ⟨w.heap.size + 1, 0, none⟩) (by simp) _⟩
    · have hq : okN o x = false := okN_no.2 (by simp [hx0])
      have HQ := Lib.hid hq
      clear hq
      gi_wp2
      exact ⟨KeepsOthers.refl _, Below.refl _ _, ⟨fun y hy => (hsn y hy).elim (hp y) (fun e => e ▸ HQ.out), hcw, hcr, hfr⟩, hB⟩
  case done =>
    rintro D ys W hD rfl ⟨⟨hne, _, hcr, hfr⟩, hB⟩ hK
    have HF : firstF l st o = 0 := by subst hL; exact firstF_all hne
    gi_wp2
    have hK' := (KeepsOthers.setCell W ⟨w.heap.size + 1, 0, none⟩ (.int .i64 0)).same D _ hK rfl
    refine ⟨by simp, .inl ⟨_, _, rfl, run_takeDeferred hK', ?_⟩⟩
    have hc5 := cell_kept (World.cell?_setCell_same' W ⟨w.heap.size + 1, 0, none⟩ (.int .i64 0) (by rw [hcr]; rfl)) (grownBy_putObj' _ D (.deferred none)) (fun r e => by cases e; exact ⟨_, hK', rfl⟩)
    refine ⟨.int .i64 0, ?_, by rw [HF], (hB.setCell (p := ⟨w.heap.size + 1, 0, none⟩) (by simp) _).trans (belowK_b (w := w) (Nat.le_refl _) _ D _ _ (by simp at hD; omega) hK' rfl rfl)⟩
    simp [results, Tryz.f73, go_sem, hc5]
  case stop =>
    rintro D c pre W hD hpre ⟨⟨rfl, pre', x, rfl, hp, hq, hcr⟩, hB⟩ hK
    have HF : firstF l st o = x := by subst hL; exact firstF_prefix hpre hp hq
    clear hpre hp hq
    gi_wp2
    refine ⟨by simp, .inl ⟨_, _, rfl, run_takeDeferred hK, ?_⟩⟩
    have hc5 := cell_kept hcr (grownBy_putObj' _ D (.deferred none)) (fun r e => by cases e; exact ⟨_, hK, rfl⟩)
    refine ⟨.int .i64 x, ?_, by rw [HF], hB.trans (belowK_b (w := w) (Nat.le_refl _) W D _ _ (by simp at hD; omega) hK rfl rfl)⟩
    simp [results, Tryz.f73, go_sem, hc5]
end Go.Proofs.YtecblclpchndiaaGreat
