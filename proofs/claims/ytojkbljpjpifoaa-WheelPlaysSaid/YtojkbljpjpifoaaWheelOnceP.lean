/-
  PLAIN: a timer that is set, and stays, is told just once; the wheel's calls with what lies around it. No condition.
-/
import Derived.Test.YtojkbljpjpifoaaWheelLives
set_option linter.unusedVariables false
set_option linter.unusedSimpArgs false
namespace Go.Proofs.Ytojkbljpjpifoaa
open Go.RowKit

theorem foldM_val : ∀ (D : List Int) (M : Int → Option Int) (x : Int), foldM D M x = if x ∈ D then none else M x
  | [], M, x => by simp [foldM]
  | d :: D, M, x => by
    have e : foldM (d :: D) M = foldM D (noM M d) := rfl
    rw [e, foldM_val D]
    by_cases h1 : x ∈ D
    · simp [h1]
    · by_cases h2 : x = d
      · simp [h2, noM]
      · simp [h1, h2, noM]
theorem mem_due {nw : Int} {l : List TM} {x : Int} : x ∈ dueOf nw l ↔ (⟨x, nw⟩ : TM) ∈ l := by
  unfold dueOf
  rw [List.mem_map]
  constructor
  · rintro ⟨t, ht, rfl⟩
    obtain ⟨h1, h2⟩ := List.mem_filter.1 ht
    have : t.at_ = nw := by simpa using h2
    obtain ⟨a, b⟩ := t
    subst this; exact h1
  · intro h
    exact ⟨⟨x, nw⟩, List.mem_filter.2 ⟨h, by simp⟩, rfl⟩
theorem due_nodup {nw : Int} {l : List TM} (h : (l.map TM.id).Nodup) : (dueOf nw l).Nodup := by
  unfold dueOf
  exact h.sublist (List.Sublist.map _ List.filter_sublist)
theorem due_hit {ls : Nat → List TM} {M : Int → Option Int} (h : WI ls M) {id nw : Int} (hm : M id = some nw) : (dueOf nw (ls (nw % 16).toNat)).count id = 1 := by
  have hs : (nw % 16).toNat < 16 := by omega
  have h1 := (List.nodup_iff_count.1 (due_nodup (nw := nw) (h.nd _ hs))) id
  have h2 : 0 < (dueOf nw (ls (nw % 16).toNat)).count id := List.count_pos_iff.2 (mem_due.2 (h.inl _ _ hm).2.2.2)
  omega
theorem due_in {ls : Nat → List TM} {M : Int → Option Int} (h : WI ls M) {id nw : Int} (hd : id ∈ dueOf nw (ls (nw % 16).toNat)) : M id = some nw :=
  (h.out _ (by omega) _ (mem_due.1 hd)).1
theorem due_miss {ls : Nat → List TM} {M : Int → Option Int} (h : WI ls M) {id nw : Int} (hm : ¬ M id = some nw) : (dueOf nw (ls (nw % 16).toNat)).count id = 0 :=
  List.count_eq_zero.2 fun hd => hm (due_in h hd)
/-- What M says of a timer that is due at a tick, behind k ticks. -/
def due1M (M : Int → Option Int) (id at_ k : Int) : Prop := M id = if k < at_ then some at_ else none
theorem due1M.step {ls : Nat → List TM} {M : Int → Option Int} (h : WI ls M) {id at_ k : Int} (hd : due1M M id at_ k) : due1M (foldM (dueOf (k + 1) (ls ((k + 1) % 16).toNat)) M) id at_ (k + 1) := by
  unfold due1M at hd ⊢
  rw [foldM_val]
  by_cases hin : id ∈ dueOf (k + 1) (ls ((k + 1) % 16).toNat)
  · have := due_in h hin
    rw [this] at hd
    rw [if_pos hin]
    split at hd
    · injection hd with hd; rw [if_neg (by omega)]
    · cases hd
  · rw [if_neg hin, hd]
    by_cases h1 : k + 1 < at_
    · rw [if_pos h1, if_pos (by omega)]
    · rw [if_neg h1]
      by_cases h2 : k < at_
      · exfalso
        rw [if_pos h2, show at_ = k + 1 by omega] at hd
        exact hin (mem_due.2 (h.inl _ _ hd).2.2.2)
      · rw [if_neg h2]
theorem due1M.count {ls : Nat → List TM} {M : Int → Option Int} (h : WI ls M) {id at_ k : Int} (hd : due1M M id at_ k) : (dueOf (k + 1) (ls ((k + 1) % 16).toNat)).count id = if k + 1 = at_ then 1 else 0 := by
  unfold due1M at hd
  by_cases e : k + 1 = at_
  · rw [if_pos e]
    refine due_hit h ?_
    rw [hd, if_pos (by omega), e]
  · rw [if_neg e]
    refine due_miss h ?_
    rw [hd]
    split
    · intro e2; injection e2 with e2; omega
    · intro e2; cases e2

/-- A wheel all of whose memory came behind W. -/
structure OW (W w : World) (b m n : Nat) (now : Int) (vs : Nat → Value) (ls : Nat → List TM) (M : Int → Option Int) : Prop where
  wh : Wh w b m n now vs ls M
  chg : Chg [] W w
  far : ∀ x ∈ foot b m vs, W.heap.size ≤ x
theorem OW.next {W w w' : World} {b m n n' : Nat} {now now' : Int} {vs vs' : Nat → Value} {ls ls' : Nat → List TM} {M M' : Int → Option Int} (h : OW W w b m n now vs ls M) (hw : Wh w' b m n' now' vs' ls' M') (hc : Chg (foot b m vs) w w')
    (hf : ∀ x ∈ foot b m vs', x ∈ foot b m vs ∨ w.heap.size ≤ x) : OW W w' b m n' now' vs' ls' M' :=
  ⟨hw, h.chg.trans' hc (fun x hx => .inr (h.far x hx)), fun x hx => (hf x hx).elim (h.far x) (fun h1 => by have := h.chg.size; omega)⟩
theorem OW.chg0 {W w w' : World} {b m n : Nat} {now : Int} {vs : Nat → Value} {ls : Nat → List TM} {M : Int → Option Int} (h : OW W w b m n now vs ls M) (hc : Chg [] w w') : OW W w' b m n now vs ls M :=
  ⟨h.wh.chg0 hc, h.chg.trans hc, h.far⟩
def setM (M : Int → Option Int) (now id at_ : Int) : Int → Option Int := if 0 ≤ id ∧ id < 256 then inM (noM M id) id (max at_ (now + 1)) else M
theorem setO {W w : World} {b m n : Nat} {now : Int} {vs : Nat → Value} {ls : Nat → List TM} {M : Int → Option Int} (id at_ : Int) (h : OW W w b m n now vs ls M) (hn : n < 10000) (hw0 : 0 ≤ now) (hw1 : now ≤ 100000) (hwf : (Lit.int .i64 at_).wf = true) :
    Calls Try.prog 10 #[.pointer (some ⟨b, 0, none⟩), .int .i64 id, .int .i64 at_] w fun e w' => e = .returned (.bool (decide (0 ≤ id ∧ id < 256))) ∧
      ∃ n' vs' ls', n' ≤ n + 1 ∧ OW W w' b m n' now vs' ls' (setM M now id at_) := by
  unfold setM
  by_cases hi : 0 ≤ id ∧ id < 256
  · rw [if_pos hi, decide_eq_true hi]
    refine (set_any id at_ _ h.wh hi.1 hi.2 hn hw0 hw1 rfl hwf).mono ?_
    rintro e w' ⟨he, vs', h1, h2, h3⟩
    exact ⟨he, n + 1, vs', _, Nat.le_refl _, h.next h1 h2 h3⟩
  · rw [if_neg hi, decide_eq_false hi]
    refine (set_no id at_ h.wh hi).mono ?_
    rintro e w' ⟨he, rfl⟩
    exact ⟨he, n, vs, ls, by omega, h⟩
theorem advO {W w : World} {b m n : Nat} {now : Int} {vs : Nat → Value} {ls : Nat → List TM} {M : Int → Option Int} (h : OW W w b m n now vs ls M) (hw0 : 0 ≤ now) (hw1 : now ≤ 100000) :
    Calls Try.prog 16 #[.pointer (some ⟨b, 0, none⟩)] w fun e w' => ∃ v D, e = .returned v ∧ D = dueOf (now + 1) (ls ((now + 1) % 16).toNat) ∧
      Sl w' w.heap.size 1 v D.length ((D.mergeSort fun x y => decide (x ≤ y)).map (Value.int .i64)) ∧ ∃ vs', OW W w' b m n (now + 1) vs' (foldL D ls) (foldM D M) := by
  refine (advance_any h.wh hw0 hw1).mono ?_
  rintro e w' ⟨v, D, he, hD, hS, vs', h1, h2, h3⟩
  exact ⟨v, D, he, hD, hS, vs', h.next h1 h2 h3⟩
end Go.Proofs.Ytojkbljpjpifoaa
