/-
  PLAIN: lives as the document lists them, against the model's map. No program in sight; no condition.
-/
import Derived.Test.YtgbdbeaflilmlaaModelG
set_option linter.unusedVariables false
set_option linter.unusedSimpArgs false
namespace Go.Proofs.Ytgbdbeaflilmlaa

def livesR (R : List Rf) : List (Fl × Lf) := R.map fun r => (r.f, r.x)
def DR (L : List (Fl × Lf)) : Fl → Option Lf := fun f => (L.find? fun p => decide (p.1 = f)).map (·.2)
def withL (L : List (Fl × Lf)) (f : Fl) (x : Lf) : List (Fl × Lf) := if (L.any fun p => decide (p.1 = f)) then L.map (fun p => if p.1 = f then (f, x) else p) else L ++ [(f, x)]
def stepL (L : List (Fl × Lf)) (e : Ev) : List (Fl × Lf) × Bool :=
  if e.flow = zF then (L, true) else
  if e.kind = 1 then (withL L e.flow (huntL ((DR L e.flow).getD zL) e.a e.b), true) else
  if e.kind = 5 then (if ((DR L e.flow).getD zL).st = 1 ∧ e.node ∈ ((DR L e.flow).getD zL).ls then (withL L e.flow ⟨2, e.node, ((DR L e.flow).getD zL).ls⟩, true) else (L, false)) else
  if e.kind = 3 ∨ e.kind = 4 ∨ e.kind = 7 ∨ e.kind = 10 then (L, decide (((DR L e.flow).getD zL).st = 2 ∧ ((DR L e.flow).getD zL).ow = e.node)) else (L, true)
theorem find_map {α β : Type} (g : α → β) (p : β → Bool) : ∀ l : List α, (l.map g).find? p = (l.find? fun a => p (g a)).map g
  | [] => rfl
  | a :: l => by
    rw [List.map_cons, List.find?_cons, List.find?_cons]
    cases p (g a) with
    | true => rfl
    | false => exact find_map g p l
theorem DR_with (L : List (Fl × Lf)) (f : Fl) (x : Lf) : DR (withL L f x) = fun g => if g = f then some x else DR L g := by
  funext g
  unfold DR withL
  split
  · next hh =>
    by_cases hg : g = f
    · subst hg
      rw [if_pos rfl]
      induction L with
      | nil => simp at hh
      | cons p L ih =>
        rw [List.map_cons, List.find?_cons]
        by_cases hp : p.1 = g
        · rw [if_pos hp]; simp
        · rw [if_neg hp]
          rw [List.any_cons, decide_eq_false hp, Bool.false_or] at hh
          simp only [decide_eq_false hp]
          exact ih hh
    · rw [if_neg hg]
      clear hh
      induction L with
      | nil => rfl
      | cons p L ih =>
        rw [List.map_cons, List.find?_cons, List.find?_cons]
        by_cases hp : p.1 = f
        · rw [if_pos hp]
          have e1 : decide ((f, x).1 = g) = false := decide_eq_false (fun e => hg e.symm)
          have e2 : decide (p.1 = g) = false := decide_eq_false (fun e => hg (e.symm.trans hp))
          rw [e1, e2]; exact ih
        · rw [if_neg hp]
          cases decide (p.1 = g) with
          | true => rfl
          | false => exact ih
  · next hh =>
    rw [List.find?_append]
    by_cases hg : g = f
    · subst hg
      rw [if_pos rfl]
      have : L.find? (fun p => decide (p.1 = g)) = none := by
        rw [List.find?_eq_none]
        intro p hp hd
        exact hh (List.any_eq_true.2 ⟨p, hp, hd⟩)
      rw [this]; simp
    · rw [if_neg hg]
      cases h : L.find? (fun p => decide (p.1 = g)) with
      | some p => rfl
      | none => simp [show ¬ f = g from fun e => hg e.symm]
theorem step_same (L : List (Fl × Lf)) (e : Ev) : stepM (DR L) e = (DR (stepL L e).1, (stepL L e).2) := by
  unfold stepM stepL
  by_cases h0 : e.flow = zF
  · rw [if_pos h0, if_pos h0]
  rw [if_neg h0, if_neg h0]
  by_cases h1 : e.kind = 1
  · rw [if_pos h1, if_pos h1, DR_with]
  rw [if_neg h1, if_neg h1]
  by_cases h5 : e.kind = 5
  · rw [if_pos h5, if_pos h5]
    by_cases h6 : ((DR L e.flow).getD zL).st = 1 ∧ e.node ∈ ((DR L e.flow).getD zL).ls
    · rw [if_pos h6, if_pos h6, DR_with]
    · rw [if_neg h6, if_neg h6]
  rw [if_neg h5, if_neg h5]
  by_cases hk : e.kind = 3 ∨ e.kind = 4 ∨ e.kind = 7 ∨ e.kind = 10
  · rw [if_pos hk, if_pos hk]
  · rw [if_neg hk, if_neg hk]
theorem lives_with (R : List Rf) (r : Rf) : livesR (withR R r) = withL (livesR R) r.f r.x := by
  unfold livesR withR withL hasR
  rw [List.any_map]
  have e : (R.any ((fun p => decide (p.1 = r.f)) ∘ fun r => (r.f, r.x))) = R.any fun y => decide (y.f = r.f) := rfl
  rw [e]
  split
  · rw [List.map_map, List.map_map]
    refine List.map_congr_left fun y _ => ?_
    simp only [Function.comp]
    unfold updR
    by_cases h : y.f = r.f
    · rw [if_pos h, if_pos h]
    · rw [if_neg h, if_neg h]
  · simp
theorem find_lives (R : List Rf) (f : Fl) : (findR44 R f).f = f ∧ (findR44 R f).x = (DR (livesR R) f).getD zL := by
  unfold findR44 DR livesR
  rw [find_map]
  cases h : R.find? (fun r => decide (r.f = f)) with
  | none => simp [noR]
  | some r =>
    have := List.find?_some h
    simp at this
    simp [this]
theorem find_ok {w : Go.World} {B : Nat} {R : List Rf} (h : ∀ r ∈ R, okR w B r) {f : Fl} (hf : okF f) : okR w B (findR44 R f) := by
  unfold findR44
  cases hd : R.find? (fun r => decide (r.f = f)) with
  | none => exact ⟨hf, Sl.nil _ _ _, List.Pairwise.nil⟩
  | some r => exact h r (List.mem_of_find?_eq_some hd)
/-- What holds of the lives behind k events. -/
structure LI (k : Nat) (L : List (Fl × Lf)) : Prop where
  nd : (L.map (·.1)).Nodup
  st : ∀ p ∈ L, 0 ≤ p.2.st
  ls : ∀ p ∈ L, p.2.ls.length ≤ 2 * k
  len : L.length ≤ k
theorem LI.nil : LI 0 [] := ⟨List.nodup_nil, by simp, by simp, by simp⟩
theorem LI.mono {k k' : Nat} {L : List (Fl × Lf)} (h : LI k L) (hk : k ≤ k') : LI k' L := ⟨h.nd, h.st, fun p hp => by have := h.ls p hp; omega, by have := h.len; omega⟩
theorem with_mem {L : List (Fl × Lf)} {f : Fl} {x : Lf} {p : Fl × Lf} (hp : p ∈ withL L f x) : p = (f, x) ∨ p ∈ L := by
  unfold withL at hp
  split at hp
  · obtain ⟨q, hq, rfl⟩ := List.mem_map.1 hp
    split
    · exact .inl rfl
    · exact .inr hq
  · rcases List.mem_append.1 hp with hp | hp
    · exact .inr hp
    · simp at hp; exact .inl hp
theorem LI.with {k : Nat} {L : List (Fl × Lf)} (h : LI k L) {f : Fl} {x : Lf} (hs : 0 ≤ x.st) (hl : x.ls.length ≤ 2 * (k + 1)) : LI (k + 1) (withL L f x) := by
  refine ⟨?_, fun p hp => ?_, fun p hp => ?_, ?_⟩
  · unfold withL
    split
    · next hh =>
      have : (L.map fun p => if p.1 = f then (f, x) else p).map (·.1) = L.map (·.1) := by
        rw [List.map_map]
        refine List.map_congr_left fun p _ => ?_
        simp only [Function.comp]
        by_cases e : p.1 = f
        · rw [if_pos e, e]
        · rw [if_neg e]
      rw [this]; exact h.nd
    · next hh =>
      rw [List.map_append]
      refine List.nodup_append.2 ⟨h.nd, by simp, fun a ha b hb e => ?_⟩
      simp at hb
      obtain ⟨p, hp, rfl⟩ := List.mem_map.1 ha
      exact hh (List.any_eq_true.2 ⟨p, hp, by simp [e, hb]⟩)
  · rcases with_mem hp with rfl | hp
    · exact hs
    · exact h.st p hp
  · rcases with_mem hp with rfl | hp
    · exact hl
    · have := h.ls p hp; omega
  · unfold withL
    have := h.len
    split
    · rw [List.length_map]; omega
    · simp; omega
theorem DR_mem {L : List (Fl × Lf)} {f : Fl} {x : Lf} (h : DR L f = some x) : (f, x) ∈ L := by
  unfold DR at h
  cases hd : L.find? (fun p => decide (p.1 = f)) with
  | none => rw [hd] at h; cases h
  | some p =>
    rw [hd] at h
    have h1 := List.find?_some hd
    have h2 := List.mem_of_find?_eq_some hd
    simp at h h1
    rw [← h, ← h1]; exact h2
theorem DR_none {L : List (Fl × Lf)} {f : Fl} (h : DR L f = none) : f ∉ L.map (·.1) := by
  unfold DR at h
  rw [Option.map_eq_none_iff, List.find?_eq_none] at h
  intro hm
  obtain ⟨p, hp, rfl⟩ := List.mem_map.1 hm
  exact h p hp (by simp)
theorem LI.at_ {k : Nat} {L : List (Fl × Lf)} (h : LI k L) (f : Fl) : 0 ≤ ((DR L f).getD zL).st ∧ ((DR L f).getD zL).ls.length ≤ 2 * k := by
  cases hd : DR L f with
  | none => exact ⟨by simp [zL], by simp [zL]⟩
  | some x => exact ⟨h.st _ (DR_mem hd), h.ls _ (DR_mem hd)⟩
theorem LI.step {k : Nat} {L : List (Fl × Lf)} (h : LI k L) (e : Ev) : LI (k + 1) (stepL L e).1 := by
  have ha := h.at_ e.flow
  unfold stepL
  split
  · exact h.mono (by omega)
  split
  · refine h.with ?_ ?_
    · unfold huntL; simp only; omega
    · have a1 := insZ_len ((DR L e.flow).getD zL).ls e.a
      have a2 := insZ_len (insZ ((DR L e.flow).getD zL).ls e.a) e.b
      show (insZ (insZ _ e.a) e.b).length ≤ _
      omega
  split
  · split
    · exact h.with (by simp) (by simp only; omega)
    · exact h.mono (by omega)
  split
  · exact h.mono (by omega)
  · exact h.mono (by omega)
end Go.Proofs.Ytgbdbeaflilmlaa
