/-
  PLAIN: tables of slots: who takes which slot. No condition.
-/
import Derived.Test.YtecblclpchndiaaGreatMem
set_option linter.unusedVariables false
set_option linter.unusedSimpArgs false
namespace Go.Proofs.YtecblclpchndiaaGreat

/-- Is slot j of a table free? -/
def freeS (t : List Int) (j : Nat) : Bool := t.getD j 1 == 0
/-- A member takes its first free slot. -/
def claimS (o : List Nat) (n : Int) (t : List Int) : List Int := match o.find? (freeS t) with
  | some j => t.set j n
  | none => t
def fullS (t : List Int) : Bool := t.all (fun x => x != 0)
theorem freeS_lt {t : List Int} {j : Nat} (h : freeS t j = true) : j < t.length := by
  unfold freeS at h
  by_cases hj : j < t.length
  · exact hj
  · rw [List.getD_eq_getElem?_getD, List.getElem?_eq_none (by omega)] at h
    simp at h
theorem freeS_at {t : List Int} {j : Nat} (hj : j < t.length) : freeS t j = (t[j] == 0) := by
  unfold freeS
  rw [List.getD_eq_getElem?_getD, List.getElem?_eq_getElem hj]; rfl
theorem fullS_none {t : List Int} (h : fullS t = true) (j : Nat) : freeS t j = false := by
  cases hf : freeS t j with
  | false => rfl
  | true =>
    have hj := freeS_lt hf
    rw [freeS_at hj] at hf
    unfold fullS at h
    rw [List.all_eq_true] at h
    have := h t[j] (List.getElem_mem hj)
    simp at hf this
    exact absurd hf this
theorem claimS_full {t : List Int} (h : fullS t = true) (o : List Nat) (n : Int) : claimS o n t = t := by
  unfold claimS
  have : o.find? (freeS t) = none := by
    rw [List.find?_eq_none]
    intro j _
    rw [fullS_none h j]; simp
  rw [this]
theorem claimS_len (o : List Nat) (n : Int) (t : List Int) : (claimS o n t).length = t.length := by
  unfold claimS
  split
  · simp
  · rfl
theorem freeS_set {t : List Int} {i j : Nat} {n : Int} (hn : n ≠ 0) : freeS (t.set i n) j = true → freeS t j = true ∧ j ≠ i := by
  intro h
  have hj := freeS_lt h
  rw [List.length_set] at hj
  rw [freeS_at (by rw [List.length_set]; exact hj), List.getElem_set] at h
  split at h
  · simp at h; exact absurd h hn
  · next hne => exact ⟨by rw [freeS_at hj]; exact h, fun e => hne e.symm⟩
/-- What is taken stays so. -/
theorem claimS_keep {o : List Nat} {n : Int} {t : List Int} (hn : n ≠ 0) {j : Nat} (h : freeS (claimS o n t) j = true) : freeS t j = true := by
  unfold claimS at h
  split at h
  · exact (freeS_set hn h).1
  · exact h
/-- A member that has left taken slots behind takes the same. -/
theorem claimS_drop {p o : List Nat} {n : Int} {t : List Int} (h : ∀ j ∈ p, freeS t j = false) : claimS (p ++ o) n t = claimS o n t := by
  unfold claimS
  rw [List.find?_append]
  have : p.find? (freeS t) = none := by
    rw [List.find?_eq_none]
    intro j hj
    rw [h j hj]; simp
  rw [this]
  rfl
/-- How many slots are free. -/
def freeN (t : List Int) : Nat := t.count 0
theorem freeN_full {t : List Int} : freeN t = 0 ↔ fullS t = true := by
  unfold freeN fullS
  rw [List.count_eq_zero, List.all_eq_true]
  constructor
  · intro h x hx
    simpa using fun e => h (by rw [← e]; exact hx)
  · intro h hm
    have := h 0 hm
    simp at this
theorem freeN_set : ∀ {t : List Int} {j : Nat} {n : Int}, n ≠ 0 → freeS t j = true → freeN (t.set j n) + 1 = freeN t
  | [], j, n, _, h => by simp [freeS] at h
  | a :: t, 0, n, hn, h => by
    have ha : a = 0 := by simpa [freeS] using h
    subst ha
    simp [freeN, hn]
  | a :: t, j + 1, n, hn, h => by
    have h' : freeS t j = true := by simpa [freeS] using h
    have ih := freeN_set (t := t) (j := j) hn h'
    unfold freeN at *
    rw [List.set_cons_succ, List.count_cons, List.count_cons]
    omega
/-- A table that is not full has a slot for whoever asks for all slots. -/
theorem claimS_less {o : List Nat} {n : Int} {t : List Int} (hn : n ≠ 0) (ho : ∀ j, j < t.length → j ∈ o) (hf : fullS t = false) : freeN (claimS o n t) + 1 = freeN t := by
  unfold claimS
  cases hfi : o.find? (freeS t) with
  | some j => exact freeN_set hn (by simpa using List.find?_some hfi)
  | none =>
    exfalso
    rw [List.find?_eq_none] at hfi
    unfold fullS at hf
    rw [List.all_eq_false] at hf
    obtain ⟨x, hx, hx0⟩ := hf
    obtain ⟨j, hj, rfl⟩ := List.mem_iff_getElem.1 hx
    have := hfi j (ho j hj)
    rw [freeS_at hj] at this
    simp at hx0 this
    exact this hx0
/-- A round: each turn once. -/
def roundS (r : List (Int × List Nat)) (t : List Int) : List Int := r.foldl (fun t x => claimS x.2 x.1 t) t
theorem roundS_full {t : List Int} (h : fullS t = true) : ∀ r : List (Int × List Nat), roundS r t = t
  | [] => rfl
  | x :: r => by
    unfold roundS
    rw [List.foldl_cons, claimS_full h]
    exact roundS_full h r
theorem roundS_len (r : List (Int × List Nat)) : ∀ t : List Int, (roundS r t).length = t.length := by
  induction r with
  | nil => intro t; rfl
  | cons x r ih => intro t; unfold roundS; rw [List.foldl_cons]; have := ih (claimS x.2 x.1 t); unfold roundS at this; rw [this, claimS_len]
theorem roundS_app (r s : List (Int × List Nat)) (t : List Int) : roundS (r ++ s) t = roundS s (roundS r t) := by unfold roundS; rw [List.foldl_append]
/-- Rounds, till the table is full (at most k of them). -/
def roundsS (r : List (Int × List Nat)) : Nat → List Int → List Int
  | 0, t => t
  | k + 1, t => if fullS t = true then t else roundsS r k (roundS r t)
end Go.Proofs.YtecblclpchndiaaGreat
