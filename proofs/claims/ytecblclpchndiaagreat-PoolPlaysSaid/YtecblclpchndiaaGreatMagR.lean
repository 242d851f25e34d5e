/-
  PLAIN: rounds of turns till a table is full; how many slots each has. No condition.
-/
import Derived.Test.YtecblclpchndiaaGreatMagO
set_option linter.unusedVariables false
set_option linter.unusedSimpArgs false
namespace Go.Proofs.YtecblclpchndiaaGreat

/-- Turns of which each finds a slot where one is free. -/
def okS (m : Nat) (s : List (Int × List Nat)) : Prop := ∀ x ∈ s, x.1 ≠ 0 ∧ ∀ j, j < m → j ∈ x.2
theorem okS.tail {m : Nat} {x : Int × List Nat} {s : List (Int × List Nat)} (h : okS m (x :: s)) : okS m s := fun y hy => h y (List.mem_cons_of_mem _ hy)
theorem okS.sub {m : Nat} {s s' : List (Int × List Nat)} (h : okS m s) (hs : ∀ x ∈ s', x ∈ s) : okS m s' := fun y hy => h y (hs y hy)
theorem not_full {t : List Int} (h : 0 < freeN t) : fullS t = false := by
  cases hf : fullS t with
  | false => rfl
  | true => have := freeN_full.2 hf; omega
theorem roundS_free : ∀ (s : List (Int × List Nat)) (t : List Int), okS t.length s → s.length ≤ freeN t → freeN (roundS s t) + s.length = freeN t
  | [], t, _, _ => rfl
  | x :: s, t, h, hl => by
    rw [List.length_cons] at hl
    have hx := h x (List.mem_cons_self ..)
    have h1 := claimS_less (n := x.1) hx.1 hx.2 (not_full (by omega : 0 < freeN t))
    have h2 := roundS_free s (claimS x.2 x.1 t) (by rw [claimS_len]; exact h.tail) (by omega)
    unfold roundS at *
    rw [List.foldl_cons, List.length_cons]
    omega
/-- What comes behind the last free slot changes nothing. -/
theorem roundS_over {s : List (Int × List Nat)} {t : List Int} (h : okS t.length s) (hl : freeN t ≤ s.length) : roundS s t = roundS (s.take (freeN t)) t ∧ fullS (roundS s t) = true := by
  have h1 := roundS_free (s.take (freeN t)) t (h.sub fun x hx => List.mem_of_mem_take hx) (by rw [List.length_take]; omega)
  rw [List.length_take] at h1
  have hf : fullS (roundS (s.take (freeN t)) t) = true := freeN_full.1 (by omega)
  have e : roundS s t = roundS (s.take (freeN t)) t := by
    conv => lhs; rw [← List.take_append_drop (freeN t) s]
    rw [roundS_app, roundS_full hf]
  exact ⟨e, by rw [e]; exact hf⟩
/-- The first turns of rounds without end. -/
def turnsS (r : List (Int × List Nat)) (n : Nat) : List (Int × List Nat) := (List.replicate (n / r.length) r).flatten ++ r.take (n % r.length)
theorem turnsS_less {r : List (Int × List Nat)} {n : Nat} (h : n < r.length) : turnsS r n = r.take n := by
  unfold turnsS
  rw [Nat.div_eq_of_lt h, Nat.mod_eq_of_lt h]
  rfl
theorem turnsS_more {r : List (Int × List Nat)} {n : Nat} (h0 : 0 < r.length) (h : r.length ≤ n) : turnsS r n = r ++ turnsS r (n - r.length) := by
  unfold turnsS
  have e1 : n / r.length = (n - r.length) / r.length + 1 := by
    rw [Nat.div_eq n r.length, if_pos ⟨h0, h⟩]
  have e2 : n % r.length = (n - r.length) % r.length := Nat.mod_eq_sub_mod h
  rw [e1, e2, List.replicate_succ, List.flatten_cons, List.append_assoc]
/-- The rounds till the table is full are as many turns as slots were free. -/
theorem roundsS_turns {r : List (Int × List Nat)} (h0 : 0 < r.length) : ∀ (n k : Nat) (t : List Int), freeN t = n → n ≤ k → okS t.length r → roundsS r k t = roundS (turnsS r n) t := by
  intro n
  induction n using Nat.strongRecOn with
  | _ n ih =>
    intro k t hn hk hok
    rcases Nat.eq_zero_or_pos n with hz | hp
    · subst hz
      have hf := freeN_full.1 hn
      rw [turnsS_less h0]
      cases k with
      | zero => rfl
      | succ k => unfold roundsS; rw [if_pos hf]; rfl
    · cases k with
      | zero => omega
      | succ k =>
        unfold roundsS
        rw [if_neg (by rw [not_full (by omega)]; simp)]
        rcases Nat.lt_or_ge n r.length with hlt | hge
        · obtain ⟨e1, e2⟩ := roundS_over hok (by omega : freeN t ≤ r.length)
          rw [turnsS_less hlt, ← hn, ← e1]
          cases k with
          | zero => rfl
          | succ k => unfold roundsS; rw [if_pos e2]
        · have hfr := roundS_free r t hok (by omega)
          rw [turnsS_more h0 hge, roundS_app]
          exact ih (n - r.length) (by omega) k (roundS r t) (by omega) (by omega) (by rw [roundS_len]; exact hok)
theorem count_set : ∀ {t : List Int} {j : Nat} {n x : Int}, x ≠ 0 → freeS t j = true → (t.set j n).count x = t.count x + if n = x then 1 else 0
  | [], j, n, x, _, h => by simp [freeS] at h
  | a :: t, 0, n, x, hx, h => by
    have ha : a = 0 := by simpa [freeS] using h
    subst ha
    rw [List.set_cons_zero, List.count_cons, List.count_cons]
    have : ((0 : Int) == x) = false := by simpa using fun e => hx e.symm
    rw [this]
    by_cases hnx : n = x <;> simp [hnx]
  | a :: t, j + 1, n, x, hx, h => by
    have h' : freeS t j = true := by simpa [freeS] using h
    have ih := count_set (t := t) (j := j) (n := n) hx h'
    rw [List.set_cons_succ, List.count_cons, List.count_cons, ih]
    omega
/-- How many slots somebody has: as many as turns. -/
theorem roundS_count {x : Int} (hx : x ≠ 0) : ∀ (s : List (Int × List Nat)) (t : List Int), okS t.length s → s.length ≤ freeN t → (roundS s t).count x = t.count x + (s.map (·.1)).count x
  | [], t, _, _ => rfl
  | y :: s, t, h, hl => by
    rw [List.length_cons] at hl
    have hy := h y (List.mem_cons_self ..)
    have h1 := claimS_less (n := y.1) hy.1 hy.2 (not_full (by omega : 0 < freeN t))
    have h2 := roundS_count hx s (claimS y.2 y.1 t) (by rw [claimS_len]; exact h.tail) (by omega)
    have h3 : (claimS y.2 y.1 t).count x = t.count x + if y.1 = x then 1 else 0 := by
      unfold claimS at h1 ⊢
      cases hfi : y.2.find? (freeS t) with
      | some j => exact count_set hx (by simpa using List.find?_some hfi)
      | none => rw [hfi] at h1; simp at h1
    unfold roundS at *
    rw [List.foldl_cons, List.map_cons, List.count_cons, h2, h3]
    by_cases e : y.1 = x <;> simp [e] <;> omega
end Go.Proofs.YtecblclpchndiaaGreat
