/-
  PLAIN: sums over the rows of two tables. No program in sight; no condition.
-/
import Derived.Test.YtimnkcjpgglpdaaShiftPlain
set_option linter.unusedVariables false
set_option linter.unusedSimpArgs false
namespace Go.Proofs.Ytimnkcjpgglpdaa

/-- Sums of counts, each key once. -/
theorem sum_cnt (p : Nat → Bool) (f : Nat → Int) (ns : List Int) (hn : ns.Nodup) : ∀ k, ((ns.map fun x => cnt (fun i => p i && f i == x) k).sum) = cnt (fun i => p i && decide (f i ∈ ns)) k
  | 0 => by
    simp only [cnt_zero]
    induction ns with
    | nil => rfl
    | cons x ns ih => simp only [List.map_cons, List.sum_cons]; rw [ih (List.nodup_cons.1 hn).2]
  | k + 1 => by
    rw [cnt_succ, ← sum_cnt p f ns hn k]
    have e : ∀ x, cnt (fun i => p i && f i == x) (k + 1) = cnt (fun i => p i && f i == x) k + if (p k && f k == x) = true then 1 else 0 := fun x => cnt_succ _ _
    simp only [e]
    have key : ∀ (l : List Int), l.Nodup → (l.map fun x => cnt (fun i => p i && f i == x) k + if (p k && f k == x) = true then 1 else 0).sum = (l.map fun x => cnt (fun i => p i && f i == x) k).sum + if (p k && decide (f k ∈ l)) = true then 1 else 0 := by
      intro l
      induction l with
      | nil => intro _; simp
      | cons x l ih =>
        intro hd
        obtain ⟨h1, h2⟩ := List.nodup_cons.1 hd
        simp only [List.map_cons, List.sum_cons]
        rw [ih h2]
        by_cases hx : f k = x
        · have h3 : ¬ f k ∈ l := fun h => h1 (hx ▸ h)
          cases hp : p k <;> simp [hx, h1] <;> (try omega)
        · cases hp : p k
          · simp <;> omega
          · by_cases h4 : f k ∈ l <;> simp [hx, h4] <;> omega
    exact key ns hn
def sumB (g : R4 → Int) (L : List R4) : Int := (L.map g).sum
theorem sumB_snoc (g : R4 → Int) (L : List R4) (x : R4) : sumB g (L ++ [x]) = sumB g L + g x := by simp [sumB]
theorem sumB_bound (g : R4 → Int) (N : Nat) : ∀ L : List R4, (∀ r ∈ L, 0 ≤ g r ∧ g r ≤ N) → 0 ≤ sumB g L ∧ sumB g L ≤ L.length * N
  | [], _ => by simp [sumB]
  | x :: L, h => by
    have h1 := h x (by simp)
    have h2 := sumB_bound g N L (fun r hr => h r (by simp [hr]))
    have e : sumB g (x :: L) = g x + sumB g L := by simp [sumB]
    rw [e, List.length_cons]
    have e2 : ((L.length + 1 : Nat) : Int) * N = L.length * N + N := by push_cast; rw [Int.add_mul]; simp
    rw [e2]; omega
theorem sumB_nat (g : R4 → Int) (c : Int → Nat) : ∀ L : List R4, (∀ r ∈ L, g r = (c r.node : Nat)) → sumB g L = (((L.map R4.node).map c).sum : Nat)
  | [], _ => by simp [sumB]
  | x :: L, h => by
    have e : sumB g (x :: L) = g x + sumB g L := by simp [sumB]
    rw [e, sumB_nat g c L (fun r hr => h r (by simp [hr])), h x (by simp)]
    simp
theorem cnt_all {f : Nat → Bool} : ∀ k, (∀ i, i < k → f i = true) → cnt f k = k
  | 0, _ => rfl
  | k + 1, h => by rw [cnt_succ, cnt_all k (fun i hi => h i (by omega)), if_pos (h k (by omega))]

/-- Chapter 19's SUMS, of plain lists: tables of one length, whose slots are all somebody's. -/
theorem sums {l l' : List Int} {n : Nat} {L : List R4} (hL : IsRows (Mk l l' n) L) (hp : ∀ i, i < n → 0 < aAt l i ∧ 0 < aAt l' i) :
    sumB R4.had L = n ∧ sumB R4.has L = n ∧ sumB R4.kept L = cnt (fun i => aAt l i == aAt l' i) n := by
  have hnd : (L.map R4.node).Nodup := hL.1.imp (fun h => by omega)
  have hrow : ∀ r ∈ L, r = rowK l l' r.node n := fun r hr => by
    have h := (hL.2 r).1 hr
    unfold Mk at h
    split at h
    · injection h with h; exact h.symm
    · cases h
  have hin : ∀ i, i < n → aAt l i ∈ L.map R4.node ∧ aAt l' i ∈ L.map R4.node := fun i hi => by
    refine ⟨List.mem_map.2 ⟨rowK l l' (aAt l i) n, ?_, rfl⟩, List.mem_map.2 ⟨rowK l l' (aAt l' i) n, ?_, rfl⟩⟩
    · exact (hL.2 _).2 (Mk_some (hp i hi).1 (.inl ((cnt_pos n).2 ⟨i, hi, by show (aAt l i == aAt l i) = true; simp⟩)))
    · exact (hL.2 _).2 (Mk_some (hp i hi).2 (.inr ((cnt_pos n).2 ⟨i, hi, by show (aAt l' i == aAt l' i) = true; simp⟩)))
  refine ⟨?_, ?_, ?_⟩
  · rw [sumB_nat R4.had (fun x => cnt (fun i => true && aAt l i == x) n) L (fun r hr => by rw [hrow r hr]; simp [rowK, hadK]), sum_cnt (fun _ => true) (aAt l) _ hnd n, cnt_all n (fun i hi => by simp only [Bool.true_and]; exact decide_eq_true (hin i hi).1)]
  · rw [sumB_nat R4.has (fun x => cnt (fun i => true && aAt l' i == x) n) L (fun r hr => by rw [hrow r hr]; simp [rowK, hadK]), sum_cnt (fun _ => true) (aAt l') _ hnd n, cnt_all n (fun i hi => by simp only [Bool.true_and]; exact decide_eq_true (hin i hi).2)]
  · have hk : ∀ x, keptK l l' x n = cnt (fun i => (aAt l i == aAt l' i) && aAt l i == x) n := fun x => cnt_congr n (fun i _ => by
      by_cases h1 : aAt l i = x
      · subst h1
        by_cases h2 : aAt l' i = aAt l i
        · simp [h2]
        · have : ¬ aAt l i = aAt l' i := fun e => h2 e.symm
          have e1 : (aAt l' i == aAt l i) = false := by simp [h2]
          have e2 : (aAt l i == aAt l' i) = false := by simp [this]
          simp [e1, e2]
      · have e1 : (aAt l i == x) = false := by simp [h1]
        show (aAt l i == x && aAt l' i == x) = ((aAt l i == aAt l' i) && aAt l i == x)
        rw [e1]; simp)
    rw [sumB_nat R4.kept (fun x => cnt (fun i => (aAt l i == aAt l' i) && aAt l i == x) n) L (fun r hr => by rw [← hk]; rw [hrow r hr]; rfl), sum_cnt (fun i => aAt l i == aAt l' i) (aAt l) _ hnd n]
    rw [cnt_congr (g := fun i => aAt l i == aAt l' i) n (fun i hi => by
      show ((aAt l i == aAt l' i) && decide (aAt l i ∈ List.map R4.node L)) = _
      rw [decide_eq_true (hin i hi).1, Bool.and_true])]
theorem row_le {l l' : List Int} {n : Nat} {L : List R4} (hL : IsRows (Mk l l' n) L) {r : R4} (hr : r ∈ L) : r.kept ≤ r.had ∧ r.kept ≤ r.has ∧ 0 ≤ r.kept ∧ r.had ≤ n ∧ r.has ≤ n ∧ 0 < r.node := by
  have h := (hL.2 r).1 hr
  have hm := Mk_node h
  unfold Mk at h
  split at h
  · injection h with h
    have := keptK_le l l' r.node n
    rw [← h] at hm ⊢
    simp only [rowK] at hm ⊢
    omega
  · cases h
theorem rows_rise {L : List R4} (h : (L.map R4.node).Pairwise (· < ·)) {k : Nat} {x y : R4} (hx : L[k]? = some x) (hy : L[k + 1]? = some y) : x.node < y.node := by
  have hp := List.pairwise_map.1 h
  obtain ⟨h1, e1⟩ := List.getElem?_eq_some_iff.1 hx
  obtain ⟨h2, e2⟩ := List.getElem?_eq_some_iff.1 hy
  have := (List.pairwise_iff_getElem.1 hp) k (k + 1) h1 h2 (by omega)
  rw [e1, e2] at this
  exact this
end Go.Proofs.Ytimnkcjpgglpdaa
