/-
  PLAIN: binary heaps in a list: one element sifted up, one sifted down. No program in sight; no condition.
-/
import Derived.Lib.Hide
namespace Go.Proofs.Ytgbdbeaflilmlaa
set_option linter.unusedVariables false
namespace Heap
/-- An order by 'less', without two that are each less than the other one. -/
structure Lt {α : Type} (lt : α → α → Bool) : Prop where
  asymm : ∀ {a b}, lt a b = true → lt b a = false
  trans : ∀ {a b c}, lt b a = false → lt c b = false → lt c a = false
section
variable {α : Type} {lt : α → α → Bool}
theorem Lt.irrefl (T : Lt lt) (a : α) : lt a a = false := by
  cases e : lt a a with
  | false => rfl
  | true => have := T.asymm e; rw [e] at this; exact this
/-- The elements at c and p are in order. -/
def Ord (lt : α → α → Bool) (l : List α) (c p : Nat) : Prop := ∀ x y, l[c]? = some x → l[p]? = some y → lt x y = false
/-- Two elements changed places. -/
def swap (l : List α) (i j : Nat) (x y : α) : List α := (l.set i y).set j x
theorem swap_at {l : List α} {i j : Nat} {x y : α} (hi : l[i]? = some x) (hj : l[j]? = some y) (k : Nat) : (swap l i j x y)[k]? = if k = j then some x else if k = i then some y else l[k]? := by
  obtain ⟨hi1, _⟩ := List.getElem?_eq_some_iff.1 hi
  obtain ⟨hj1, _⟩ := List.getElem?_eq_some_iff.1 hj
  unfold swap
  rw [List.getElem?_set]
  by_cases h : j = k
  · subst h; simp [hj1]
  · rw [if_neg h, if_neg (Ne.symm h), List.getElem?_set]
    by_cases h2 : i = k
    · subst h2; simp [hi1]
    · rw [if_neg h2, if_neg (Ne.symm h2)]
theorem swap_len (l : List α) (i j : Nat) (x y : α) : (swap l i j x y).length = l.length := by simp [swap]
theorem swap_perm {l : List α} {i j : Nat} {x y : α} (hi : l[i]? = some x) (hj : l[j]? = some y) : (swap l i j x y).Perm l := by
  classical
  obtain ⟨hi1, rfl⟩ := List.getElem?_eq_some_iff.1 hi
  obtain ⟨hj1, rfl⟩ := List.getElem?_eq_some_iff.1 hj
  exact List.set_set_perm hi1 hj1
def HeapFrom (lt : α → α → Bool) (n i0 : Nat) (l : List α) : Prop := ∀ c, 0 < c → c < n → i0 ≤ (c - 1) / 2 → Ord lt l c ((c - 1) / 2)
def OK (lt : α → α → Bool) (l : List α) : Prop := HeapFrom lt l.length 0 l
theorem OK.nil : OK lt ([] : List α) := fun c _ h => by simp at h
theorem OK.least (T : Lt lt) {l : List α} (h : OK lt l) {x : α} (h0 : l[0]? = some x) : ∀ (c : Nat) (y : α), l[c]? = some y → lt y x = false := by
  intro c
  induction c using Nat.strongRecOn with
  | ind c ih =>
    intro y hy
    obtain ⟨hc, _⟩ := List.getElem?_eq_some_iff.1 hy
    rcases Nat.eq_zero_or_pos c with e | hpos
    · subst e
      rw [h0] at hy; cases hy
      cases e : lt x x with
      | false => rfl
      | true => exact (T.asymm e).symm.trans e |>.symm
    · have hp : (c - 1) / 2 < c := by omega
      have hz : l[(c - 1) / 2]? = some (l[(c - 1) / 2]'(by omega)) := List.getElem?_eq_getElem (by omega)
      exact T.trans (ih _ hp _ hz) (h c hpos hc (Nat.zero_le _) y _ hy hz)

/-! ### Up -/
structure Up (lt : α → α → Bool) (l : List α) (j : Nat) : Prop where
  ord : ∀ c, 0 < c → c ≠ j → c < l.length → Ord lt l c ((c - 1) / 2)
  skip : ∀ c, 0 < c → 0 < j → c < l.length → (c - 1) / 2 = j → Ord lt l c ((j - 1) / 2)
theorem Up.push {l : List α} (h : OK lt l) (x : α) : Up lt (l ++ [x]) l.length := by
  refine ⟨fun c h1 h2 h3 a b ha hb => ?_, fun c h1 h2 h3 h4 => ?_⟩
  · simp at h3
    rw [List.getElem?_append_left (by omega)] at ha hb
    exact h c h1 (by omega) (Nat.zero_le _) a b ha hb
  · simp at h3; omega
theorem Up.step (T : Lt lt) {l : List α} {j : Nat} (h : Up lt l j) (hj : 0 < j) {x y : α} (hx : l[(j - 1) / 2]? = some x) (hy : l[j]? = some y) (hlt : lt y x = true) : Up lt (swap l ((j - 1) / 2) j x y) ((j - 1) / 2) := by
  have hs := swap_at hx hy
  have hij : (j - 1) / 2 < j := by omega
  obtain ⟨hjl, _⟩ := List.getElem?_eq_some_iff.1 hy
  refine ⟨fun c h1 h2 h3 a b ha hb => ?_, fun c h1 h2 h3 h4 a b ha hb => ?_⟩
  · rw [swap_len] at h3
    rw [hs] at ha hb
    by_cases e : c = j
    · subst e
      rw [if_pos rfl] at ha
      rw [if_neg (by omega), if_pos rfl] at hb
      cases ha; cases hb
      exact T.asymm hlt
    · rw [if_neg e, if_neg h2] at ha
      by_cases e1 : (c - 1) / 2 = j
      · rw [if_pos e1] at hb
        cases hb
        exact h.skip c h1 hj h3 e1 a _ ha hx
      · rw [if_neg e1] at hb
        by_cases e2 : (c - 1) / 2 = (j - 1) / 2
        · rw [if_pos e2] at hb
          cases hb
          exact T.trans (T.asymm hlt) (h.ord c h1 e h3 a _ ha (by rw [e2]; exact hx))
        · rw [if_neg e2] at hb
          exact h.ord c h1 e h3 a b ha hb
  · rw [swap_len] at h3
    rw [hs] at ha hb
    rw [if_neg (by omega), if_neg (by omega)] at hb
    have hip := h.ord ((j - 1) / 2) h2 (by omega) (by omega) x b hx hb
    by_cases e : c = j
    · subst e
      rw [if_pos rfl] at ha
      cases ha
      exact hip
    · rw [if_neg e, if_neg (by omega)] at ha
      exact T.trans hip (h.ord c h1 e h3 a _ ha (by rw [h4]; exact hx))
theorem Up.top {l : List α} (h : Up lt l 0) : OK lt l := fun c h1 h2 _ => h.ord c h1 (by omega) h2
theorem Up.stop {l : List α} {j : Nat} (h : Up lt l j) {x y : α} (hx : l[(j - 1) / 2]? = some x) (hy : l[j]? = some y) (hlt : lt y x = false) : OK lt l := fun c h1 h2 _ => by
  by_cases e : c = j
  · subst e
    intro a b ha hb
    rw [hy] at ha; cases ha
    rw [hx] at hb; cases hb
    exact hlt
  · exact h.ord c h1 e h2

theorem Up.stop' {l : List α} {i j : Nat} (h : Up lt l j) (hi : i = (j - 1) / 2) {x y : α} (hx : l[i]? = some x) (hy : l[j]? = some y) (hlt : lt y x = false) : OK lt l := by subst hi; exact h.stop hx hy hlt
theorem Up.step' (T : Lt lt) {l : List α} {i j : Nat} (h : Up lt l j) (hi : i = (j - 1) / 2) (hj : 0 < j) {x y : α} (hx : l[i]? = some x) (hy : l[j]? = some y) (hlt : lt y x = true) : Up lt (swap l i j x y) i := by subst hi; exact h.step T hj hx hy hlt

/-! ### Down -/
structure Down (lt : α → α → Bool) (n i0 : Nat) (l : List α) (i : Nat) : Prop where
  ge : i0 ≤ i
  ord : ∀ c, 0 < c → c < n → i0 ≤ (c - 1) / 2 → (c - 1) / 2 ≠ i → Ord lt l c ((c - 1) / 2)
  skip : ∀ c, 0 < c → c < n → (c - 1) / 2 = i → i ≠ i0 → i0 ≤ (i - 1) / 2 ∧ Ord lt l c ((i - 1) / 2)
theorem Down.start {n i0 : Nat} {l : List α} (h : HeapFrom lt n (i0 + 1) l) : Down lt n i0 l i0 :=
  ⟨Nat.le_refl _, fun c h1 h2 h3 h4 => h c h1 h2 (by omega), fun _ _ _ _ h => absurd rfl h⟩
theorem Down.step (T : Lt lt) {n i0 i j : Nat} {l : List α} (h : Down lt n i0 l i) (hn : n ≤ l.length) (hj : j < n) (hp : (j - 1) / 2 = i) (hj0 : 0 < j) {x y : α} (hx : l[i]? = some x) (hy : l[j]? = some y) (hlt : lt y x = true)
    (hmin : ∀ c, 0 < c → c < n → (c - 1) / 2 = i → Ord lt l c j) : Down lt n i0 (swap l i j x y) j := by
  have hs := swap_at hx hy
  have hge := h.ge
  refine ⟨by omega, fun c h1 h2 h3 h4 a b ha hb => ?_, fun c h1 h2 h3 h4 => ⟨by omega, fun a b ha hb => ?_⟩⟩
  · rw [hs] at ha hb
    by_cases e : c = j
    · subst e
      rw [if_pos rfl] at ha
      rw [if_neg (by omega), if_pos hp] at hb
      cases ha; cases hb
      exact T.asymm hlt
    · rw [if_neg e] at ha
      rw [if_neg h4] at hb
      by_cases e1 : (c - 1) / 2 = i
      · rw [if_pos e1] at hb
        rw [if_neg (by omega)] at ha
        cases hb
        exact hmin c h1 h2 e1 a _ ha hy
      · rw [if_neg e1] at hb
        by_cases e2 : c = i
        · subst e2
          rw [if_pos rfl] at ha
          cases ha
          exact (h.skip j hj0 hj hp (by omega)).2 _ b hy hb
        · rw [if_neg e2] at ha
          exact h.ord c h1 h2 h3 e1 a b ha hb
  · rw [hs] at ha hb
    rw [if_neg (by omega), if_neg (by omega)] at ha
    rw [if_neg (by omega), if_pos hp] at hb
    cases hb
    exact h.ord c h1 h2 (by omega) (by omega) a _ ha (by rw [h3]; exact hy)
theorem Down.leaf {n i0 i : Nat} {l : List α} (h : Down lt n i0 l i) (hl : n ≤ 2 * i + 1) : HeapFrom lt n i0 l := fun c h1 h2 h3 => h.ord c h1 h2 h3 (by omega)
theorem Down.stop (T : Lt lt) {n i0 i j : Nat} {l : List α} (h : Down lt n i0 l i) {x y : α} (hx : l[i]? = some x) (hy : l[j]? = some y) (hlt : lt y x = false)
    (hmin : ∀ c, 0 < c → c < n → (c - 1) / 2 = i → Ord lt l c j) : HeapFrom lt n i0 l := fun c h1 h2 h3 => by
  by_cases e : (c - 1) / 2 = i
  · intro a b ha hb
    rw [e, hx] at hb; cases hb
    exact T.trans hlt (hmin c h1 h2 e a _ ha hy)
  · exact h.ord c h1 h2 h3 e
theorem HeapFrom.half (l : List α) : HeapFrom lt l.length (l.length / 2) l := fun c h1 h2 h3 => by omega
/-- The first one and the last one changed places. -/
theorem OK.pop {l : List α} {n : Nat} (h : OK lt l) (hn : l.length = n + 1) {x y : α} (hx : l[0]? = some x) (hy : l[n]? = some y) : HeapFrom lt n 1 (swap l 0 n x y) := fun c h1 h2 h3 a b ha hb => by
  have hs := swap_at hx hy
  rw [hs] at ha hb
  rw [if_neg (by omega), if_neg (by omega)] at ha
  rw [if_neg (by omega), if_neg (by omega)] at hb
  exact h c h1 (by omega) (Nat.zero_le _) a b ha hb
theorem HeapFrom.take {l : List α} {n : Nat} (h : HeapFrom lt n 0 l) (hn : n ≤ l.length) : OK lt (l.take n) := fun c h1 h2 h3 a b ha hb => by
  rw [List.length_take] at h2
  rw [List.getElem?_take] at ha hb
  rw [if_pos (by omega)] at ha hb
  exact h c h1 (by omega) h3 a b ha hb
end
end Heap
end Go.Proofs.Ytgbdbeaflilmlaa
