/-
  PLAIN: the first backend of a row from a slot on, and round; the rising list of a row's backends. No program in sight; no condition.
-/
import Derived.Maps.Views
set_option linter.unusedVariables false
set_option linter.unusedSimpArgs false
namespace Go.Proofs.YtecblclpchndiaaGreat

/-- What has come when k rounds are over. -/
def upto {α : Type} (f : Nat → α) (k : Nat) : List α := (List.range k).map f
theorem upto_succ {α : Type} (f : Nat → α) (k : Nat) : upto f (k + 1) = upto f k ++ [f k] := by simp [upto, List.range_succ]
theorem upto_length {α : Type} (f : Nat → α) (k : Nat) : (upto f k).length = k := by simp [upto]
theorem mem_upto {α : Type} {f : Nat → α} {k : Nat} {x : α} : x ∈ upto f k ↔ ∃ j, j < k ∧ f j = x := by simp [upto]

theorem upto_prefix {α : Type} (f : Nat → α) {k n : Nat} (h : k ≤ n) : upto f k <+: upto f n := by
  induction n with
  | zero => obtain rfl : k = 0 := by omega
            exact List.prefix_refl _
  | succ n ih =>
    by_cases hk : k ≤ n
    · rw [upto_succ]; exact (ih hk).trans (List.prefix_append _ _)
    · obtain rfl : k = n + 1 := by omega
      exact List.prefix_refl _

/-- A number above 0 that is not another one. -/
def okN (o x : Int) : Bool := decide (0 < x) && decide (x ≠ o)
theorem okN_iff {o x : Int} : okN o x = true ↔ 0 < x ∧ x ≠ o := by simp [okN]
theorem okN_no {o x : Int} : okN o x = false ↔ ¬ (0 < x ∧ x ≠ o) := by rw [← okN_iff]; simp
/-- The number j slots behind a slot, round. -/
def rot (l : List Int) (at_ j : Nat) : Int := l[(at_ + j) % l.length]?.getD 0
/-- The first one that is so, from a slot on; 0: there is none. -/
def firstF (l : List Int) (at_ : Nat) (o : Int) : Int := ((upto (rot l at_) l.length).find? (okN o)).getD 0

theorem find_upto {f : Nat → Int} {p : Int → Bool} : ∀ (n k : Nat), k < n → (∀ j, j < k → p (f j) = false) → p (f k) = true → (upto f n).find? p = some (f k)
  | 0, _, h, _, _ => absurd h (by omega)
  | n + 1, k, h, hb, hk => by
    rw [upto_succ, List.find?_append]
    by_cases hkn : k < n
    · rw [find_upto n k hkn hb hk]; rfl
    · obtain rfl : k = n := by omega
      have : (upto f k).find? p = none := List.find?_eq_none.2 fun x hx => by
        obtain ⟨j, hj, rfl⟩ := mem_upto.1 hx
        simp [hb j hj]
      rw [this]; simp [hk]
theorem firstF_hit {l : List Int} {at_ : Nat} {o : Int} {k : Nat} (hk : k < l.length) (hb : ∀ j, j < k → okN o (rot l at_ j) = false) (h : okN o (rot l at_ k) = true) : firstF l at_ o = rot l at_ k := by
  unfold firstF; rw [find_upto _ _ hk hb h]; rfl
theorem firstF_miss {l : List Int} {at_ : Nat} {o : Int} (hb : ∀ j, j < l.length → okN o (rot l at_ j) = false) : firstF l at_ o = 0 := by
  unfold firstF
  rw [List.find?_eq_none.2 fun x hx => by obtain ⟨j, hj, rfl⟩ := mem_upto.1 hx; simp [hb j hj]]; rfl
theorem firstF_prefix {l : List Int} {at_ : Nat} {o : Int} {pre : List Int} {x : Int} (hp : (pre ++ [x]) <+: upto (rot l at_) l.length) (hb : ∀ y ∈ pre, okN o y = false) (h : okN o x = true) : firstF l at_ o = x := by
  obtain ⟨t, ht⟩ := hp
  unfold firstF
  rw [← ht, List.find?_append, List.find?_append, List.find?_eq_none.2 fun y hy => by simp [hb y hy]]
  simp [h]
theorem firstF_all {l : List Int} {at_ : Nat} {o : Int} (hb : ∀ y ∈ upto (rot l at_) l.length, okN o y = false) : firstF l at_ o = 0 :=
  firstF_miss fun j hj => hb _ (mem_upto.2 ⟨j, hj, rfl⟩)
theorem rot_mem {l : List Int} {at_ j : Nat} (h : 0 < l.length) : rot l at_ j ∈ l := by
  unfold rot
  have := Nat.mod_lt (at_ + j) h
  rw [List.getElem?_eq_getElem this]; simp
theorem mem_rot {l : List Int} {at_ : Nat} {x : Int} (hx : x ∈ l) (ha : at_ < l.length) : ∃ j, j < l.length ∧ rot l at_ j = x := by
  obtain ⟨i, hi, rfl⟩ := List.mem_iff_getElem.1 hx
  refine ⟨if at_ ≤ i then i - at_ else i + l.length - at_, by split <;> omega, ?_⟩
  unfold rot
  have : (at_ + (if at_ ≤ i then i - at_ else i + l.length - at_)) % l.length = i := by
    split
    · rw [show at_ + (i - at_) = i by omega]; exact Nat.mod_eq_of_lt hi
    · rw [show at_ + (i + l.length - at_) = i + l.length by omega, Nat.add_mod_right]; exact Nat.mod_eq_of_lt hi
  rw [this, List.getElem?_eq_getElem hi]; rfl
/-- It is one of the row that is so, or there is none. -/
theorem firstF_cases (l : List Int) {at_ : Nat} (o : Int) (ha : at_ < l.length) :
    (firstF l at_ o ∈ l ∧ 0 < firstF l at_ o ∧ firstF l at_ o ≠ o) ∨ (firstF l at_ o = 0 ∧ ∀ x ∈ l, ¬ (0 < x ∧ x ≠ o)) := by
  by_cases h : ∃ k, k < l.length ∧ okN o (rot l at_ k) = true
  · have : ∀ n k, k < n → k < l.length → okN o (rot l at_ k) = true → ∃ k, k < l.length ∧ okN o (rot l at_ k) = true ∧ ∀ j, j < k → okN o (rot l at_ j) = false := by
      intro n
      induction n with
      | zero => intro k hk; omega
      | succ n ih =>
        intro k hk hkl hok
        by_cases hb : ∃ j, j < k ∧ okN o (rot l at_ j) = true
        · obtain ⟨j, hj, hjo⟩ := hb
          exact ih j (by omega) (by omega) hjo
        · exact ⟨k, hkl, hok, fun j hj => by
            cases hc : okN o (rot l at_ j)
            · rfl
            · exact absurd ⟨j, hj, hc⟩ hb⟩
    obtain ⟨k, hk, hok⟩ := h
    obtain ⟨k, hk, hok, hb⟩ := this (k + 1) k (by omega) hk hok
    rw [firstF_hit hk hb hok]
    have := okN_iff.1 hok
    exact .inl ⟨rot_mem (by omega), this.1, this.2⟩
  · right
    refine ⟨firstF_miss fun j hj => ?_, fun x hx hxo => ?_⟩
    · cases hc : okN o (rot l at_ j)
      · rfl
      · exact absurd ⟨j, hj, hc⟩ h
    · obtain ⟨j, hj, rfl⟩ := mem_rot hx ha
      exact h ⟨j, hj, okN_iff.2 hxo⟩

/-- ns is the rising list of the numbers above 0 of l. -/
def IsNodes (l ns : List Int) : Prop := ns.Pairwise (· < ·) ∧ ∀ x, x ∈ ns ↔ (0 < x ∧ x ∈ l)
theorem IsNodes.one {l a b : List Int} (ha : IsNodes l a) (hb : IsNodes l b) : a = b := by
  have na : a.Nodup := ha.1.imp (fun h => by omega)
  have nb : b.Nodup := hb.1.imp (fun h => by omega)
  refine List.Perm.eq_of_pairwise (le := (· < · : Int → Int → Prop)) (fun x y _ _ h1 h2 => by omega) ha.1 hb.1 ((List.perm_ext_iff_of_nodup na nb).2 fun x => ?_)
  rw [ha.2, hb.2]
theorem sorted_rising {ss : List Int} (hn : ss.Nodup) : (ss.mergeSort (fun x y => decide (x ≤ y))).Pairwise (· < ·) := by
  have hs : (ss.mergeSort (fun x y => decide (x ≤ y))).Pairwise (fun a b => decide (a ≤ b) = true) :=
    List.pairwise_mergeSort (fun a b c h1 h2 => by simp at *; omega) (fun a b => by simp; omega) ss
  have hn' : (ss.mergeSort (fun x y => decide (x ≤ y))).Nodup := (List.mergeSort_perm ss _).nodup_iff.2 hn
  exact (hs.and hn').imp fun {a b} ⟨h1, h2⟩ => by simp at h1; omega
theorem IsNodes.of_keys {l ss : List Int} (hn : ss.Nodup) (hm : ∀ x, x ∈ ss ↔ (0 < x ∧ x ∈ l)) : IsNodes l (ss.mergeSort (fun x y => decide (x ≤ y))) :=
  ⟨sorted_rising hn, fun x => by rw [List.mem_mergeSort]; exact hm x⟩
theorem IsNodes.length_le {l ns : List Int} (h : IsNodes l ns) : ns.length ≤ l.length := by
  have nn : ns.Nodup := h.1.imp (fun h => by omega)
  exact nn.length_le_of_subset fun x hx => ((h.2 x).1 hx).2
end Go.Proofs.YtecblclpchndiaaGreat
