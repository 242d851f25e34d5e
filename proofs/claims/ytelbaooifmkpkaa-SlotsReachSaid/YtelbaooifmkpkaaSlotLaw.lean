/-
  THE PLAIN LAW OF OPEN ADDRESSING: putting, taking out and closing a gap keep each key reachable from its home; a search finds just what is there. Nothing of the program. Conditions: places and homes below n.
-/
import Derived.Test.YtelbaooifmkpkaaSlotPlain
set_option linter.unusedVariables false
set_option linter.unusedSimpArgs false
namespace Go.Proofs.Ytelbaooifmkpkaa

theorem farOf_spec {n i j : Nat} (hi : i < n) (hj : j < n) : farOf n i j < n ∧ (i + farOf n i j = j ∨ i + farOf n i j = j + n) := by
  unfold farOf
  by_cases h : i ≤ j
  · have : (j + n - i) % n = j - i := by
      rw [show j + n - i = (j - i) + n by omega, Nat.add_mod_right]
      exact Nat.mod_eq_of_lt (by omega)
    omega
  · have : (j + n - i) % n = j + n - i := Nat.mod_eq_of_lt (by omega)
    omega
theorem next_spec {n a : Nat} (ha : a < n) : (a + 1) % n < n ∧ ((a + 1) % n = a + 1 ∨ ((a + 1) % n = 0 ∧ a + 1 = n)) := by
  by_cases h : a + 1 = n
  · rw [h, Nat.mod_self]; omega
  · have : (a + 1) % n = a + 1 := Nat.mod_eq_of_lt (by omega)
    omega
theorem plus_spec {n a t : Nat} (ha : a < n) (ht : t < n) : (a + t) % n < n ∧ ((a + t) % n = a + t ∨ (a + t) % n + n = a + t) := by
  by_cases h : a + t < n
  · have := Nat.mod_eq_of_lt h; omega
  · have : (a + t) % n = a + t - n := by
      rw [show a + t = (a + t - n) + n by omega, Nat.add_mod_right, Nat.mod_eq_of_lt (by omega)]
      omega
    omega

/-- How many of the first n cells are used. -/
def cnt (cs : Nat → SC) : Nat → Nat
  | 0 => 0
  | n + 1 => cnt cs n + if (cs n).used then 1 else 0
theorem cnt_congr {cs cs' : Nat → SC} : ∀ {n : Nat}, (∀ i, i < n → (cs i).used = (cs' i).used) → cnt cs n = cnt cs' n
  | 0, _ => rfl
  | n + 1, h => by unfold cnt; rw [cnt_congr (n := n) fun i hi => h i (by omega), h n (by omega)]
theorem cnt_upd (cs : Nat → SC) (i : Nat) (x : SC) : ∀ {n : Nat}, i < n → cnt (upd cs i x) n + (if (cs i).used then 1 else 0) = cnt cs n + (if x.used then 1 else 0)
  | 0, h => by omega
  | n + 1, h => by
    unfold cnt
    by_cases e : i = n
    · subst e
      rw [cnt_congr (cs := upd cs i x) (cs' := cs) (fun j hj => by rw [upd_other _ _ (by omega)]), upd_same]
      omega
    · have := cnt_upd cs i x (n := n) (by omega)
      rw [upd_other _ _ (by omega)]
      omega
theorem cnt_le (cs : Nat → SC) : ∀ n, cnt cs n ≤ n
  | 0 => by simp [cnt]
  | n + 1 => by have := cnt_le cs n; unfold cnt; split <;> omega
theorem cnt_full {cs : Nat → SC} : ∀ {n : Nat}, (∀ i, i < n → (cs i).used = true) → cnt cs n = n
  | 0, _ => rfl
  | n + 1, h => by unfold cnt; rw [cnt_full fun i hi => h i (by omega), h n (by omega)]; simp
theorem cnt_free {cs : Nat → SC} : ∀ {n i : Nat}, i < n → (cs i).used = false → cnt cs n < n
  | 0, _, h, _ => by omega
  | n + 1, i, h, hu => by
    unfold cnt
    by_cases e : i = n
    · subst e; have := cnt_le cs i; simp [hu]; omega
    · have := cnt_free (n := n) (by omega) hu; split <;> omega

/-! Where a search ends. -/
/-- Does a search for k end in this cell? -/
def stops (cs : Nat → SC) (k : Int) (i : Nat) : Prop := (cs i).used = false ∨ (cs i).k = k
theorem find_at {cs : Nat → SC} {n : Nat} {k : Int} (hn : 1 ≤ n) : ∀ (t f a : Nat), a < n → t < f → t < n → stops cs k ((a + t) % n) → (∀ s, s < t → ¬ stops cs k ((a + s) % n)) → findIn cs n k f a = some ((a + t) % n)
  | 0, f + 1, a, ha, _, _, hs, _ => by
    have e : (a + 0) % n = a := Nat.mod_eq_of_lt (by omega)
    rw [e] at hs ⊢
    exact if_pos hs
  | t + 1, f + 1, a, ha, htf, htn, hs, hb => by
    have h0 := hb 0 (by omega)
    have e : (a + 0) % n = a := Nat.mod_eq_of_lt (by omega)
    rw [e] at h0
    refine (if_neg h0).trans ?_
    have e2 : ∀ s, ((a + 1) % n + s) % n = (a + (s + 1)) % n := fun s => by rw [Nat.mod_add_mod, Nat.add_right_comm, ← Nat.add_assoc]
    have := find_at hn t f ((a + 1) % n) (Nat.mod_lt _ hn) (by omega) (by omega) (by rw [e2]; exact hs) (fun s hs' => by rw [e2]; exact hb (s + 1) (by omega))
    rw [this, e2]
theorem find_none {cs : Nat → SC} {n : Nat} {k : Int} (hn : 1 ≤ n) : ∀ (f a : Nat), a < n → (∀ i, i < n → ¬ stops cs k i) → findIn cs n k f a = none
  | 0, _, _, _ => rfl
  | f + 1, a, ha, h => by
    refine (if_neg (h a ha)).trans ?_
    exact find_none hn f _ (Nat.mod_lt _ hn) h

/-! Seen from a place P on, which no way crosses: each key lies behind its home, and all cells between are used. -/
structure Lin (hm : Int → Nat) (cs : Nat → SC) (n P : Nat) : Prop where
  lt : P < n
  le : ∀ j, j < n → (cs j).used = true → farOf n P (hm (cs j).k) ≤ farOf n P j
  mid : ∀ j i, j < n → i < n → (cs j).used = true → farOf n P (hm (cs j).k) ≤ farOf n P i → farOf n P i < farOf n P j → (cs i).used = true

/-- The table: no key lies twice; the ways are whole. -/
structure TInv (hm : Int → Nat) (cs : Nat → SC) (n : Nat) : Prop where
  lo : 1 ≤ n
  home : ∀ k, hm k < n
  uniq : ∀ i j, i < n → j < n → (cs i).used = true → (cs j).used = true → (cs i).k = (cs j).k → i = j
  lin : ∃ P, Lin hm cs n P
/-- k lies in the table, with v by it. -/
def Ent (cs : Nat → SC) (n : Nat) (k v : Int) : Prop := ∃ i, i < n ∧ cs i = ⟨true, k, v⟩

section
variable {hm : Int → Nat} {cs : Nat → SC} {n : Nat}
theorem SC.eta_used {x : SC} (h : x.used = true) : x = ⟨true, x.k, x.v⟩ := by cases x; simp_all
/-- From a key's home on, up to its cell, all are used. -/
theorem TInv.way (h : TInv hm cs n) {j : Nat} (hj : j < n) (hu : (cs j).used = true) :
    ∀ s, s < farOf n (hm (cs j).k) j → (cs ((hm (cs j).k + s) % n)).used = true ∧ (hm (cs j).k + s) % n ≠ j := by
  obtain ⟨P, hP, hle, hmid⟩ := h.lin
  intro s hs
  have hh := h.home (cs j).k
  have f1 := farOf_spec hh hj
  have p1 := plus_spec (t := s) hh (by omega)
  have f2 := farOf_spec hP hh
  have f3 := farOf_spec hP hj
  have f4 := farOf_spec hP p1.1
  have l1 := hle j hj hu
  refine ⟨hmid j _ hj p1.1 hu (by omega) (by omega), by omega⟩
/-- A key that is there is found. -/
theorem TInv.find_there (h : TInv hm cs n) {j : Nat} (hj : j < n) (hu : (cs j).used = true) : findIn cs n (cs j).k n (hm (cs j).k) = some j := by
  have hh := h.home (cs j).k
  have f1 := farOf_spec hh hj
  have e : (hm (cs j).k + farOf n (hm (cs j).k) j) % n = j := by
    rcases f1.2 with e | e
    · rw [e]; exact Nat.mod_eq_of_lt hj
    · rw [e, Nat.add_mod_right]; exact Nat.mod_eq_of_lt hj
  have := find_at (cs := cs) (k := (cs j).k) h.lo (farOf n (hm (cs j).k) j) n (hm (cs j).k) hh f1.1 f1.1 (by rw [e]; exact .inr rfl) (fun s hs => by
    obtain ⟨w1, w2⟩ := h.way hj hu s hs
    have p1 := plus_spec (t := s) hh (by omega)
    rintro (h1 | h1)
    · rw [w1] at h1; cases h1
    · exact w2 (h.uniq _ _ p1.1 hj w1 hu h1))
  rw [this, e]
/-- The first free cell from a place on. -/
theorem first_free (hn : 1 ≤ n) {a i : Nat} (ha : a < n) (hi : i < n) (hf : (cs i).used = false) : ∃ t, t < n ∧ (cs ((a + t) % n)).used = false ∧ ∀ s, s < t → (cs ((a + s) % n)).used = true := by
  have f1 := farOf_spec ha hi
  have e : (a + farOf n a i) % n = i := by
    rcases f1.2 with e | e
    · rw [e]; exact Nat.mod_eq_of_lt hi
    · rw [e, Nat.add_mod_right]; exact Nat.mod_eq_of_lt hi
  have key : ∀ m, (∀ s, s < m → (cs ((a + s) % n)).used = true) ∨ ∃ t, t < m ∧ (cs ((a + t) % n)).used = false ∧ ∀ s, s < t → (cs ((a + s) % n)).used = true := by
    intro m
    induction m with
    | zero => exact .inl fun s hs => by omega
    | succ m ih =>
      rcases ih with ih | ⟨t, h1, h2, h3⟩
      · cases hu : (cs ((a + m) % n)).used with
        | true =>
          left; intro s hs
          by_cases e : s = m
          · rw [e]; exact hu
          · exact ih s (by omega)
        | false => exact .inr ⟨m, by omega, hu, ih⟩
      · exact .inr ⟨t, by omega, h2, h3⟩
  rcases key (farOf n a i + 1) with h | ⟨t, h1, h2, h3⟩
  · have := h _ (Nat.lt_succ_self _)
    rw [e, hf] at this
    cases this
  · exact ⟨t, by omega, h2, h3⟩

/-- A key that is not there: the first free cell from its home on; none where all are used. -/
theorem TInv.find_new (h : TInv hm cs n) (k : Int) (hk : ∀ j, j < n → (cs j).used = true → (cs j).k ≠ k) :
    (∃ t, t < n ∧ findIn cs n k n (hm k) = some ((hm k + t) % n) ∧ (cs ((hm k + t) % n)).used = false ∧ ∀ s, s < t → (cs ((hm k + s) % n)).used = true) ∨
    (findIn cs n k n (hm k) = none ∧ ∀ i, i < n → (cs i).used = true) := by
  by_cases hf : ∃ i, i < n ∧ (cs i).used = false
  · obtain ⟨i, hi, hf⟩ := hf
    obtain ⟨t, h1, h2, h3⟩ := first_free (cs := cs) h.lo (h.home k) hi hf
    refine .inl ⟨t, h1, find_at h.lo t n _ (h.home k) h1 h1 (.inl h2) (fun s hs => ?_), h2, h3⟩
    have p1 := plus_spec (t := s) (h.home k) (by omega)
    rintro (hx | hx)
    · rw [h3 s hs] at hx; cases hx
    · exact hk _ p1.1 (h3 s hs) hx
  · have hall : ∀ i, i < n → (cs i).used = true := fun i hi => by
      cases hu : (cs i).used with
      | true => rfl
      | false => exact absurd ⟨i, hi, hu⟩ hf
    refine .inr ⟨find_none h.lo n _ (h.home k) (fun i hi => ?_), hall⟩
    rintro (hx | hx)
    · rw [hall i hi] at hx; cases hx
    · exact hk i hi (hall i hi) hx
/-- A new value by a key that is there. -/
theorem TInv.put_there (h : TInv hm cs n) {j : Nat} (hj : j < n) (hu : (cs j).used = true) (v : Int) : TInv hm (upd cs j ⟨true, (cs j).k, v⟩) n := by
  have eu : ∀ i, (upd cs j ⟨true, (cs j).k, v⟩ i).used = (cs i).used := fun i => by
    by_cases e : i = j
    · subst e; rw [upd_same, hu]
    · rw [upd_other _ _ e]
  have ek : ∀ i, (upd cs j ⟨true, (cs j).k, v⟩ i).k = (cs i).k := fun i => by
    by_cases e : i = j
    · subst e; rw [upd_same]
    · rw [upd_other _ _ e]
  obtain ⟨P, hP, hle, hmid⟩ := h.lin
  refine ⟨h.lo, h.home, fun a b ha hb h1 h2 h3 => ?_, P, hP, fun a ha h1 => ?_, fun a b ha hb h1 h2 h3 => ?_⟩
  · rw [eu] at h1 h2; rw [ek, ek] at h3; exact h.uniq a b ha hb h1 h2 h3
  · rw [eu] at h1; rw [ek]; exact hle a ha h1
  · rw [eu] at h1 ⊢; rw [ek] at h2; exact hmid a b ha hb h1 h2 h3
/-- A key that was not there is put into the first free cell from its home on. -/
theorem TInv.put_new (h : TInv hm cs n) (k v : Int) (hk : ∀ j, j < n → (cs j).used = true → (cs j).k ≠ k) {t : Nat} (ht : t < n)
    (hf : (cs ((hm k + t) % n)).used = false) (hb : ∀ s, s < t → (cs ((hm k + s) % n)).used = true) : TInv hm (upd cs ((hm k + t) % n) ⟨true, k, v⟩) n := by
  have hh := h.home k
  have p1 := plus_spec (t := t) hh ht
  generalize hi : (hm k + t) % n = i at *
  obtain ⟨P, hP, hle, hmid⟩ := h.lin
  refine ⟨h.lo, h.home, fun a b ha hb' h1 h2 h3 => ?_, (i + 1) % n, ?_⟩
  · by_cases ea : a = i <;> by_cases eb : b = i
    · omega
    · subst ea; rw [upd_same] at h3; rw [upd_other _ _ eb] at h2 h3; exact absurd h3.symm (hk b hb' h2)
    · subst eb; rw [upd_same] at h3; rw [upd_other _ _ ea] at h1 h3; exact absurd h3 (hk a ha h1)
    · rw [upd_other _ _ ea] at h1 h3; rw [upd_other _ _ eb] at h2 h3; exact h.uniq a b ha hb' h1 h2 h3
  -- seen from the cell behind the new one
  have hni := next_spec p1.1
  -- no old way meets i
  have way : ∀ j, j < n → (cs j).used = true → farOf n ((i + 1) % n) (hm (cs j).k) ≤ farOf n ((i + 1) % n) j := by
    intro j hj hu
    have hhj := h.home (cs j).k
    have hw := h.way hj hu
    have f1 := farOf_spec hhj hj
    have f2 := farOf_spec hni.1 hhj
    have f3 := farOf_spec hni.1 hj
    have f4 := farOf_spec hhj p1.1
    by_cases hlt : farOf n (hm (cs j).k) i < farOf n (hm (cs j).k) j
    · have := (hw _ hlt).1
      have e : (hm (cs j).k + farOf n (hm (cs j).k) i) % n = i := by
        rcases f4.2 with e | e
        · rw [e]; exact Nat.mod_eq_of_lt p1.1
        · rw [e, Nat.add_mod_right]; exact Nat.mod_eq_of_lt p1.1
      rw [e, hf] at this
      cases this
    · have hne : i ≠ j := by rintro rfl; rw [hf] at hu; cases hu
      omega
  refine ⟨hni.1, fun j hj hu => ?_, fun j x hj hx hu h1 h2 => ?_⟩
  · by_cases e : j = i
    · subst e
      rw [upd_same]
      have f2 := farOf_spec hni.1 hh
      have f3 := farOf_spec hni.1 p1.1
      show farOf n ((j + 1) % n) (hm k) ≤ _
      omega
    · rw [upd_other _ _ e] at hu ⊢
      exact way j hj hu
  · by_cases ex : x = i
    · subst ex; rw [upd_same]
    · rw [upd_other _ _ ex]
      by_cases e : j = i
      · subst e
        rw [upd_same] at h1
        have h1 : farOf n ((j + 1) % n) (hm k) ≤ farOf n ((j + 1) % n) x := h1
        have f2 := farOf_spec hni.1 hh
        have f3 := farOf_spec hni.1 hj
        have f4 := farOf_spec hni.1 hx
        have f5 := farOf_spec hh hx
        have e : (hm k + farOf n (hm k) x) % n = x := by
          rcases f5.2 with e | e
          · rw [e]; exact Nat.mod_eq_of_lt hx
          · rw [e, Nat.add_mod_right]; exact Nat.mod_eq_of_lt hx
        rw [← e]
        exact hb _ (by omega)
      · rw [upd_other _ _ e] at hu h1
        have hhj := h.home (cs j).k
        have w1 := way j hj hu
        have f1 := farOf_spec hhj hj
        have f2 := farOf_spec hni.1 hhj
        have f3 := farOf_spec hni.1 hj
        have f4 := farOf_spec hni.1 hx
        have f5 := farOf_spec hhj hx
        have e : (hm (cs j).k + farOf n (hm (cs j).k) x) % n = x := by
          rcases f5.2 with e | e
          · rw [e]; exact Nat.mod_eq_of_lt hx
          · rw [e, Nat.add_mod_right]; exact Nat.mod_eq_of_lt hx
        have := (h.way hj hu (farOf n (hm (cs j).k) x) (by omega)).1
        rw [e] at this
        exact this

/-- While a gap is closed: the gap is at x, the place looked at last at a; a way may lead over the gap to places behind a alone. -/
structure Gap (hm : Int → Nat) (cs : Nat → SC) (n P x a : Nat) : Prop where
  hP : P < n
  hx : x < n
  ha : a < n
  xa : farOf n P x ≤ farOf n P a
  free : (cs x).used = false
  le : ∀ j, j < n → (cs j).used = true → farOf n P (hm (cs j).k) ≤ farOf n P j
  mid : ∀ j i, j < n → i < n → (cs j).used = true → farOf n P (hm (cs j).k) ≤ farOf n P i → farOf n P i < farOf n P j → (cs i).used = true ∨ (i = x ∧ farOf n P a < farOf n P j)

/-- Where all ways are whole nothing is moved. -/
theorem close_same (hh : ∀ k, hm k < n) {P : Nat} (hL : Lin hm cs n P) {x : Nat} (hx : x < n) (hf : (cs x).used = false) : ∀ (f a : Nat), a < n → closeIn hm n f cs x a = cs
  | 0, _, _ => rfl
  | f + 1, a, ha => by
    have hb := next_spec ha
    unfold closeIn
    simp only
    split
    · rfl
    · next hu =>
      have hu : (cs ((a + 1) % n)).used = true := by simpa using hu
      rw [if_neg, close_same hh hL hx hf f _ hb.1]
      have hhb := hh (cs ((a + 1) % n)).k
      have f1 := farOf_spec hx hb.1
      have f2 := farOf_spec hhb hb.1
      have f3 := farOf_spec hL.lt hhb
      have f4 := farOf_spec hL.lt hb.1
      have f5 := farOf_spec hL.lt hx
      have l1 := hL.le _ hb.1 hu
      intro hc
      have := hL.mid ((a + 1) % n) x hb.1 hx hu
      rw [hf] at this
      have hne : x ≠ (a + 1) % n := by rintro rfl; rw [hf] at hu; cases hu
      by_cases h1 : farOf n P x < farOf n P ((a + 1) % n)
      · by_cases h2 : farOf n P (hm (cs ((a + 1) % n)).k) ≤ farOf n P x
        · exact absurd (this h2 h1) (by simp)
        · omega
      · omega

/-- What lies in the cells, and that no key lies twice, and how many are used, hold on when one moves. -/
theorem Ent_move {x b : Nat} (hx : x < n) (hb : b < n) (hne : x ≠ b) (hf : (cs x).used = false) (hu : (cs b).used = true) (k v : Int) :
    Ent (upd (upd cs x (cs b)) b free) n k v ↔ Ent cs n k v := by
  constructor
  · rintro ⟨i, hi, h⟩
    by_cases e : i = b
    · subst e; rw [upd_same] at h; cases h
    · rw [upd_other _ _ e] at h
      by_cases e2 : i = x
      · subst e2; rw [upd_same] at h; exact ⟨b, hb, h⟩
      · rw [upd_other _ _ e2] at h; exact ⟨i, hi, h⟩
  · rintro ⟨i, hi, h⟩
    by_cases e : i = b
    · subst e; exact ⟨x, hx, by rw [upd_other _ _ hne, upd_same]; exact h⟩
    · have e2 : i ≠ x := by rintro rfl; rw [h] at hf; cases hf
      exact ⟨i, hi, by rw [upd_other _ _ e, upd_other _ _ e2]; exact h⟩
theorem uniq_move {x b : Nat} (hx : x < n) (hb : b < n) (hne : x ≠ b) (hf : (cs x).used = false) (hu : (cs b).used = true)
    (h : ∀ i j, i < n → j < n → (cs i).used = true → (cs j).used = true → (cs i).k = (cs j).k → i = j) :
    ∀ i j, i < n → j < n → (upd (upd cs x (cs b)) b free i).used = true → (upd (upd cs x (cs b)) b free j).used = true → (upd (upd cs x (cs b)) b free i).k = (upd (upd cs x (cs b)) b free j).k → i = j := by
  have key : ∀ i, i < n → (upd (upd cs x (cs b)) b free i).used = true → (i = x ∧ upd (upd cs x (cs b)) b free i = cs b) ∨ (i ≠ x ∧ i ≠ b ∧ upd (upd cs x (cs b)) b free i = cs i) := by
    intro i hi h
    by_cases e : i = b
    · subst e; rw [upd_same] at h; cases h
    · by_cases e2 : i = x
      · subst e2; left; rw [upd_other _ _ e, upd_same]; exact ⟨rfl, rfl⟩
      · right; rw [upd_other _ _ e, upd_other _ _ e2]; exact ⟨e2, e, rfl⟩
  intro i j hi hj h1 h2 h3
  rcases key i hi h1 with ⟨a1, a2⟩ | ⟨a0, a1, a2⟩ <;> rcases key j hj h2 with ⟨b1, b2⟩ | ⟨b0, b1, b2⟩
  · omega
  · rw [a2, b2] at h3; rw [b2] at h2; exact absurd (h b j hb hj hu h2 h3) (by omega)
  · rw [a2, b2] at h3; rw [a2] at h1; exact absurd (h i b hi hb h1 hu h3) (by omega)
  · rw [a2, b2] at h3; rw [a2] at h1; rw [b2] at h2; exact h i j hi hj h1 h2 h3
theorem cnt_move {x b : Nat} (hx : x < n) (hb : b < n) (hne : x ≠ b) (hf : (cs x).used = false) (hu : (cs b).used = true) : cnt (upd (upd cs x (cs b)) b free) n = cnt cs n := by
  have h1 := cnt_upd cs x (cs b) hx
  have h2 := cnt_upd (upd cs x (cs b)) b free hb
  rw [upd_other _ _ (fun e => hne e.symm)] at h2
  rw [hf, hu] at h1
  rw [hu] at h2
  have hfu : (free).used = false := rfl
  rw [hfu] at h2
  simp at h1 h2
  omega

theorem close_law (hh : ∀ k, hm k < n) {P : Nat} : ∀ (f : Nat) (cs : Nat → SC) (x a : Nat), Gap hm cs n P x a → n - 1 ≤ farOf n P a + f →
    (∀ i j, i < n → j < n → (cs i).used = true → (cs j).used = true → (cs i).k = (cs j).k → i = j) →
    Lin hm (closeIn hm n f cs x a) n P ∧ (∀ k v, Ent (closeIn hm n f cs x a) n k v ↔ Ent cs n k v) ∧ cnt (closeIn hm n f cs x a) n = cnt cs n ∧
    (∀ i j, i < n → j < n → (closeIn hm n f cs x a i).used = true → (closeIn hm n f cs x a j).used = true → (closeIn hm n f cs x a i).k = (closeIn hm n f cs x a j).k → i = j) := by
  intro f
  induction f with
  | zero =>
    intro cs x a g hfu hq
    refine ⟨⟨g.hP, g.le, fun j i hj hi hu h1 h2 => (g.mid j i hj hi hu h1 h2).elim id fun hx => ?_⟩, fun _ _ => Iff.rfl, rfl, hq⟩
    have := (farOf_spec g.hP hj).1
    omega
  | succ f ih =>
    intro cs x a g hfu hq
    have fa := farOf_spec g.hP g.ha
    have fx := farOf_spec g.hP g.hx
    have hb := next_spec g.ha
    by_cases hend : farOf n P a = n - 1
    · have hL : Lin hm cs n P := ⟨g.hP, g.le, fun j i hj hi hu h1 h2 => (g.mid j i hj hi hu h1 h2).elim id fun hx => by
        have := (farOf_spec g.hP hj).1
        omega⟩
      rw [close_same hh hL g.hx g.free (f + 1) a g.ha]
      exact ⟨hL, fun _ _ => Iff.rfl, rfl, hq⟩
    · have fb := farOf_spec g.hP hb.1
      have hab : farOf n P ((a + 1) % n) = farOf n P a + 1 := by have := g.ha; omega
      have hne : x ≠ (a + 1) % n := by rintro rfl; have := g.xa; omega
      have fxb := farOf_spec g.hx hb.1
      unfold closeIn
      simp only
      split
      · next hu =>
        refine ⟨⟨g.hP, g.le, fun j i hj hi huj h1 h2 => (g.mid j i hj hi huj h1 h2).elim id fun hx => ?_⟩, fun _ _ => Iff.rfl, rfl, hq⟩
        have fj := farOf_spec g.hP hj
        have hjb : j ≠ (a + 1) % n := by rintro rfl; rw [hu] at huj; cases huj
        have hxa := g.xa
        rw [hx.1] at h1
        rcases g.mid j ((a + 1) % n) hj hb.1 huj (by omega) (by omega) with h | h
        · rw [hu] at h; cases h
        · exact absurd h.1.symm hne
      · next hu =>
        have hu : (cs ((a + 1) % n)).used = true := by simpa using hu
        have hhb := hh (cs ((a + 1) % n)).k
        have fh := farOf_spec g.hP hhb
        have fhb := farOf_spec hhb hb.1
        have lb := g.le _ hb.1 hu
        have hxa := g.xa
        generalize hbb : (a + 1) % n = b at *
        split
        · next hc =>
          have hover : farOf n P (hm (cs b).k) ≤ farOf n P x := by omega
          have e := ih (upd (upd cs x (cs b)) b free) b b ?_ (by omega) (uniq_move g.hx hb.1 hne g.free hu hq)
          · refine ⟨e.1, fun k v => (e.2.1 k v).trans (Ent_move g.hx hb.1 hne g.free hu k v), e.2.2.1.trans (cnt_move g.hx hb.1 hne g.free hu), e.2.2.2⟩
          · refine ⟨g.hP, hb.1, hb.1, Nat.le_refl _, by rw [upd_same]; rfl, fun j hj hju => ?_, fun j i hj hi hju h1 h2 => ?_⟩
            · by_cases e1 : j = b
              · subst e1; rw [upd_same] at hju; cases hju
              · rw [upd_other _ _ e1] at hju ⊢
                by_cases e2 : j = x
                · subst e2; rw [upd_same]; exact hover
                · rw [upd_other _ _ e2] at hju ⊢; exact g.le j hj hju
            · by_cases e1 : j = b
              · subst e1; rw [upd_same] at hju; cases hju
              · rw [upd_other _ _ e1] at hju h1
                have fj := farOf_spec g.hP hj
                have fi := farOf_spec g.hP hi
                by_cases e2 : j = x
                · subst e2
                  rw [upd_same] at h1
                  -- a place of the moved one's way, ahead of the gap
                  have hib : i ≠ b := by rintro rfl; omega
                  have hix : i ≠ j := by rintro rfl; omega
                  left
                  rw [upd_other _ _ hib, upd_other _ _ hix]
                  rcases g.mid b i hb.1 hi hu h1 (by omega) with h | h
                  · exact h
                  · exact absurd h.1 hix
                · rw [upd_other _ _ e2] at hju h1
                  by_cases e3 : i = b
                  · subst e3; exact .inr ⟨rfl, h2⟩
                  · left
                    rw [upd_other _ _ e3]
                    by_cases e4 : i = x
                    · subst e4; rw [upd_same]; exact hu
                    · rw [upd_other _ _ e4]
                      rcases g.mid j i hj hi hju h1 h2 with h | h
                      · exact h
                      · exact absurd h.1 e4
        · next hc =>
          refine ih cs x b ⟨g.hP, g.hx, hb.1, by omega, g.free, g.le, fun j i hj hi hju h1 h2 => ?_⟩ (by omega) hq
          rcases g.mid j i hj hi hju h1 h2 with h | h
          · exact .inl h
          · right
            have fj := farOf_spec g.hP hj
            refine ⟨h.1, ?_⟩
            have : j ≠ b := by
              rintro rfl
              rw [h.1] at h1
              omega
            omega
end
end Go.Proofs.Ytelbaooifmkpkaa
