/-
  PLAIN and WALKS: package slots at flows as keys, the hash that flowtab.New makes. Conditions: the table is one that New made (1 to 256 cells).
-/
import Derived.Test.YtldgdpekhjignaaGreatFlow
import Derived.Test.YtldgdpekhjignaaGreatClear
import Derived.Test.YtldgdpekhjignaaGreatReg
import Derived.Test.YtldgdpekhjignaaGreatFHash
import Derived.Test.YtldgdpekhjignaaGreatRowQ
import Derived.BigRegion
set_option linter.unusedVariables false
set_option linter.unusedSimpArgs false
namespace Go.Proofs.YtldgdpekhjignaaGreat.Fs


/-- A cell: whether it is used, its key, what stands by it. -/
structure SC (K : Type) where
  used : Bool
  k : K
  v : Int

/-- The place at which a search for k ends: a free cell or k's own. -/
def findIn (cs : Nat → SC Fl) (n : Nat) (k : Fl) : Nat → Nat → Option Nat
  | 0, _ => none
  | f + 1, a => if (cs a).used = false ∨ (cs a).k = k then some a else findIn cs n k f ((a + 1) % n)

theorem findIn_lt {cs : Nat → SC Fl} {n : Nat} {k : Fl} (hn : 1 ≤ n) : ∀ {f a i : Nat}, a < n → findIn cs n k f a = some i → i < n
  | 0, _, _, _, h => by simp [findIn] at h
  | f + 1, a, i, ha, h => by
    unfold findIn at h
    split at h
    · simp at h; omega
    · exact findIn_lt hn (Nat.mod_lt _ hn) h
/-- What is found is free, or the key's own. -/
theorem findIn_is {cs : Nat → SC Fl} {n : Nat} {k : Fl} : ∀ {f a i : Nat}, findIn cs n k f a = some i → (cs i).used = false ∨ (cs i).k = k
  | 0, _, _, h => by simp [findIn] at h
  | f + 1, a, i, h => by
    unfold findIn at h
    split at h
    · simp at h; subst h; assumption
    · exact findIn_is h

def upd (cs : Nat → SC Fl) (i : Nat) (x : SC Fl) : Nat → SC Fl := fun j => if j = i then x else cs j
theorem upd_same (cs : Nat → SC Fl) (i : Nat) (x : SC Fl) : upd cs i x i = x := by simp [upd]
theorem upd_other (cs : Nat → SC Fl) {i j : Nat} (x : SC Fl) (h : j ≠ i) : upd cs i x j = cs j := by simp [upd, h]

/-- A free cell. -/
def free : SC Fl := ⟨false, default, 0⟩
/-- How far a place is behind another one, round. -/
def farOf (n i j : Nat) : Nat := (j + n - i) % n
/-- Others move up to a gap; 'hm': the home of each key. -/
def closeIn (hm : Fl → Nat) (n : Nat) : Nat → (Nat → SC Fl) → Nat → Nat → (Nat → SC Fl)
  | 0, cs, _, _ => cs
  | f + 1, cs, hole, a =>
    let b := (a + 1) % n
    if (cs b).used = false then cs
    else if farOf n hole b ≤ farOf n (hm (cs b).k) b then closeIn hm n f (upd (upd cs hole (cs b)) b free) b b
    else closeIn hm n f cs hole b


theorem farOf_spec {n i j : Nat} (hi : i < n) (hj : j < n) : farOf n i j < n ∧ (i + farOf n i j = j ∨ i + farOf n i j = j + n) := by
  unfold farOf
  by_cases h : i ≤ j
  · have : (j + n - i) % n = j - i := by
      rw [show j + n - i = (j - i) + n by omega, Nat.add_mod_right]
      exact Nat.mod_eq_of_lt (by omega)
    omega
  · have : (j + n - i) % n = j + n - i := Nat.mod_eq_of_lt (by omega)
    omega
theorem next_spec {n a : Nat} (ha : a < n) : (a + 1) % n < n ∧ ((a + 1) % n = a + 1 ∨ ((a + 1) % n = 0 ∧ a + 1 = n)) := by
  by_cases h : a + 1 = n
  · rw [h, Nat.mod_self]; omega
  · have : (a + 1) % n = a + 1 := Nat.mod_eq_of_lt (by omega)
    omega
theorem plus_spec {n a t : Nat} (ha : a < n) (ht : t < n) : (a + t) % n < n ∧ ((a + t) % n = a + t ∨ (a + t) % n + n = a + t) := by
  by_cases h : a + t < n
  · have := Nat.mod_eq_of_lt h; omega
  · have : (a + t) % n = a + t - n := by
      rw [show a + t = (a + t - n) + n by omega, Nat.add_mod_right, Nat.mod_eq_of_lt (by omega)]
      omega
    omega

/-- How many of the first n cells are used. -/
def cnt (cs : Nat → SC Fl) : Nat → Nat
  | 0 => 0
  | n + 1 => cnt cs n + if (cs n).used then 1 else 0
theorem cnt_congr {cs cs' : Nat → SC Fl} : ∀ {n : Nat}, (∀ i, i < n → (cs i).used = (cs' i).used) → cnt cs n = cnt cs' n
  | 0, _ => rfl
  | n + 1, h => by unfold cnt; rw [cnt_congr (n := n) fun i hi => h i (by omega), h n (by omega)]
theorem cnt_upd (cs : Nat → SC Fl) (i : Nat) (x : SC Fl) : ∀ {n : Nat}, i < n → cnt (upd cs i x) n + (if (cs i).used then 1 else 0) = cnt cs n + (if x.used then 1 else 0)
  | 0, h => by omega
  | n + 1, h => by
    unfold cnt
    by_cases e : i = n
    · subst e
      rw [cnt_congr (cs := upd cs i x) (cs' := cs) (fun j hj => by rw [upd_other _ _ (by omega)]), upd_same]
      omega
    · have := cnt_upd cs i x (n := n) (by omega)
      rw [upd_other _ _ (by omega)]
      omega
theorem cnt_le (cs : Nat → SC Fl) : ∀ n, cnt cs n ≤ n
  | 0 => by simp [cnt]
  | n + 1 => by have := cnt_le cs n; unfold cnt; split <;> omega
theorem cnt_full {cs : Nat → SC Fl} : ∀ {n : Nat}, (∀ i, i < n → (cs i).used = true) → cnt cs n = n
  | 0, _ => rfl
  | n + 1, h => by unfold cnt; rw [cnt_full fun i hi => h i (by omega), h n (by omega)]; simp
theorem cnt_free {cs : Nat → SC Fl} : ∀ {n i : Nat}, i < n → (cs i).used = false → cnt cs n < n
  | 0, _, h, _ => by omega
  | n + 1, i, h, hu => by
    unfold cnt
    by_cases e : i = n
    · subst e; have := cnt_le cs i; simp [hu]; omega
    · have := cnt_free (n := n) (by omega) hu; split <;> omega

/-! Where a search ends. -/
/-- Does a search for k end in this cell? -/
def stops (cs : Nat → SC Fl) (k : Fl) (i : Nat) : Prop := (cs i).used = false ∨ (cs i).k = k
theorem find_at {cs : Nat → SC Fl} {n : Nat} {k : Fl} (hn : 1 ≤ n) : ∀ (t f a : Nat), a < n → t < f → t < n → stops cs k ((a + t) % n) → (∀ s, s < t → ¬ stops cs k ((a + s) % n)) → findIn cs n k f a = some ((a + t) % n)
  | 0, f + 1, a, ha, _, _, hs, _ => by
    have e : (a + 0) % n = a := Nat.mod_eq_of_lt (by omega)
    rw [e] at hs ⊢
    exact if_pos hs
  | t + 1, f + 1, a, ha, htf, htn, hs, hb => by
    have h0 := hb 0 (by omega)
    have e : (a + 0) % n = a := Nat.mod_eq_of_lt (by omega)
    rw [e] at h0
    refine (if_neg h0).trans ?_
    have e2 : ∀ s, ((a + 1) % n + s) % n = (a + (s + 1)) % n := fun s => by rw [Nat.mod_add_mod, Nat.add_right_comm, ← Nat.add_assoc]
    have := find_at hn t f ((a + 1) % n) (Nat.mod_lt _ hn) (by omega) (by omega) (by rw [e2]; exact hs) (fun s hs' => by rw [e2]; exact hb (s + 1) (by omega))
    rw [this, e2]
theorem find_none {cs : Nat → SC Fl} {n : Nat} {k : Fl} (hn : 1 ≤ n) : ∀ (f a : Nat), a < n → (∀ i, i < n → ¬ stops cs k i) → findIn cs n k f a = none
  | 0, _, _, _ => rfl
  | f + 1, a, ha, h => by
    refine (if_neg (h a ha)).trans ?_
    exact find_none hn f _ (Nat.mod_lt _ hn) h

/-! Seen from a place P on, which no way crosses: each key lies behind its home, and all cells between are used. -/
structure Lin (hm : Fl → Nat) (cs : Nat → SC Fl) (n P : Nat) : Prop where
  lt : P < n
  le : ∀ j, j < n → (cs j).used = true → farOf n P (hm (cs j).k) ≤ farOf n P j
  mid : ∀ j i, j < n → i < n → (cs j).used = true → farOf n P (hm (cs j).k) ≤ farOf n P i → farOf n P i < farOf n P j → (cs i).used = true

/-- The table: no key lies twice; the ways are whole. -/
structure TInv (hm : Fl → Nat) (cs : Nat → SC Fl) (n : Nat) : Prop where
  lo : 1 ≤ n
  home : ∀ k, hm k < n
  uniq : ∀ i j, i < n → j < n → (cs i).used = true → (cs j).used = true → (cs i).k = (cs j).k → i = j
  lin : ∃ P, Lin hm cs n P
/-- k lies in the table, with v by it. -/
def Ent (cs : Nat → SC Fl) (n : Nat) (k : Fl) (v : Int) : Prop := ∃ i, i < n ∧ cs i = ⟨true, k, v⟩

section
variable {hm : Fl → Nat} {cs : Nat → SC Fl} {n : Nat}
theorem SC.eta_used {x : SC Fl} (h : x.used = true) : x = ⟨true, x.k, x.v⟩ := by cases x; simp_all
/-- From a key's home on, up to its cell, all are used. -/
theorem TInv.way (h : TInv hm cs n) {j : Nat} (hj : j < n) (hu : (cs j).used = true) :
    ∀ s, s < farOf n (hm (cs j).k) j → (cs ((hm (cs j).k + s) % n)).used = true ∧ (hm (cs j).k + s) % n ≠ j := by
  obtain ⟨P, hP, hle, hmid⟩ := h.lin
  intro s hs
  have hh := h.home (cs j).k
  have f1 := farOf_spec hh hj
  have p1 := plus_spec (t := s) hh (by omega)
  have f2 := farOf_spec hP hh
  have f3 := farOf_spec hP hj
  have f4 := farOf_spec hP p1.1
  have l1 := hle j hj hu
  refine ⟨hmid j _ hj p1.1 hu (by omega) (by omega), by omega⟩
/-- A key that is there is found. -/
theorem TInv.find_there (h : TInv hm cs n) {j : Nat} (hj : j < n) (hu : (cs j).used = true) : findIn cs n (cs j).k n (hm (cs j).k) = some j := by
  have hh := h.home (cs j).k
  have f1 := farOf_spec hh hj
  have e : (hm (cs j).k + farOf n (hm (cs j).k) j) % n = j := by
    rcases f1.2 with e | e
    · rw [e]; exact Nat.mod_eq_of_lt hj
    · rw [e, Nat.add_mod_right]; exact Nat.mod_eq_of_lt hj
  have := find_at (cs := cs) (k := (cs j).k) h.lo (farOf n (hm (cs j).k) j) n (hm (cs j).k) hh f1.1 f1.1 (by rw [e]; exact .inr rfl) (fun s hs => by
    obtain ⟨w1, w2⟩ := h.way hj hu s hs
    have p1 := plus_spec (t := s) hh (by omega)
    rintro (h1 | h1)
    · rw [w1] at h1; cases h1
    · exact w2 (h.uniq _ _ p1.1 hj w1 hu h1))
  rw [this, e]
/-- The first free cell from a place on. -/
theorem first_free (hn : 1 ≤ n) {a i : Nat} (ha : a < n) (hi : i < n) (hf : (cs i).used = false) : ∃ t, t < n ∧ (cs ((a + t) % n)).used = false ∧ ∀ s, s < t → (cs ((a + s) % n)).used = true := by
  have f1 := farOf_spec ha hi
  have e : (a + farOf n a i) % n = i := by
    rcases f1.2 with e | e
    · rw [e]; exact Nat.mod_eq_of_lt hi
    · rw [e, Nat.add_mod_right]; exact Nat.mod_eq_of_lt hi
  have key : ∀ m, (∀ s, s < m → (cs ((a + s) % n)).used = true) ∨ ∃ t, t < m ∧ (cs ((a + t) % n)).used = false ∧ ∀ s, s < t → (cs ((a + s) % n)).used = true := by
    intro m
    induction m with
    | zero => exact .inl fun s hs => by omega
    | succ m ih =>
      rcases ih with ih | ⟨t, h1, h2, h3⟩
      · cases hu : (cs ((a + m) % n)).used with
        | true =>
          left; intro s hs
          by_cases e : s = m
          · rw [e]; exact hu
          · exact ih s (by omega)
        | false => exact .inr ⟨m, by omega, hu, ih⟩
      · exact .inr ⟨t, by omega, h2, h3⟩
  rcases key (farOf n a i + 1) with h | ⟨t, h1, h2, h3⟩
  · have := h _ (Nat.lt_succ_self _)
    rw [e, hf] at this
    cases this
  · exact ⟨t, by omega, h2, h3⟩

/-- A key that is not there: the first free cell from its home on; none where all are used. -/
theorem TInv.find_new (h : TInv hm cs n) (k : Fl) (hk : ∀ j, j < n → (cs j).used = true → (cs j).k ≠ k) :
    (∃ t, t < n ∧ findIn cs n k n (hm k) = some ((hm k + t) % n) ∧ (cs ((hm k + t) % n)).used = false ∧ ∀ s, s < t → (cs ((hm k + s) % n)).used = true) ∨
    (findIn cs n k n (hm k) = none ∧ ∀ i, i < n → (cs i).used = true) := by
  by_cases hf : ∃ i, i < n ∧ (cs i).used = false
  · obtain ⟨i, hi, hf⟩ := hf
    obtain ⟨t, h1, h2, h3⟩ := first_free (cs := cs) h.lo (h.home k) hi hf
    refine .inl ⟨t, h1, find_at h.lo t n _ (h.home k) h1 h1 (.inl h2) (fun s hs => ?_), h2, h3⟩
    have p1 := plus_spec (t := s) (h.home k) (by omega)
    rintro (hx | hx)
    · rw [h3 s hs] at hx; cases hx
    · exact hk _ p1.1 (h3 s hs) hx
  · have hall : ∀ i, i < n → (cs i).used = true := fun i hi => by
      cases hu : (cs i).used with
      | true => rfl
      | false => exact absurd ⟨i, hi, hu⟩ hf
    refine .inr ⟨find_none h.lo n _ (h.home k) (fun i hi => ?_), hall⟩
    rintro (hx | hx)
    · rw [hall i hi] at hx; cases hx
    · exact hk i hi (hall i hi) hx
/-- A new value by a key that is there. -/
theorem TInv.put_there (h : TInv hm cs n) {j : Nat} (hj : j < n) (hu : (cs j).used = true) (v : Int) : TInv hm (upd cs j ⟨true, (cs j).k, v⟩) n := by
  have eu : ∀ i, (upd cs j ⟨true, (cs j).k, v⟩ i).used = (cs i).used := fun i => by
    by_cases e : i = j
    · subst e; rw [upd_same, hu]
    · rw [upd_other _ _ e]
  have ek : ∀ i, (upd cs j ⟨true, (cs j).k, v⟩ i).k = (cs i).k := fun i => by
    by_cases e : i = j
    · subst e; rw [upd_same]
    · rw [upd_other _ _ e]
  obtain ⟨P, hP, hle, hmid⟩ := h.lin
  refine ⟨h.lo, h.home, fun a b ha hb h1 h2 h3 => ?_, P, hP, fun a ha h1 => ?_, fun a b ha hb h1 h2 h3 => ?_⟩
  · rw [eu] at h1 h2; rw [ek, ek] at h3; exact h.uniq a b ha hb h1 h2 h3
  · rw [eu] at h1; rw [ek]; exact hle a ha h1
  · rw [eu] at h1 ⊢; rw [ek] at h2; exact hmid a b ha hb h1 h2 h3
/-- A key that was not there is put into the first free cell from its home on. -/
theorem TInv.put_new (h : TInv hm cs n) (k : Fl) (v : Int) (hk : ∀ j, j < n → (cs j).used = true → (cs j).k ≠ k) {t : Nat} (ht : t < n)
    (hf : (cs ((hm k + t) % n)).used = false) (hb : ∀ s, s < t → (cs ((hm k + s) % n)).used = true) : TInv hm (upd cs ((hm k + t) % n) ⟨true, k, v⟩) n := by
  have hh := h.home k
  have p1 := plus_spec (t := t) hh ht
  generalize hi : (hm k + t) % n = i at *
  obtain ⟨P, hP, hle, hmid⟩ := h.lin
  refine ⟨h.lo, h.home, fun a b ha hb' h1 h2 h3 => ?_, (i + 1) % n, ?_⟩
  · by_cases ea : a = i <;> by_cases eb : b = i
    · omega
    · subst ea; rw [upd_same] at h3; rw [upd_other _ _ eb] at h2 h3; exact absurd h3.symm (hk b hb' h2)
    · subst eb; rw [upd_same] at h3; rw [upd_other _ _ ea] at h1 h3; exact absurd h3 (hk a ha h1)
    · rw [upd_other _ _ ea] at h1 h3; rw [upd_other _ _ eb] at h2 h3; exact h.uniq a b ha hb' h1 h2 h3
  -- seen from the cell behind the new one
  have hni := next_spec p1.1
  -- no old way meets i
  have way : ∀ j, j < n → (cs j).used = true → farOf n ((i + 1) % n) (hm (cs j).k) ≤ farOf n ((i + 1) % n) j := by
    intro j hj hu
    have hhj := h.home (cs j).k
    have hw := h.way hj hu
    have f1 := farOf_spec hhj hj
    have f2 := farOf_spec hni.1 hhj
    have f3 := farOf_spec hni.1 hj
    have f4 := farOf_spec hhj p1.1
    by_cases hlt : farOf n (hm (cs j).k) i < farOf n (hm (cs j).k) j
    · have := (hw _ hlt).1
      have e : (hm (cs j).k + farOf n (hm (cs j).k) i) % n = i := by
        rcases f4.2 with e | e
        · rw [e]; exact Nat.mod_eq_of_lt p1.1
        · rw [e, Nat.add_mod_right]; exact Nat.mod_eq_of_lt p1.1
      rw [e, hf] at this
      cases this
    · have hne : i ≠ j := by rintro rfl; rw [hf] at hu; cases hu
      omega
  refine ⟨hni.1, fun j hj hu => ?_, fun j x hj hx hu h1 h2 => ?_⟩
  · by_cases e : j = i
    · subst e
      rw [upd_same]
      have f2 := farOf_spec hni.1 hh
      have f3 := farOf_spec hni.1 p1.1
      show farOf n ((j + 1) % n) (hm k) ≤ _
      omega
    · rw [upd_other _ _ e] at hu ⊢
      exact way j hj hu
  · by_cases ex : x = i
    · subst ex; rw [upd_same]
    · rw [upd_other _ _ ex]
      by_cases e : j = i
      · subst e
        rw [upd_same] at h1
        have h1 : farOf n ((j + 1) % n) (hm k) ≤ farOf n ((j + 1) % n) x := h1
        have f2 := farOf_spec hni.1 hh
        have f3 := farOf_spec hni.1 hj
        have f4 := farOf_spec hni.1 hx
        have f5 := farOf_spec hh hx
        have e : (hm k + farOf n (hm k) x) % n = x := by
          rcases f5.2 with e | e
          · rw [e]; exact Nat.mod_eq_of_lt hx
          · rw [e, Nat.add_mod_right]; exact Nat.mod_eq_of_lt hx
        rw [← e]
        exact hb _ (by omega)
      · rw [upd_other _ _ e] at hu h1
        have hhj := h.home (cs j).k
        have w1 := way j hj hu
        have f1 := farOf_spec hhj hj
        have f2 := farOf_spec hni.1 hhj
        have f3 := farOf_spec hni.1 hj
        have f4 := farOf_spec hni.1 hx
        have f5 := farOf_spec hhj hx
        have e : (hm (cs j).k + farOf n (hm (cs j).k) x) % n = x := by
          rcases f5.2 with e | e
          · rw [e]; exact Nat.mod_eq_of_lt hx
          · rw [e, Nat.add_mod_right]; exact Nat.mod_eq_of_lt hx
        have := (h.way hj hu (farOf n (hm (cs j).k) x) (by omega)).1
        rw [e] at this
        exact this

/-- While a gap is closed: the gap is at x, the place looked at last at a; a way may lead over the gap to places behind a alone. -/
structure Gap (hm : Fl → Nat) (cs : Nat → SC Fl) (n P x a : Nat) : Prop where
  hP : P < n
  hx : x < n
  ha : a < n
  xa : farOf n P x ≤ farOf n P a
  free : (cs x).used = false
  le : ∀ j, j < n → (cs j).used = true → farOf n P (hm (cs j).k) ≤ farOf n P j
  mid : ∀ j i, j < n → i < n → (cs j).used = true → farOf n P (hm (cs j).k) ≤ farOf n P i → farOf n P i < farOf n P j → (cs i).used = true ∨ (i = x ∧ farOf n P a < farOf n P j)

/-- Where all ways are whole nothing is moved. -/
theorem close_same (hh : ∀ k, hm k < n) {P : Nat} (hL : Lin hm cs n P) {x : Nat} (hx : x < n) (hf : (cs x).used = false) : ∀ (f a : Nat), a < n → closeIn hm n f cs x a = cs
  | 0, _, _ => rfl
  | f + 1, a, ha => by
    have hb := next_spec ha
    unfold closeIn
    simp only
    split
    · rfl
    · next hu =>
      have hu : (cs ((a + 1) % n)).used = true := by simpa using hu
      rw [if_neg, close_same hh hL hx hf f _ hb.1]
      have hhb := hh (cs ((a + 1) % n)).k
      have f1 := farOf_spec hx hb.1
      have f2 := farOf_spec hhb hb.1
      have f3 := farOf_spec hL.lt hhb
      have f4 := farOf_spec hL.lt hb.1
      have f5 := farOf_spec hL.lt hx
      have l1 := hL.le _ hb.1 hu
      intro hc
      have := hL.mid ((a + 1) % n) x hb.1 hx hu
      rw [hf] at this
      have hne : x ≠ (a + 1) % n := by rintro rfl; rw [hf] at hu; cases hu
      by_cases h1 : farOf n P x < farOf n P ((a + 1) % n)
      · by_cases h2 : farOf n P (hm (cs ((a + 1) % n)).k) ≤ farOf n P x
        · exact absurd (this h2 h1) (by simp)
        · omega
      · omega

/-- What lies in the cells, and that no key lies twice, and how many are used, hold on when one moves. -/
theorem Ent_move {x b : Nat} (hx : x < n) (hb : b < n) (hne : x ≠ b) (hf : (cs x).used = false) (hu : (cs b).used = true) (k : Fl) (v : Int) :
    Ent (upd (upd cs x (cs b)) b free) n k v ↔ Ent cs n k v := by
  constructor
  · rintro ⟨i, hi, h⟩
    by_cases e : i = b
    · subst e; rw [upd_same] at h; cases h
    · rw [upd_other _ _ e] at h
      by_cases e2 : i = x
      · subst e2; rw [upd_same] at h; exact ⟨b, hb, h⟩
      · rw [upd_other _ _ e2] at h; exact ⟨i, hi, h⟩
  · rintro ⟨i, hi, h⟩
    by_cases e : i = b
    · subst e; exact ⟨x, hx, by rw [upd_other _ _ hne, upd_same]; exact h⟩
    · have e2 : i ≠ x := by rintro rfl; rw [h] at hf; cases hf
      exact ⟨i, hi, by rw [upd_other _ _ e, upd_other _ _ e2]; exact h⟩
theorem uniq_move {x b : Nat} (hx : x < n) (hb : b < n) (hne : x ≠ b) (hf : (cs x).used = false) (hu : (cs b).used = true)
    (h : ∀ i j, i < n → j < n → (cs i).used = true → (cs j).used = true → (cs i).k = (cs j).k → i = j) :
    ∀ i j, i < n → j < n → (upd (upd cs x (cs b)) b free i).used = true → (upd (upd cs x (cs b)) b free j).used = true → (upd (upd cs x (cs b)) b free i).k = (upd (upd cs x (cs b)) b free j).k → i = j := by
  have key : ∀ i, i < n → (upd (upd cs x (cs b)) b free i).used = true → (i = x ∧ upd (upd cs x (cs b)) b free i = cs b) ∨ (i ≠ x ∧ i ≠ b ∧ upd (upd cs x (cs b)) b free i = cs i) := by
    intro i hi h
    by_cases e : i = b
    · subst e; rw [upd_same] at h; cases h
    · by_cases e2 : i = x
      · subst e2; left; rw [upd_other _ _ e, upd_same]; exact ⟨rfl, rfl⟩
      · right; rw [upd_other _ _ e, upd_other _ _ e2]; exact ⟨e2, e, rfl⟩
  intro i j hi hj h1 h2 h3
  rcases key i hi h1 with ⟨a1, a2⟩ | ⟨a0, a1, a2⟩ <;> rcases key j hj h2 with ⟨b1, b2⟩ | ⟨b0, b1, b2⟩
  · omega
  · rw [a2, b2] at h3; rw [b2] at h2; exact absurd (h b j hb hj hu h2 h3) (by omega)
  · rw [a2, b2] at h3; rw [a2] at h1; exact absurd (h i b hi hb h1 hu h3) (by omega)
  · rw [a2, b2] at h3; rw [a2] at h1; rw [b2] at h2; exact h i j hi hj h1 h2 h3
theorem cnt_move {x b : Nat} (hx : x < n) (hb : b < n) (hne : x ≠ b) (hf : (cs x).used = false) (hu : (cs b).used = true) : cnt (upd (upd cs x (cs b)) b free) n = cnt cs n := by
  have h1 := cnt_upd cs x (cs b) hx
  have h2 := cnt_upd (upd cs x (cs b)) b free hb
  rw [upd_other _ _ (fun e => hne e.symm)] at h2
  rw [hf, hu] at h1
  rw [hu] at h2
  have hfu : (free : SC Fl).used = false := rfl
  rw [hfu] at h2
  simp at h1 h2
  omega

theorem close_law (hh : ∀ k, hm k < n) {P : Nat} : ∀ (f : Nat) (cs : Nat → SC Fl) (x a : Nat), Gap hm cs n P x a → n - 1 ≤ farOf n P a + f →
    (∀ i j, i < n → j < n → (cs i).used = true → (cs j).used = true → (cs i).k = (cs j).k → i = j) →
    Lin hm (closeIn hm n f cs x a) n P ∧ (∀ k v, Ent (closeIn hm n f cs x a) n k v ↔ Ent cs n k v) ∧ cnt (closeIn hm n f cs x a) n = cnt cs n ∧
    (∀ i j, i < n → j < n → (closeIn hm n f cs x a i).used = true → (closeIn hm n f cs x a j).used = true → (closeIn hm n f cs x a i).k = (closeIn hm n f cs x a j).k → i = j) := by
  intro f
  induction f with
  | zero =>
    intro cs x a g hfu hq
    refine ⟨⟨g.hP, g.le, fun j i hj hi hu h1 h2 => (g.mid j i hj hi hu h1 h2).elim id fun hx => ?_⟩, fun _ _ => Iff.rfl, rfl, hq⟩
    have := (farOf_spec g.hP hj).1
    omega
  | succ f ih =>
    intro cs x a g hfu hq
    have fa := farOf_spec g.hP g.ha
    have fx := farOf_spec g.hP g.hx
    have hb := next_spec g.ha
    by_cases hend : farOf n P a = n - 1
    · have hL : Lin hm cs n P := ⟨g.hP, g.le, fun j i hj hi hu h1 h2 => (g.mid j i hj hi hu h1 h2).elim id fun hx => by
        have := (farOf_spec g.hP hj).1
        omega⟩
      rw [close_same hh hL g.hx g.free (f + 1) a g.ha]
      exact ⟨hL, fun _ _ => Iff.rfl, rfl, hq⟩
    · have fb := farOf_spec g.hP hb.1
      have hab : farOf n P ((a + 1) % n) = farOf n P a + 1 := by have := g.ha; omega
      have hne : x ≠ (a + 1) % n := by rintro rfl; have := g.xa; omega
      have fxb := farOf_spec g.hx hb.1
      unfold closeIn
      simp only
      split
      · next hu =>
        refine ⟨⟨g.hP, g.le, fun j i hj hi huj h1 h2 => (g.mid j i hj hi huj h1 h2).elim id fun hx => ?_⟩, fun _ _ => Iff.rfl, rfl, hq⟩
        have fj := farOf_spec g.hP hj
        have hjb : j ≠ (a + 1) % n := by rintro rfl; rw [hu] at huj; cases huj
        have hxa := g.xa
        rw [hx.1] at h1
        rcases g.mid j ((a + 1) % n) hj hb.1 huj (by omega) (by omega) with h | h
        · rw [hu] at h; cases h
        · exact absurd h.1.symm hne
      · next hu =>
        have hu : (cs ((a + 1) % n)).used = true := by simpa using hu
        have hhb := hh (cs ((a + 1) % n)).k
        have fh := farOf_spec g.hP hhb
        have fhb := farOf_spec hhb hb.1
        have lb := g.le _ hb.1 hu
        have hxa := g.xa
        generalize hbb : (a + 1) % n = b at *
        split
        · next hc =>
          have hover : farOf n P (hm (cs b).k) ≤ farOf n P x := by omega
          have e := ih (upd (upd cs x (cs b)) b free) b b ?_ (by omega) (uniq_move g.hx hb.1 hne g.free hu hq)
          · refine ⟨e.1, fun k v => (e.2.1 k v).trans (Ent_move g.hx hb.1 hne g.free hu k v), e.2.2.1.trans (cnt_move g.hx hb.1 hne g.free hu), e.2.2.2⟩
          · refine ⟨g.hP, hb.1, hb.1, Nat.le_refl _, by rw [upd_same]; rfl, fun j hj hju => ?_, fun j i hj hi hju h1 h2 => ?_⟩
            · by_cases e1 : j = b
              · subst e1; rw [upd_same] at hju; cases hju
              · rw [upd_other _ _ e1] at hju ⊢
                by_cases e2 : j = x
                · subst e2; rw [upd_same]; exact hover
                · rw [upd_other _ _ e2] at hju ⊢; exact g.le j hj hju
            · by_cases e1 : j = b
              · subst e1; rw [upd_same] at hju; cases hju
              · rw [upd_other _ _ e1] at hju h1
                have fj := farOf_spec g.hP hj
                have fi := farOf_spec g.hP hi
                by_cases e2 : j = x
                · subst e2
                  rw [upd_same] at h1
                  -- a place of the moved one's way, ahead of the gap
                  have hib : i ≠ b := by rintro rfl; omega
                  have hix : i ≠ j := by rintro rfl; omega
                  left
                  rw [upd_other _ _ hib, upd_other _ _ hix]
                  rcases g.mid b i hb.1 hi hu h1 (by omega) with h | h
                  · exact h
                  · exact absurd h.1 hix
                · rw [upd_other _ _ e2] at hju h1
                  by_cases e3 : i = b
                  · subst e3; exact .inr ⟨rfl, h2⟩
                  · left
                    rw [upd_other _ _ e3]
                    by_cases e4 : i = x
                    · subst e4; rw [upd_same]; exact hu
                    · rw [upd_other _ _ e4]
                      rcases g.mid j i hj hi hju h1 h2 with h | h
                      · exact h
                      · exact absurd h.1 e4
        · next hc =>
          refine ih cs x b ⟨g.hP, g.hx, hb.1, by omega, g.free, g.le, fun j i hj hi hju h1 h2 => ?_⟩ (by omega) hq
          rcases g.mid j i hj hi hju h1 h2 with h | h
          · exact .inl h
          · right
            have fj := farOf_spec g.hP hj
            refine ⟨h.1, ?_⟩
            have : j ≠ b := by
              rintro rfl
              rw [h.1] at h1
              omega
            omega
end

/-! What is got, put, taken out. 'hm': the home of each key. -/
def getV (hm : Fl → Nat) (cs : Nat → SC Fl) (n : Nat) (k : Fl) : Option Int :=
  match findIn cs n k n (hm k) with
  | none => none
  | some i => if (cs i).used then some (cs i).v else none
def putC (hm : Fl → Nat) (cs : Nat → SC Fl) (n : Nat) (k : Fl) (v : Int) : Nat → SC Fl :=
  match findIn cs n k n (hm k) with
  | none => cs
  | some i => upd cs i ⟨true, k, v⟩
def putM (hm : Fl → Nat) (cs : Nat → SC Fl) (n : Nat) (k : Fl) (m : Int) : Int :=
  match findIn cs n k n (hm k) with
  | none => m
  | some i => if (cs i).used then m else m + 1
def hasRoom (hm : Fl → Nat) (cs : Nat → SC Fl) (n : Nat) (k : Fl) : Bool := (findIn cs n k n (hm k)).isSome
def delC (hm : Fl → Nat) (cs : Nat → SC Fl) (n : Nat) (k : Fl) : Nat → SC Fl :=
  match findIn cs n k n (hm k) with
  | none => cs
  | some i => if (cs i).used then closeIn hm n n (upd cs i free) i i else cs
section
variable {hm : Fl → Nat} {cs : Nat → SC Fl} {n : Nat} {k : Fl}
theorem put_none (h : findIn cs n k n (hm k) = none) (v m : Int) : hasRoom hm cs n k = false ∧ putC hm cs n k v = cs ∧ putM hm cs n k m = m := by
  unfold hasRoom putC putM; rw [h]; exact ⟨rfl, rfl, rfl⟩
theorem put_some {i : Nat} (h : findIn cs n k n (hm k) = some i) (v m : Int) :
    hasRoom hm cs n k = true ∧ putC hm cs n k v = upd cs i ⟨true, k, v⟩ ∧ putM hm cs n k m = (if (cs i).used then m else m + 1) := by
  unfold hasRoom putC putM; rw [h]; exact ⟨rfl, rfl, rfl⟩
theorem getV_none (h : findIn cs n k n (hm k) = none) : getV hm cs n k = none ∧ delC hm cs n k = cs := by
  unfold getV delC; rw [h]; exact ⟨rfl, rfl⟩
theorem getV_some {i : Nat} (h : findIn cs n k n (hm k) = some i) :
    getV hm cs n k = (if (cs i).used then some (cs i).v else none) ∧ delC hm cs n k = (if (cs i).used then closeIn hm n n (upd cs i free) i i else cs) := by
  unfold getV delC; rw [h]; exact ⟨rfl, rfl⟩
end
/-- The cells against a function from keys. -/
structure TF (hm : Fl → Nat) (cs : Nat → SC Fl) (n : Nat) (M : Fl → Option Int) (m : Nat) : Prop where
  inv : TInv hm cs n
  ent : ∀ k v, Ent cs n k v ↔ M k = some v
  cnt : cnt cs n = m
def noK (M : Fl → Option Int) (k : Fl) : Fl → Option Int := fun x => if x = k then none else M x
def inK (M : Fl → Option Int) (k : Fl) (v : Int) : Fl → Option Int := fun x => if x = k then some v else M x
section
variable {hm : Fl → Nat} {cs : Nat → SC Fl} {n m : Nat} {M : Fl → Option Int}
theorem TF.empty (h1 : 1 ≤ n) (hh : ∀ k, hm k < n) : TF hm (fun _ => free) n (fun _ => none) 0 := by
  refine ⟨⟨h1, hh, fun i j _ _ h => (by cases h), 0, by omega, fun j _ h => (by cases h), fun j i _ _ h => (by cases h)⟩, fun k v => ?_, ?_⟩
  · constructor
    · rintro ⟨i, _, h⟩; cases h
    · intro h; cases h
  · have : ∀ m, Fs.cnt (fun _ => (free : SC Fl)) m = 0 := by
      intro m
      induction m with
      | zero => rfl
      | succ m ih => unfold Fs.cnt; rw [ih]; rfl
    exact this n
theorem TF.not_there (h : TF hm cs n M m) {k : Fl} (hk : M k = none) : ∀ j, j < n → (cs j).used = true → (cs j).k ≠ k := by
  intro j hj hu e
  have := (h.ent (cs j).k (cs j).v).1 ⟨j, hj, SC.eta_used hu⟩
  rw [e, hk] at this
  cases this
theorem TF.there (h : TF hm cs n M m) {k : Fl} {v : Int} (hk : M k = some v) : ∃ j, j < n ∧ cs j = ⟨true, k, v⟩ ∧ findIn cs n k n (hm k) = some j := by
  obtain ⟨j, hj, hc⟩ := (h.ent k v).2 hk
  have := h.inv.find_there hj (by rw [hc])
  rw [hc] at this
  exact ⟨j, hj, hc, this⟩
theorem TF.get (h : TF hm cs n M m) (k : Fl) : getV hm cs n k = M k := by
  cases hf : M k with
  | some v =>
    obtain ⟨j, hj, hc, hfi⟩ := h.there hf
    rw [(getV_some hfi).1, hc]
    simp
  | none =>
    have hn := h.not_there hf
    rcases h.inv.find_new k hn with ⟨t, _, hfi, hu, _⟩ | ⟨hfi, _⟩
    · rw [(getV_some hfi).1, hu]; rfl
    · rw [(getV_none hfi).1]
theorem TF.put (h : TF hm cs n M m) {k : Fl} (v : Int) (hk : M k = none) (hm' : m < n) :
    hasRoom hm cs n k = true ∧ TF hm (putC hm cs n k v) n (inK M k v) (m + 1) ∧ putM hm cs n k m = ((m + 1 : Nat) : Int) := by
  have hn := h.not_there hk
  rcases h.inv.find_new k hn with ⟨t, ht, hfi, hu, hb⟩ | ⟨hfi, hall⟩
  · obtain ⟨e1, e2, e3⟩ := put_some hfi v m
    rw [e1, e2, e3, hu]
    have hi := (plus_spec (h.inv.home k) ht).1
    refine ⟨rfl, ⟨h.inv.put_new k v hn ht hu hb, fun k' v' => ?_, ?_⟩, by simp⟩
    · unfold inK
      constructor
      · rintro ⟨j, hj, hx⟩
        by_cases e : j = (hm k + t) % n
        · subst e; rw [upd_same] at hx; cases hx; simp
        · rw [upd_other _ _ e] at hx
          have h9 := (h.ent k' v').1 ⟨j, hj, hx⟩
          rw [if_neg (fun e => by rw [e, hk] at h9; cases h9)]
          exact h9
      · intro hx
        split at hx
        · next e => cases hx; subst e; exact ⟨_, hi, by rw [upd_same]⟩
        · obtain ⟨m, hm, hx⟩ := (h.ent k' v').2 hx
          refine ⟨m, hm, ?_⟩
          rw [upd_other]
          · exact hx
          · rintro rfl; rw [hx] at hu; cases hu
    · have := cnt_upd cs _ ⟨true, k, v⟩ hi
      rw [hu] at this
      simp at this
      have h2 := h.cnt
      omega
  · have := cnt_full hall
    have h2 := h.cnt
    omega
theorem TF.del (h : TF hm cs n M m) {k : Fl} {v : Int} (hk : M k = some v) :
    getV hm cs n k = some v ∧ TF hm (delC hm cs n k) n (noK M k) (m - 1) ∧ 1 ≤ m := by
  obtain ⟨j, hj, hc, hfi⟩ := h.there hk
  obtain ⟨e1, e2⟩ := getV_some hfi
  have hu : (cs j).used = true := by rw [hc]
  have hkj : (cs j).k = k := by rw [hc]
  rw [e1, e2, hu, hc]
  obtain ⟨P, hP, hle, hmid⟩ := h.inv.lin
  have uo : ∀ m, (upd cs j free m).used = true → m ≠ j ∧ upd cs j free m = cs m := fun m hm => by
    by_cases e : m = j
    · subst e; rw [upd_same] at hm; cases hm
    · exact ⟨e, upd_other _ _ e⟩
  have hg : Gap hm (upd cs j free) n P j j := by
    refine ⟨hP, hj, hj, Nat.le_refl _, by rw [upd_same]; rfl, fun a ha hau => ?_, fun a b ha hb hau h1 h2 => ?_⟩
    · obtain ⟨_, e⟩ := uo a hau; rw [e] at hau ⊢; exact hle a ha hau
    · obtain ⟨_, e⟩ := uo a hau
      rw [e] at hau h1
      by_cases eb : b = j
      · subst eb; exact .inr ⟨rfl, h2⟩
      · left; rw [upd_other _ _ eb]; exact hmid a b ha hb hau h1 h2
  obtain ⟨a1, a2, a3, a4⟩ := close_law h.inv.home n _ j j hg (by omega) (fun a b ha hb hau hbu e => by
    obtain ⟨_, ea⟩ := uo a hau
    obtain ⟨_, eb⟩ := uo b hbu
    rw [ea] at hau e; rw [eb] at hbu e
    exact h.inv.uniq a b ha hb hau hbu e)
  have hcn := cnt_upd cs j free hj
  rw [hu] at hcn
  have hfu : (free : SC Fl).used = false := rfl
  rw [hfu] at hcn
  simp at hcn
  have h2 := h.cnt
  refine ⟨by simp, ⟨⟨h.inv.lo, h.inv.home, a4, P, a1⟩, fun k' v' => (a2 k' v').trans ?_, ?_⟩, by omega⟩
  · unfold noK
    constructor
    · rintro ⟨m, hm, hx⟩
      obtain ⟨ej, e3⟩ := uo m (by rw [hx])
      rw [e3] at hx
      have h9 := (h.ent k' v').1 ⟨m, hm, hx⟩
      rw [if_neg (fun e => ?_)]
      · exact h9
      · exact ej (h.inv.uniq m j hm hj (by rw [hx]) hu (by rw [hx, hkj, ← e]))
    · intro hx
      split at hx
      · cases hx
      · next hne =>
        obtain ⟨m, hm, hc'⟩ := (h.ent k' v').2 hx
        refine ⟨m, hm, ?_⟩
        rw [upd_other]
        · exact hc'
        · rintro rfl
          rw [hc] at hc'
          cases hc'
          exact hne rfl
  · show Fs.cnt (closeIn hm n n (upd cs j free) j j) n = _
    rw [a3]
    omega
end

end Go.Proofs.YtldgdpekhjignaaGreat.Fs
namespace Go.Proofs.YtldgdpekhjignaaGreat.Fs
open Go.RowKit

/-- A record loaded out of a row, in a region; one stored into it. -/
theorem step_load_row {P : Program} {ops : Array Oper} {op : Oper} {a : Act} {w : World} {K : Act → World → Prop} {Q : Exit → Act → World → Prop} {E : Prop} (hgd : op.guard = none) (ty : TypeId) (x : Operand) (ho : op.op = .load ty x) (b off : Nat) (hx : a.eval x = .pointer (some ⟨b, off, none⟩)) (cs : Array Value) (d : TypeDesc)
    (hS : w.rangeAt b off cs.toList) (hu : P.underlying ty = some d) (hd : d.isRow = true) (hi : (P.info? ty).map (·.size) = some cs.size) (h : K (a.put op.dst (.agg cs)) w) : if Region.wanted op (yielded ops a.tmps) = true then Oper.wp P op a w K Q else E := by
  rw [if_pos (by simp [Region.wanted, hgd])]
  exact wp_load_mid ty x ho b off hx cs.toList d hS hu hd (by simpa using hi) (by simpa using h)
theorem step_store_row {P : Program} {ops : Array Oper} {op : Oper} {a : Act} {w : World} {K : Act → World → Prop} {Q : Exit → Act → World → Prop} {E : Prop} {α : Type} {enc : α → List Value} {s g c : Nat} {e : TypeId} {l : List α} (he : ∀ x, (enc x).length = s) (hgd : op.guard = none) (ty : TypeId) (x y : Operand) (ho : op.op = .store ty x y)
    (hb : RowB enc s w g e c l) {i : Nat} (hi : i < l.length) (hsz : l.length * s ≤ c) (u : α) (hx : a.eval x = .pointer (some ⟨g, i * s, none⟩)) (hy : a.eval y = .agg (enc u).toArray) (hin : (P.info? ty).map (·.size) = some s) (h1 : ∀ v ∈ enc u, v.oneCell' = true)
    (h : ∀ w', RowB enc s w' g e c (l.set i u) → Chg [g] w w' → K (a.put op.dst undef) w') : if Region.wanted op (yielded ops a.tmps) = true then Oper.wp P op a w K Q else E := by
  rw [if_pos (by simp [Region.wanted, hgd])]
  have hp := hb.put he u hi hsz
  obtain ⟨cs, hk, hc, ht⟩ := hb
  have his : i * s + s ≤ c := by
    have := Nat.mul_le_mul_right s (show i + 1 ≤ l.length from hi)
    rw [Nat.add_mul, Nat.one_mul] at this
    omega
  refine wp_store_mid ty x y ho g (i * s) (enc u).toArray hx hy (fun j hj => ?_) (by simpa [he] using hin) (by simpa using h1) ?_
  · rw [hk.cell, hk.frozen]
    have hj' : j < s := by simpa [he] using hj
    exact ⟨by rw [Array.getElem?_eq_getElem (show i * s + j < cs.size by omega)]; rfl, rfl⟩
  · exact h _ hp (Chg.setCells _ _)

/-- .. outside a region's orders. -/
theorem wpList_store_row {P : Program} {ops : Array Oper} {rest : List Oper} {op : Oper} {a : Act} {w : World} {Q : Exit → Act → World → Prop} {α : Type} {enc : α → List Value} {s g c : Nat} {e : TypeId} {l : List α} (he : ∀ x, (enc x).length = s) (hgd : op.guard = none) (ty : TypeId) (x y : Operand) (ho : op.op = .store ty x y)
    (hb : RowB enc s w g e c l) {i : Nat} (hi : i < l.length) (hsz : l.length * s ≤ c) (u : α) (hx : a.eval x = .pointer (some ⟨g, i * s, none⟩)) (hy : a.eval y = .agg (enc u).toArray) (hin : (P.info? ty).map (·.size) = some s) (h1 : ∀ v ∈ enc u, v.oneCell' = true)
    (h : ∀ w', RowB enc s w' g e c (l.set i u) → Chg [g] w w' → wpList P ops Q rest (a.put op.dst undef) w') : wpList P ops Q (op :: rest) a w := by
  have hp := hb.put he u hi hsz
  obtain ⟨cs, hk, hc, ht⟩ := hb
  have his : i * s + s ≤ c := by
    have := Nat.mul_le_mul_right s (show i + 1 ≤ l.length from hi)
    rw [Nat.add_mul, Nat.one_mul] at this
    omega
  refine wpList_store_mid hgd ty x y ho g (i * s) (enc u).toArray hx hy (fun j hj => ?_) (by simpa [he] using hin) (by simpa using h1) ?_
  · rw [hk.cell, hk.frozen]
    have hj' : j < s := by simpa [he] using hj
    exact ⟨by rw [Array.getElem?_eq_getElem (show i * s + j < cs.size by omega)]; rfl, rfl⟩
  · exact h _ hp (Chg.setCells _ _)

/-- A new row of zero records. -/
theorem made_take {α : Type} {enc : α → List Value} {s : Nat} (he : ∀ x, (enc x).length = s) (hs : 0 < s) (x : α) (n : Nat) :
    (madeCells (enc x).toArray (n * s)).size = n * s ∧ (madeCells (enc x).toArray (n * s)).toList.take ((List.replicate n x).length * s) = (List.replicate n x).flatMap enc := by
  have hsz : (madeCells (enc x).toArray (n * s)).size = n * s := by simp [madeCells]
  refine ⟨hsz, ?_⟩
  rw [List.length_replicate, List.take_of_length_le (by simp [hsz])]
  apply List.ext_getElem?
  intro q
  rw [Array.getElem?_toList]
  by_cases hq : q < n * s
  · rw [madeCells_at _ _ _ hq]
    have h1 : q / s < n := by rw [Nat.div_lt_iff_lt_mul hs]; exact hq
    have h2 : q % s < s := Nat.mod_lt _ hs
    have h3 := flat_at he (List.replicate n x) (q / s) (q % s) h2
    rw [show q / s * s + q % s = q by rw [Nat.mul_comm]; exact Nat.div_add_mod q s] at h3
    rw [h3, List.getElem?_replicate, if_pos h1]
    have h4 : q % s < (enc x).length := by rw [he]; exact h2
    rw [Option.bind_some, List.getElem?_eq_getElem h4]
    simp [he, List.getElem?_eq_getElem h4]
  · rw [Array.getElem?_eq_none (by rw [hsz]; omega), List.getElem?_eq_none]
    rw [flat_len he, List.length_replicate]
    omega
theorem RowB.made {α : Type} {enc : α → List Value} {s : Nat} (he : ∀ x, (enc x).length = s) (hs : 0 < s) (x : α) (n : Nat) {w : World} {g : Nat} {t : TypeId} (h : Blk w g t (madeCells (enc x).toArray (n * s))) : RowB enc s w g t (n * s) (List.replicate n x) :=
  ⟨_, h, (made_take he hs x n).1, (made_take he hs x n).2⟩
end Go.Proofs.YtldgdpekhjignaaGreat.Fs
namespace Go.Proofs.YtldgdpekhjignaaGreat.Fs
open Go.RowKit

/-- The home of a key. -/
def hm (ka kb : Int) (n : Nat) (f : Fl) : Nat := (hashF ka kb f).toNat % n
theorem hm_lt (ka kb : Int) {n : Nat} (h : 1 ≤ n) (f : Fl) : hm ka kb n f < n := Nat.mod_lt _ h
@[reducible] def hv (kc : Nat) : Value := .func (.func 22) #[] #[.pointer (some ⟨kc, 0, none⟩)]
@[reducible] def arrS (x : SC Fl) : Array Value := #[.bool x.used, .int .u8 x.k.src.a0, .int .u8 x.k.src.a1, .int .u8 x.k.src.a2, .int .u8 x.k.src.a3, .int .u8 x.k.src.a4, .int .u8 x.k.src.a5, .int .u8 x.k.src.a6, .int .u8 x.k.src.a7, .int .u8 x.k.src.a8, .int .u8 x.k.src.a9, .int .u8 x.k.src.a10, .int .u8 x.k.src.a11, .int .u8 x.k.src.a12, .int .u8 x.k.src.a13, .int .u8 x.k.src.a14, .int .u8 x.k.src.a15, .int .i64 x.k.sport, .int .u8 x.k.dst.a0, .int .u8 x.k.dst.a1, .int .u8 x.k.dst.a2, .int .u8 x.k.dst.a3, .int .u8 x.k.dst.a4, .int .u8 x.k.dst.a5, .int .u8 x.k.dst.a6, .int .u8 x.k.dst.a7, .int .u8 x.k.dst.a8, .int .u8 x.k.dst.a9, .int .u8 x.k.dst.a10, .int .u8 x.k.dst.a11, .int .u8 x.k.dst.a12, .int .u8 x.k.dst.a13, .int .u8 x.k.dst.a14, .int .u8 x.k.dst.a15, .int .i64 x.k.dport, .int .i64 x.v]
def encS (x : SC Fl) : List Value := .bool x.used :: (encF x.k ++ [.int .i64 x.v])
theorem encS_len (x : SC Fl) : (encS x).length = 36 := rfl
theorem encS_arr (x : SC Fl) : (encS x).toArray = arrS x := rfl
theorem encS_one (x : SC Fl) : ∀ v ∈ encS x, v.oneCell' = true := by
  intro v hv
  simp only [encS, List.mem_cons, List.mem_append, List.not_mem_nil, or_false] at hv
  rcases hv with rfl | h | rfl
  · rfl
  · exact encF_one _ _ h
  · rfl
theorem infS : (Tryz.prog.info? 126).map (·.size) = some 36 := by kernel_rfl

/-- A table in memory. -/
structure Tab (w : World) (b c kc n : Nat) (ka kb : Int) (cs : Nat → SC Fl) (m : Int) : Prop where
  lo : 1 ≤ n
  hi : n ≤ 256
  blk : Blk w b 94 #[hv kc, .slice (some ⟨c, 0, none⟩) n n, .int .i64 m]
  key : Blk w kc 24 #[.int .u64 ka, .int .u64 kb]
  row : RowB encS 36 w c 126 (n * 36) ((List.range n).map cs)
  ok : ∀ i, i < n → okF (cs i).k
section
variable {w w' : World} {b c kc n : Nat} {ka kb : Int} {cs : Nat → SC Fl} {m : Int} {S : List Nat}
theorem Tab.c0 (h : Tab w b c kc n ka kb cs m) : w.cell? ⟨b, 0, none⟩ = some (hv kc) := (h.blk.cell 0).trans rfl
theorem Tab.c1 (h : Tab w b c kc n ka kb cs m) : w.cell? ⟨b, 1, none⟩ = some (.slice (some ⟨c, 0, none⟩) n n) := (h.blk.cell 1).trans rfl
theorem Tab.c2 (h : Tab w b c kc n ka kb cs m) : w.cell? ⟨b, 2, none⟩ = some (.int .i64 m) := (h.blk.cell 2).trans rfl
theorem Tab.f (h : Tab w b c kc n ka kb cs m) (i : Nat) : w.frozen? ⟨b, i, none⟩ = false := h.blk.frozen i
theorem at_range {i : Nat} (hi : i < n) : ((List.range n).map cs)[i]? = some (cs i) := by simp [hi]
theorem Tab.range (h : Tab w b c kc n ka kb cs m) {i : Nat} (hi : i < n) : w.rangeAt c (i * 36) (arrS (cs i)).toList := fun j u hu => (h.row.at_ encS_len (at_range hi) hu).1
theorem Tab.cellsA (h : Tab w b c kc n ka kb cs m) {i j : Nat} (hi : i < n) {u : Value} (hu : (encS (cs i))[j]? = some u) : w.cell? ⟨c, i * 36 + j, none⟩ = some u := (h.row.at_ encS_len (at_range hi) hu).1
theorem Tab.chg (h : Tab w b c kc n ka kb cs m) (hc : Chg S w w') (hb : b ∉ S) (hc' : c ∉ S) (hk : kc ∉ S) : Tab w' b c kc n ka kb cs m :=
  ⟨h.lo, h.hi, h.blk.chg hc hb, h.key.chg hc hk, h.row.chg hc hc', h.ok⟩
theorem Tab.chg0 (h : Tab w b c kc n ka kb cs m) (hc : Chg [] w w') : Tab w' b c kc n ka kb cs m := h.chg hc (by simp) (by simp) (by simp)
theorem Tab.lt (h : Tab w b c kc n ka kb cs m) : b < w.heap.size ∧ c < w.heap.size ∧ kc < w.heap.size := ⟨h.blk.lt, h.row.lt, h.key.lt⟩
theorem upd_range (cs : Nat → SC Fl) {i n : Nat} (hi : i < n) (u : SC Fl) : ((List.range n).map cs).set i u = (List.range n).map (upd cs i u) := by
  apply List.ext_getElem?
  intro j
  rw [List.getElem?_set]
  by_cases e : i = j
  · subst e
    simp [hi, upd]
  · have e' : j ≠ i := fun h => e h.symm
    simp only [List.getElem?_map, List.getElem?_range, e, if_false]
    by_cases hj : j < n
    · simp [hj, upd, e']
    · simp [hj]
end

set_option maxHeartbeats 400000 in
theorem is_any (b kc : Nat) (w : World) (h0 : w.cell? ⟨b, 0, none⟩ = some (hv kc)) :
    Calls Tryz.prog 73 #[.pointer (some ⟨b,0,none⟩)] w fun e w' => e = .returned (.bool true) ∧ w = w' := by
  have hnf := run_neq_func_nil (P := Tryz.prog) Tryz.underlying72
  go_enter Tryz.func73, Tryz.ntmps73
  go_wp2
  go_ret
  exact ⟨rfl, rfl⟩
set_option maxHeartbeats 400000 in
theorem hash_any {f : Fl} (hf : okF f) {ka kb : Int} {kc : Nat} {w : World} (hK : Blk w kc 24 #[.int .u64 ka, .int .u64 kb]) :
    Calls Tryz.prog 22 #[f.v, .pointer (some ⟨kc, 0, none⟩)] w fun e w' => e = .returned (.int .u64 (hashF ka kb f)) ∧ Chg [] w w' := by
  have hA := (Chg.refl [] w).alloc (.cells (arrF f) 38)
  have hB : Blk (w.alloc (.cells (arrF f) 38)) w.heap.size 38 (arrF f) := Blk.new _ _ _
  have hK1 := hK.chg hA (by simp)
  have HA := Lib.hid hA
  have F1 := Lib.hid (kflow_any hf ka kb (w.alloc (.cells (arrF f) 38)))
  clear hK hA
  go_enter Tryz.func22, Tryz.ntmps22
  go_wp2_with (first
    | (refine wpList_load_blk rfl 24 (.tmp 1) rfl hK1 rfl _ Tryz.underlying24 rfl infKey ?_)
    | (refine wpList_load_blk rfl 38 (.tmp 2) rfl hB rfl _ Tryz.underlying38 rfl infF ?_)
    | fail)
  refine F1.out.mono ?_
  rintro e w1 ⟨rfl, hc1⟩
  have HC := Lib.hid (HA.out.trans hc1)
  clear hc1 F1 hK1 hB
  go_wp2_with fail
  go_ret
  exact ⟨rfl, HC.out⟩
set_option maxRecDepth 100000 in
set_option maxHeartbeats 1000000 in
theorem home_any {b c kc n : Nat} {ka kb : Int} {cs : Nat → SC Fl} {m : Int} {f : Fl} (hf : okF f) {w : World} (h : Tab w b c kc n ka kb cs m) :
    Calls Tryz.prog 94 #[.pointer (some ⟨b, 0, none⟩), f.v] w fun e w' => e = .returned (.int .i64 (hm ka kb n f)) ∧ Chg [] w w' := by
  have hA := (Chg.refl [] w).alloc (.cells (arrF f) 38)
  have hB : Blk (w.alloc (.cells (arrF f) 38)) w.heap.size 38 (arrF f) := Blk.new _ _ _
  have hT := h.chg0 hA
  have h0 := hT.c0
  have HI := Lib.hid (And.intro hA (And.intro hB hT))
  have HF := Lib.hid hf
  have hn := h.lo
  have hn' := h.hi
  have hh := hashF_nat ka kb f
  have hm0 : 0 ≤ (hashF ka kb f) % (n : Int) := Int.emod_nonneg _ (by omega)
  have hm1 : (hashF ka kb f) % (n : Int) < n := Int.emod_lt_of_pos _ (by omega)
  have HM : Hid ((hashF ka kb f) % (n : Int) = (hm ka kb n f : Nat)) := Lib.hid (by
    unfold hm
    generalize hashF ka kb f = x at *
    rw [Int.natCast_emod, Int.toNat_of_nonneg hh])
  have hwn : IntKind.u64.wrap (n : Int) = (n : Int) := by rw [IntKind.wrap_u64]; omega
  have hn0 : ¬ n = 0 := by omega
  have hwq : IntKind.i64.wrap ((hm ka kb n f : Nat) : Int) = ((hm ka kb n f : Nat) : Int) := by have := hm_lt ka kb hn f; rw [IntKind.wrap_i64]; omega
  have htm : (hashF ka kb f).tmod (n : Int) = (hm ka kb n f : Nat) := by rw [Int.tmod_eq_emod_of_nonneg hh]; exact HM.out
  generalize hm ka kb n f = q at *
  have HX0 : Hid (∃ x, hashF ka kb f = x) := Lib.hid ⟨_, rfl⟩
  generalize hx : hashF ka kb f = x at *
  have HX := Lib.hid hx
  clear hA hB hT h hf hx HX0
  go_enter Tryz.func94, Tryz.ntmps94
  go_wp2_with fail
  refine (is_any b kc _ h0).mono ?_
  rintro e w' ⟨rfl, rfl⟩
  obtain ⟨hA, hB, hT⟩ := HI.out
  generalize hw1 : (w.alloc (.cells (arrF f) 38)) = w1 at *
  clear hw1
  generalize hgg : w.heap.size = g at *
  have H1 := Lib.hid (fun W (hc : Chg [] w1 W) => (hT.chg0 hc).c0)
  have H2 := Lib.hid (fun W (hc : Chg [] w1 W) => (hB.chg hc (by simp)).rangeQ)
  have H3 := Lib.hid (fun W (hc : Chg [] w1 W) => (hT.chg0 hc).c1)
  have F := Lib.hid (fun W (hc : Chg [] w1 W) => (hash_any HF.out (hT.chg0 hc).key).mono fun e w' h => And.intro h.1 (hc.trans h.2))
  rw [HX.out] at F
  have HA := Lib.hid hA
  clear hA hB hT h0 HI hgg
  go_upto_region 3 with fail
  refine wp_region_chg (by kernel_rfl) (by kernel_rfl) ?_
  (with_reducible refine wpQuiet_pure (v := ?_) ?_ (fun w => ?_) ?_); rotate_left; (focus rfl); (focus (go_simp <;> with_reducible rfl)); (try simp only [List.getElem_toArray, List.getElem_cons_succ, List.getElem_cons_zero, Act.put, List.setIfInBounds_toArray, List.set_cons_zero, List.set_cons_succ])
  (with_reducible refine wpQuiet_pure (v := ?_) ?_ (fun w => ?_) ?_); rotate_left; (focus rfl); (focus (go_simp <;> with_reducible rfl)); (try simp only [List.getElem_toArray, List.getElem_cons_succ, List.getElem_cons_zero, Act.put, List.setIfInBounds_toArray, List.set_cons_zero, List.set_cons_succ])
  (with_reducible refine wpQuiet_pure (v := ?_) ?_ (fun w => ?_) ?_); rotate_left; (focus rfl); (focus (go_simp <;> with_reducible rfl)); (try simp only [List.getElem_toArray, List.getElem_cons_succ, List.getElem_cons_zero, Act.put, List.setIfInBounds_toArray, List.set_cons_zero, List.set_cons_succ])
  (with_reducible refine wpQuiet_cellC 72 (.tmp 10) ?_ ?_ b 0 ?_ (hv kc) _ H1.out Tryz.underlying72 ?_ ?_); (focus rfl); (focus rfl); (focus rfl); (focus rfl); (try simp only [List.getElem_toArray, List.getElem_cons_succ, List.getElem_cons_zero, Act.put, List.setIfInBounds_toArray, List.set_cons_zero, List.set_cons_succ])
  (with_reducible refine wpQuiet_rowC 38 (.tmp 3) ?_ ?_ g 0 ?_ (arrF f) _ H2.out Tryz.underlying38 ?_ infF ?_); (focus rfl); (focus rfl); (focus rfl); (focus rfl); (try simp only [List.getElem_toArray, List.getElem_cons_succ, List.getElem_cons_zero, Act.put, List.setIfInBounds_toArray, List.set_cons_zero, List.set_cons_succ])
  (with_reducible refine wpQuiet_do ?_ (fun K hK => ?_)); (focus rfl); go_simp; (apply Exists.intro); (refine ⟨fun W hW => F.out W hW, hK _ ?_⟩); (clear hK K); (try simp only [List.getElem_toArray, List.getElem_cons_succ, List.getElem_cons_zero, Act.put, List.setIfInBounds_toArray, List.set_cons_zero, List.set_cons_succ])
  (with_reducible refine wpQuiet_pure (v := ?_) ?_ (fun w => ?_) ?_); rotate_left; (focus rfl); (focus (go_simp <;> with_reducible rfl)); (try simp only [List.getElem_toArray, List.getElem_cons_succ, List.getElem_cons_zero, Act.put, List.setIfInBounds_toArray, List.set_cons_zero, List.set_cons_succ])
  (with_reducible refine wpQuiet_pure (v := ?_) ?_ (fun w => ?_) ?_); rotate_left; (focus rfl); (focus (go_simp <;> with_reducible rfl)); (try simp only [List.getElem_toArray, List.getElem_cons_succ, List.getElem_cons_zero, Act.put, List.setIfInBounds_toArray, List.set_cons_zero, List.set_cons_succ])
  (with_reducible refine wpQuiet_pure (v := ?_) ?_ (fun w => ?_) ?_); rotate_left; (focus rfl); (focus (go_simp <;> with_reducible rfl)); (try simp only [List.getElem_toArray, List.getElem_cons_succ, List.getElem_cons_zero, Act.put, List.setIfInBounds_toArray, List.set_cons_zero, List.set_cons_succ])
  (with_reducible refine wpQuiet_cellC 92 (.tmp 16) ?_ ?_ b 1 ?_ (.slice (some ⟨c, 0, none⟩) n n) _ H3.out Tryz.underlying92 ?_ ?_); (focus rfl); (focus rfl); (focus rfl); (focus rfl); (try simp only [List.getElem_toArray, List.getElem_cons_succ, List.getElem_cons_zero, Act.put, List.setIfInBounds_toArray, List.set_cons_zero, List.set_cons_succ])
  (with_reducible refine wpQuiet_pure (v := ?_) ?_ (fun w => ?_) ?_); rotate_left; (focus rfl); (focus (go_simp <;> with_reducible rfl)); (try simp only [List.getElem_toArray, List.getElem_cons_succ, List.getElem_cons_zero, Act.put, List.setIfInBounds_toArray, List.set_cons_zero, List.set_cons_succ])
  (with_reducible refine wpQuiet_pure (v := ?_) ?_ (fun w => ?_) ?_); rotate_left; (focus rfl); (focus (go_simp <;> with_reducible rfl)); (try simp only [List.getElem_toArray, List.getElem_cons_succ, List.getElem_cons_zero, Act.put, List.setIfInBounds_toArray, List.set_cons_zero, List.set_cons_succ])
  (try simp only [hwn])
  ((with_reducible refine wpQuiet_pure (v := .int .u64 (q : Nat)) ?_ (fun w => ?_) ?_); (focus rfl); (focus (go_simp <;> simp [hwn, hn0, htm])); (try simp only [List.getElem_toArray, List.getElem_cons_succ, List.getElem_cons_zero, Act.put, List.setIfInBounds_toArray, List.set_cons_zero, List.set_cons_succ]))
  (with_reducible refine wpQuiet_pure (v := ?_) ?_ (fun w => ?_) ?_); rotate_left; (focus rfl); (focus (go_simp <;> with_reducible rfl)); (try simp only [List.getElem_toArray, List.getElem_cons_succ, List.getElem_cons_zero, Act.put, List.setIfInBounds_toArray, List.set_cons_zero, List.set_cons_succ])
  (try simp only [hwq])
  (with_reducible refine wpQuiet_pure (v := ?_) ?_ (fun w => ?_) ?_); rotate_left; (focus rfl); (focus (go_simp <;> with_reducible rfl)); (try simp only [List.getElem_toArray, List.getElem_cons_succ, List.getElem_cons_zero, Act.put, List.setIfInBounds_toArray, List.set_cons_zero, List.set_cons_succ])
  refine wpQuiet_nil ?_
  intro w7 hc7
  have HC := Lib.hid (HA.out.trans hc7)
  clear hc7 H1 H2 H3 F
  go_wp2_with fail
  go_ret
  exact ⟨rfl, HC.out⟩
set_option maxHeartbeats 400000 in
theorem next_any {b c kc n : Nat} {ka kb : Int} {cs : Nat → SC Fl} {m : Int} (i : Nat) {w : World} (h : Tab w b c kc n ka kb cs m) (hi : i < n) :
    Calls Tryz.prog 95 #[.pointer (some ⟨b, 0, none⟩), .int .i64 i] w fun e w' => e = .returned (.int .i64 ((i + 1) % n : Nat)) ∧ w = w' := by
  have h1 := h.c1
  have hn := h.lo
  have hn' := h.hi
  clear h
  go_enter Tryz.func95, Tryz.ntmps95
  go_wp2_with fail
  go_ret
  exact ⟨by simp, rfl⟩
set_option maxHeartbeats 400000 in
theorem far_any {b c kc n : Nat} {ka kb : Int} {cs : Nat → SC Fl} {m : Int} (i j : Nat) {w : World} (h : Tab w b c kc n ka kb cs m) (hi : i < n) (hj : j < n) :
    Calls Tryz.prog 97 #[.pointer (some ⟨b, 0, none⟩), .int .i64 i, .int .i64 j] w fun e w' => e = .returned (.int .i64 ((j + n - i) % n : Nat)) ∧ w = w' := by
  have h1 := h.c1
  have hn := h.lo
  have hn' := h.hi
  clear h
  go_enter Tryz.func97, Tryz.ntmps97
  have e : ((j : Int) - i + n) = ((j + n - i : Nat) : Int) := by omega
  go_wp2_with fail
  go_ret
  exact ⟨by simp [e], rfl⟩
theorem infF36 {x : SC Fl} : (Tryz.prog.info? 126).map (·.size) = some (arrS x).size := infS
theorem one_S (x : SC Fl) : (arrS x).toList.all (·.oneCell') = true := rfl
theorem key_range {w : World} {g : Nat} {x : SC Fl} (h : Blk w g 126 (arrS x)) : w.rangeAt g 1 (arrF x.k).toList := fun j u hu => by
  have hj : j < 34 := (List.getElem?_eq_some_iff.1 hu).1
  rw [h.cell, ← Array.getElem?_toList]
  show (encS x)[1 + j]? = _
  rw [encS, Nat.add_comm, List.getElem?_cons_succ, List.getElem?_append_left (by show j < 34; exact hj)]
  exact hu
set_option maxRecDepth 100000 in
set_option maxHeartbeats 2000000 in
theorem find_any {b c kc n : Nat} {ka kb : Int} {cs : Nat → SC Fl} {m : Int} {k : Fl} (hf : okF k) {w : World} (h : Tab w b c kc n ka kb cs m) :
    Calls Tryz.prog 74 #[.pointer (some ⟨b, 0, none⟩), k.v] w fun e w' =>
      e = .returned (.tuple #[.int .i64 ((findIn cs n k n (hm ka kb n k)).getD 0 : Nat), .bool (findIn cs n k n (hm ka kb n k)).isSome]) ∧ Chg [] w w' := by
  have hA := (Chg.refl [] w).alloc (.cells (arrF k) 38)
  have hB : Blk (w.alloc (.cells (arrF k) 38)) w.heap.size 38 (arrF k) := Blk.new _ _ _
  have hT := h.chg0 hA
  have hh := hm_lt ka kb h.lo k
  have hn := h.lo
  have hn' := h.hi
  have HM := Lib.hid (fun W (hc : Chg [] w W) => h.chg0 hc)
  have HE : Hid (∀ i, i < n → okF (cs i).k) := Lib.hid h.ok
  have HF := Lib.hid hf
  have HA := Lib.hid hA
  have HS : Hid (∀ x q, findIn cs n k (q + 1) x = if (cs x).used = false ∨ (cs x).k = k then some x else findIn cs n k q ((x + 1) % n)) := Lib.hid fun x q => rfl
  have HZ : Hid (∀ x, findIn cs n k 0 x = none) := Lib.hid fun x => rfl
  have F1 := Lib.hid (home_any hf hT)
  clear h hA hf hT
  go_enter Tryz.func74, Tryz.ntmps74
  go_upto_region 1 with fail
  generalize hw1 : (w.alloc (.cells (arrF k) 38)) = w1 at *
  clear hw1
  have HB := Lib.hid (fun W (hc : Chg [] w1 W) => hB.chg hc (by simp))
  generalize hgg : w.heap.size = g at *
  go_wp2_with (first
    | (refine wpList_load_blk rfl 38 (.tmp 3) rfl hB rfl _ Tryz.underlying38 rfl infF ?_)
    | fail)
  refine F1.out.mono ?_
  rintro e w2 ⟨rfl, hc2⟩
  have HC2 := Lib.hid hc2
  clear hc2 F1 hB
  have h1 := (HM.out w2 (HA.out.trans HC2.out)).c1
  generalize hR : findIn cs n k n (hm ka kb n k) = R at *
  have HR := Lib.hid hR
  clear hR
  generalize hh0 : hm ka kb n k = h0 at *
  have HH0 := Lib.hid hh0
  clear hh0
  go_wp2_with fail
  go_loopw [6, 16] (fun a i wr => ∃ (x j : Nat), x < n ∧ j ≤ n ∧ a = .int .i64 x ∧ i = .int .i64 j ∧ Hid (Chg [] w1 wr) ∧ Hid (findIn cs n k (n - j) x = R)) (fun _ i _ => n - (intOf i).toNat)
  case atStart => exact ⟨_, 0, hh, by omega, rfl, rfl, HC2, HR⟩
  case round =>
    obtain ⟨x, j, hx, hj, rfl, rfl, HCG, HFN⟩ := hrel
    clear h1
    have ht := HM.out wr (HA.out.trans HCG.out)
    have h1 := ht.c1
    by_cases hlt : j < n
    · have hr1 := ht.range hx
      have hxI : (x : Int) < (n : Int) := by omega
      have HSX := Lib.hid (HS.out x (n - j - 1))
      have hjj : Hid (n - j - 1 + 1 = n - j ∧ n - j - 1 = n - (j + 1)) := Lib.hid ⟨by omega, by omega⟩
      have HOX := Lib.hid (HE.out x hx)
      have HTX := Lib.hid (fun W (hc : Chg [] wr W) => next_any x (ht.chg0 hc) hx)
      clear ht HS HZ HM HE
      generalize cs x = cx at *
      go_upto_region 5 with (first
        | (refine wpList_row 126 (.tmp 23) rfl rfl c (x * 36) rfl (arrS cx) _ hr1 Tryz.underlying126 rfl infF36 ?_)
        | (refine wpList_store_blk (vs := arrS cx) rfl 126 (.tmp 7) (.tmp 24) rfl rfl (Blk.new _ _ _) rfl rfl rfl infF36 (one_S cx) ?_; intro w5 hB5 hc5)
        | fail)
      have hcA : Chg [] wr w5 := ((Chg.refl [] wr).alloc _).trans' hc5 (by intro x hx; simp at hx; subst hx; exact .inr (Nat.le_refl _))
      have HC5 := Lib.hid (HCG.out.trans hcA)
      have HCA := Lib.hid hcA
      have HTX5 := Lib.hid (HTX.out w5 hcA)
      have hkey := key_range hB5
      have hk3 := (HB.out w5 HC5.out).rangeQ
      clear hcA hc5 hr1 HTX h1
      generalize wr.heap.size = g5 at *
      by_cases hu : cx.used = false
      · have HRes : Hid (R = some x) := Lib.hid (by rw [← HFN.out, ← hjj.out.1, HSX.out, if_pos (.inl hu)])
        have c0 : w5.cell? ⟨g5, 0, none⟩ = some (.bool false) := (hB5.cell 0).trans (by show some (Value.bool cx.used) = _; rw [hu])
        clear hu hB5 hkey hk3
        go_wp2_with fail
        go_ret2
        rw [HH0.out, HR.out, HRes.out]
        exact ⟨rfl, HA.out.trans HC5.out⟩
      · have hu : cx.used = true := by simpa using hu
        have c0 : w5.cell? ⟨g5, 0, none⟩ = some (.bool true) := (hB5.cell 0).trans (by show some (Value.bool cx.used) = _; rw [hu])
        have hE := fun W => eq_fl W HOX.out HF.out
        by_cases hk : cx.k = k
        · have HRes : Hid (R = some x) := Lib.hid (by rw [← HFN.out, ← hjj.out.1, HSX.out, if_pos (.inr hk)])
          have hd : decide (cx.k = k) = true := by simp [hk]
          clear hu hB5
          simp only [hd] at hE
          clear hd hk
          go_wp2_with (first
            | (refine wpList_row 38 (.tmp 29) rfl rfl g5 1 rfl (arrF cx.k) _ hkey Tryz.underlying38 rfl infF ?_)
            | (refine wpList_row 38 (.tmp 3) rfl rfl g 0 rfl (arrF k) _ hk3 Tryz.underlying38 rfl infF ?_)
            | fail)
          go_ret2
          rw [HH0.out, HR.out, HRes.out]
          exact ⟨rfl, HA.out.trans HC5.out⟩
        · have HNx : Hid (findIn cs n k (n - (j + 1)) ((x + 1) % n) = R) := Lib.hid (by
            rw [← HFN.out, ← hjj.out.1, HSX.out, if_neg (by rintro (e | e); · rw [hu] at e; cases e
                                                            · exact hk e), ← hjj.out.2])
          have hd : decide (cx.k = k) = false := by simp [hk]
          clear hu hB5
          simp only [hd] at hE
          clear hd hk
          go_wp2_with (first
            | (refine wpList_row 38 (.tmp 29) rfl rfl g5 1 rfl (arrF cx.k) _ hkey Tryz.underlying38 rfl infF ?_)
            | (refine wpList_row 38 (.tmp 3) rfl rfl g 0 rfl (arrF k) _ hk3 Tryz.underlying38 rfl infF ?_)
            | fail)
          refine HTX5.out.mono ?_
          rintro e w6 ⟨rfl, rfl⟩
          clear hE hkey hk3 c0
          go_wp2_with fail
          go_roundw
          case rel => exact ⟨(x + 1) % n, j + 1, Nat.mod_lt _ hn, by omega, rfl, by go_num, HC5, HNx⟩
          case measure => simp [intOf]; omega
    · have HRes : Hid (R = none) := Lib.hid (by rw [← HFN.out, show n - j = 0 by omega, HZ.out])
      go_wp2_with fail
      go_ret2
      rw [HH0.out, HR.out, HRes.out]
      exact ⟨rfl, HA.out.trans HCG.out⟩
end Go.Proofs.YtldgdpekhjignaaGreat.Fs
namespace Go.Proofs.YtldgdpekhjignaaGreat.Fs
open Go.RowKit

section
variable {w w' : World} {b c kc n : Nat} {ka kb : Int} {cs : Nat → SC Fl} {m : Int} {S : List Nat}
theorem Tab.ne (h : Tab w b c kc n ka kb cs m) : b ≠ c := by
  obtain ⟨A, hA, _⟩ := h.row
  have h1 := h.blk
  rintro rfl
  unfold Blk at h1 hA
  rw [h1] at hA
  injection hA with hA
  injection hA with _ ht
  exact absurd ht (by decide)
theorem Tab.nk (h : Tab w b c kc n ka kb cs m) : kc ≠ c ∧ kc ≠ b := by
  obtain ⟨A, hA, _⟩ := h.row
  have h1 := h.key
  have h2 := h.blk
  refine ⟨?_, ?_⟩
  · rintro rfl
    unfold Blk at h1 hA
    rw [h1] at hA
    injection hA with hA
    injection hA with _ ht
    exact absurd ht (by decide)
  · rintro rfl
    unfold Blk at h1 h2
    rw [h1] at h2
    injection h2 with h2
    injection h2 with _ ht
    exact absurd ht (by decide)
/-- One cell is written anew. -/
theorem Tab.store (h : Tab w b c kc n ka kb cs m) {i : Nat} (hi : i < n) {u : SC Fl} (hu : okF u.k) (hR : RowB encS 36 w' c 126 (n * 36) (((List.range n).map cs).set i u)) (hc : Chg [c] w w') :
    Tab w' b c kc n ka kb (upd cs i u) m := by
  refine ⟨h.lo, h.hi, h.blk.chg hc (by simpa using h.ne), h.key.chg hc (by simpa using h.nk.1), by rw [← upd_range cs hi]; exact hR, fun j hj => ?_⟩
  by_cases e : j = i
  · subst e; rw [upd_same]; exact hu
  · rw [upd_other _ _ e]; exact h.ok j hj
theorem Tab.many (h : Tab w b c kc n ka kb cs m) (m' : Int) : Tab (w.setCell ⟨b, 2, none⟩ (.int .i64 m')) b c kc n ka kb cs m' := by
  have hc : Chg [b] w (w.setCell ⟨b, 2, none⟩ (.int .i64 m')) := (Chg.refl _ _).setCell (p := ⟨b, 2, none⟩) (.inl (by simp)) _
  have hb := h.blk.set_ 2 (.int .i64 m')
  exact ⟨h.lo, h.hi, hb, h.key.chg hc (by simpa using h.nk.2), h.row.chg hc (by simpa using h.ne.symm), h.ok⟩
end
theorem okF0 : okF (default : Fl) := by
  refine ⟨?_, by decide, ?_, by decide⟩ <;> (intro x hx; simp [default, instInhabitedFl.default, instInhabitedAd.default, Ad.l] at hx; subst hx; decide)

set_option maxRecDepth 100000 in
set_option maxHeartbeats 1000000 in
theorem get_any {b c kc n : Nat} {ka kb : Int} {cs : Nat → SC Fl} {m : Int} {k : Fl} (hf : okF k) {w : World} (h : Tab w b c kc n ka kb cs m) :
    Calls Tryz.prog 46 #[.pointer (some ⟨b, 0, none⟩), k.v] w fun e w' =>
      e = .returned (.tuple #[.int .i64 ((getV (hm ka kb n) cs n k).getD 0), .bool (getV (hm ka kb n) cs n k).isSome]) ∧ Chg [] w w' := by
  have hA := (Chg.refl [] w).alloc (.cells (arrF k) 38)
  have hB : Blk (w.alloc (.cells (arrF k) 38)) w.heap.size 38 (arrF k) := Blk.new _ _ _
  have hT := h.chg0 hA
  have h0 := hT.c0
  have hh := hm_lt ka kb h.lo k
  have hn' := h.hi
  have HLT := Lib.hid (fun i (hi : findIn cs n k n (hm ka kb n k) = some i) => findIn_lt h.lo hh hi)
  have HM := Lib.hid (fun W (hc : Chg [] w W) => h.chg0 hc)
  have HA := Lib.hid hA
  have F1 := Lib.hid (find_any hf hT)
  have HN := Lib.hid (fun hq : findIn cs n k n (hm ka kb n k) = none => (getV_none hq).1)
  have HSo := Lib.hid (fun i (hq : findIn cs n k n (hm ka kb n k) = some i) => (getV_some hq).1)
  clear h hA hf hT hh
  generalize hR : findIn cs n k n (hm ka kb n k) = R at *
  generalize hG : getV (hm ka kb n) cs n k = G at *
  have HG := Lib.hid hG
  clear hR hG
  go_enter Tryz.func46, Tryz.ntmps46
  go_upto_region 1 with fail
  generalize hw1 : (w.alloc (.cells (arrF k) 38)) = w1 at *
  clear hw1
  generalize hgg : w.heap.size = g at *
  go_wp2_with fail
  refine (is_any b kc _ h0).mono ?_
  rintro e w' ⟨rfl, rfl⟩
  clear h0
  go_wp2_with (first
    | (refine wpList_load_blk rfl 38 (.tmp 3) rfl hB rfl _ Tryz.underlying38 rfl infF ?_)
    | fail)
  refine F1.out.mono ?_
  rintro e w2 ⟨rfl, hc2⟩
  have HC2 := Lib.hid (HA.out.trans hc2)
  clear hc2 F1 hB
  cases R with
  | none =>
    have HGV := Lib.hid (HN.out rfl)
    clear HM HLT HSo HN
    go_wp2_with fail
    go_ret2
    rw [HGV.out]
    exact ⟨rfl, HC2.out⟩
  | some i =>
    have hi := HLT.out i rfl
    have HGV := Lib.hid (HSo.out i rfl)
    have ht := HM.out w2 HC2.out
    have h1 := ht.c1
    have g0 : w2.cell? ⟨c, i * 36, none⟩ = some (.bool (cs i).used) := ht.cellsA (j := 0) hi rfl
    have g2 : w2.cell? ⟨c, i * 36 + 35, none⟩ = some (.int .i64 (cs i).v) := ht.cellsA (j := 35) hi rfl
    have hiI : (i : Int) < (n : Int) := by omega
    clear ht HM HSo HN HLT
    generalize cs i = ci at *
    cases hu : ci.used with
    | false =>
      rw [hu] at g0
      have HU := Lib.hid hu
      clear hu
      go_wp2_with fail
      go_ret2
      rw [HGV.out, HU.out]
      exact ⟨rfl, HC2.out⟩
    | true =>
      rw [hu] at g0
      have HU := Lib.hid hu
      clear hu
      go_wp2_with fail
      go_ret2
      rw [HGV.out, HU.out]
      exact ⟨rfl, HC2.out⟩
end Go.Proofs.YtldgdpekhjignaaGreat.Fs
namespace Go.Proofs.YtldgdpekhjignaaGreat.Fs
open Go.RowKit

set_option maxRecDepth 100000 in
set_option maxHeartbeats 1000000 in
theorem put_new {b c kc n : Nat} {ka kb : Int} {cs : Nat → SC Fl} {m v : Int} {k : Fl} {i : Nat} (hf : okF k) {w : World} (h : Tab w b c kc n ka kb cs m) (hfi : findIn cs n k n (hm ka kb n k) = some i) (hu : (cs i).used = false) (hm0 : 0 ≤ m) (hm1 : m ≤ 256) :
    Calls Tryz.prog 59 #[.pointer (some ⟨b, 0, none⟩), k.v, .int .i64 v] w fun e w' =>
      e = .returned (.bool true) ∧ Tab w' b c kc n ka kb (upd cs i ⟨true, k, v⟩) (m + 1) ∧ Chg [b, c] w w' := by
  have hA := (Chg.refl [] w).alloc (.cells (arrF k) 38)
  have hB : Blk (w.alloc (.cells (arrF k) 38)) w.heap.size 38 (arrF k) := Blk.new _ _ _
  have hT := h.chg0 hA
  have h0 := hT.c0
  have hi := findIn_lt h.lo (hm_lt ka kb h.lo k) hfi
  have hn' := h.hi
  have hlt := h.lt
  have F1 := Lib.hid (find_any hf hT)
  rw [hfi] at F1
  have HI := Lib.hid (And.intro hA (And.intro hT hB))
  have HF := Lib.hid hf
  have HU := Lib.hid hu
  have hgb : w.heap.size ≠ b := by omega
  have hgc : w.heap.size ≠ c := by omega
  clear h hT hA hf hfi hu hlt
  go_enter Tryz.func59, Tryz.ntmps59
  go_upto_region 1 with fail
  generalize hw1 : (w.alloc (.cells (arrF k) 38)) = w1 at *
  clear hw1
  generalize w.heap.size = g at *
  go_wp2_with fail
  refine (is_any b kc _ h0).mono ?_
  rintro e w' ⟨rfl, rfl⟩
  clear h0
  go_wp2_with (first
    | (refine wpList_load_blk rfl 38 (.tmp 4) rfl hB rfl _ Tryz.underlying38 rfl infF ?_)
    | fail)
  refine F1.out.mono ?_
  rintro e w2 ⟨rfl, hc2⟩
  have ht := HI.out.2.1.chg0 hc2
  have HC2 := Lib.hid (HI.out.1.trans hc2)
  have hB2 := HI.out.2.2.chg hc2 (by simp)
  have h1 := ht.c1
  have h2 := ht.c2
  have f2 := ht.f 2
  have g0 : w2.cell? ⟨c, i * 36, none⟩ = some (.bool false) := ht.cellsA (j := 0) hi (by rw [encS, HU.out]; rfl)
  have hiI : (i : Int) < (n : Int) := by omega
  have hmw : IntKind.i64.wrap (m + 1) = m + 1 := by rw [IntKind.wrap_i64]; omega
  have HT := Lib.hid (ht.many (m + 1))
  have HC3 : Hid (Chg [b, c] w (w2.setCell ⟨b, 2, none⟩ (.int .i64 (m + 1)))) := Lib.hid ((HC2.out.more (by simp)).setCell (p := ⟨b, 2, none⟩) (.inl (by simp)) _)
  have HB3 := Lib.hid (hB2.far (p := ⟨b, 2, none⟩) hgb (.int .i64 (m + 1)))
  clear hc2 F1 hB ht hB2 HI HC2
  go_upto_region 8 with fail
  generalize (w2.setCell ⟨b, 2, none⟩ (.int .i64 (m + 1))) = w3 at *
  clear h1 h2 f2 g0
  have h1 := HT.out.c1
  have hne := HT.out.ne
  have hS0 : (fun W : World => W.cell? ⟨b, 1, none⟩ = some (.slice (some ⟨c, 0, none⟩) n n) ∧ Blk W g 38 (arrF k)) w3.drew := ⟨h1, HB3.out.drew⟩
  have HS1 : ∀ W : World, (fun W : World => W.cell? ⟨b, 1, none⟩ = some (.slice (some ⟨c, 0, none⟩) n n) ∧ Blk W g 38 (arrF k)) W → W.cell? ⟨b, 1, none⟩ = some (.slice (some ⟨c, 0, none⟩) n n) := fun W h => h.1
  have HS2 : ∀ W : World, (fun W : World => W.cell? ⟨b, 1, none⟩ = some (.slice (some ⟨c, 0, none⟩) n n) ∧ Blk W g 38 (arrF k)) W → W.rangeAt g 0 (arrF k).toList := fun W h => h.2.rangeQ
  have HR := Lib.hid (HT.out.row.chg (Chg.refl [] w3).drew (by simp))
  have HCd := Lib.hid (HC3.out.drew)
  have HTd := Lib.hid (HT.out.chg0 (Chg.refl [] w3).drew)
  refine wp_region_noPanic ?_
  refine wp_region_held_drew (S := fun W : World => W.cell? ⟨b, 1, none⟩ = some (.slice (some ⟨c, 0, none⟩) n n) ∧ Blk W g 38 (arrF k)) (by kernel_rfl) hS0 (fun _ => ?_)
  generalize w3.drew = w4 at *
  refine wpAnyH_take (i := 0) (v := ?_) rfl (by kernel_rfl) (by kernel_rfl) (by kernel_rfl) (fun _ _ _ h => h) (yields_pure (by rfl) (fun w => ?_)) (by with_reducible assumption) ?_
  rotate_left
  · (go_simp <;> with_reducible rfl)
  try simp only [List.getElem_toArray, List.getElem_cons_succ, List.getElem_cons_zero, Act.put, List.setIfInBounds_toArray, List.set_cons_zero, List.set_cons_succ]
  refine wpAnyH_take (i := 1) (v := ?_) rfl (by kernel_rfl) (by kernel_rfl) (by kernel_rfl) (fun _ _ _ h => h) (yields_pure (by rfl) (fun w => ?_)) (by with_reducible assumption) ?_
  rotate_left
  · (go_simp <;> with_reducible rfl)
  try simp only [List.getElem_toArray, List.getElem_cons_succ, List.getElem_cons_zero, Act.put, List.setIfInBounds_toArray, List.set_cons_zero, List.set_cons_succ]
  refine wpAnyH_take (i := 2) (v := ?_) rfl (by kernel_rfl) (by kernel_rfl) (by kernel_rfl) (fun _ _ _ h => h) (yields_pure (by rfl) (fun w => ?_)) (by with_reducible assumption) ?_
  rotate_left
  · (go_simp <;> with_reducible rfl)
  try simp only [List.getElem_toArray, List.getElem_cons_succ, List.getElem_cons_zero, Act.put, List.setIfInBounds_toArray, List.set_cons_zero, List.set_cons_succ]
  refine wpAnyH_take (i := 3) rfl (by kernel_rfl) (by kernel_rfl) (by kernel_rfl) (fun _ _ _ h => h) (yields_cell (by rfl) 92 (.tmp 38) rfl b 1 rfl (.slice (some ⟨c, 0, none⟩) n n) _ HS1 Tryz.underlying92 rfl) (by with_reducible assumption) ?_
  try simp only [List.getElem_toArray, List.getElem_cons_succ, List.getElem_cons_zero, Act.put, List.setIfInBounds_toArray, List.set_cons_zero, List.set_cons_succ]
  refine wpAnyH_take (i := 4) (v := ?_) rfl (by kernel_rfl) (by kernel_rfl) (by kernel_rfl) (fun _ _ _ h => h) (yields_pure (by rfl) (fun w => ?_)) (by with_reducible assumption) ?_
  rotate_left
  · (go_simp <;> with_reducible rfl)
  try simp only [List.getElem_toArray, List.getElem_cons_succ, List.getElem_cons_zero, Act.put, List.setIfInBounds_toArray, List.set_cons_zero, List.set_cons_succ]
  refine wpAnyH_take (i := 5) rfl (by kernel_rfl) (by kernel_rfl) (by kernel_rfl) (fun _ _ _ h => h) (yields_row (by rfl) 38 (.tmp 4) rfl g 0 rfl (arrF k) _ HS2 Tryz.underlying38 rfl infF) (by with_reducible assumption) ?_
  try simp only [List.getElem_toArray, List.getElem_cons_succ, List.getElem_cons_zero, Act.put, List.setIfInBounds_toArray, List.set_cons_zero, List.set_cons_succ]
  refine wpAnyH_take (i := 6) (v := ?_) rfl (by kernel_rfl) (by kernel_rfl) (by kernel_rfl) (fun _ _ _ h => h) (yields_pure (by rfl) (fun w => ?_)) (by with_reducible assumption) ?_
  rotate_left
  · (go_simp <;> with_reducible rfl)
  try simp only [List.getElem_toArray, List.getElem_cons_succ, List.getElem_cons_zero, Act.put, List.setIfInBounds_toArray, List.set_cons_zero, List.set_cons_succ]
  refine wpAnyH_take (i := 7) (v := ?_) rfl (by kernel_rfl) (by kernel_rfl) (by kernel_rfl) (fun _ _ _ h => h) (yields_pure (by rfl) (fun w => ?_)) (by with_reducible assumption) ?_
  rotate_left
  · (go_simp <;> with_reducible rfl)
  try simp only [List.getElem_toArray, List.getElem_cons_succ, List.getElem_cons_zero, Act.put, List.setIfInBounds_toArray, List.set_cons_zero, List.set_cons_succ]
  refine wpAnyH_take (i := 8) (v := ?_) rfl (by kernel_rfl) (by kernel_rfl) (by kernel_rfl) (fun _ _ _ h => h) (yields_pure (by rfl) (fun w => ?_)) (by with_reducible assumption) ?_
  rotate_left
  · (go_simp <;> with_reducible rfl)
  try simp only [List.getElem_toArray, List.getElem_cons_succ, List.getElem_cons_zero, Act.put, List.setIfInBounds_toArray, List.set_cons_zero, List.set_cons_succ]
  refine wpAnyH_ready (rs := [9]) (by kernel_rfl) (by simp) (AllReadyH.cons rfl (fun K hK => ?_) AllReadyH.nil)
  refine step_store_row encS_len rfl 126 (.tmp 44) (.tmp 43) rfl HR.out (by simpa using hi) (by simp) (⟨true, k, v⟩ : SC Fl) rfl rfl infS (encS_one _) ?_
  intro w5 hR5 hc5
  have hS5 : (fun W : World => W.cell? ⟨b, 1, none⟩ = some (.slice (some ⟨c, 0, none⟩) n n) ∧ Blk W g 38 (arrF k)) w5 := ⟨hc5.cell hS0.1 (by simpa using hne), hS0.2.chg hc5 (by simpa using hgc)⟩
  have HFIN : Hid (Tab w5 b c kc n ka kb (upd cs i ⟨true, k, v⟩) (m + 1) ∧ Chg [b, c] w w5) := Lib.hid ⟨HTd.out.store hi HF.out hR5 hc5, HCd.out.trans (hc5.more (by simp))⟩
  refine hK.out _ _ (by with_reducible assumption) (fun _ => ?_)
  clear hK K
  try simp only [List.getElem_toArray, List.getElem_cons_succ, List.getElem_cons_zero, Act.put, List.setIfInBounds_toArray, List.set_cons_zero, List.set_cons_succ]
  refine wpAnyH_done (by kernel_rfl) ?_ _
  refine NoPanic.normal ?_
  clear hS0 hS5 HS1 HS2 hR5 hc5 HR HCd HTd HT HC3 HB3 h1
  go_wp2_with fail
  go_ret
  exact ⟨rfl, HFIN.out.1, HFIN.out.2⟩
theorem farOf_eq {n i j : Nat} : farOf n i j = (j + n - i) % n := rfl
theorem SC.used_eq {x : SC Fl} (h : x.used = true) : (⟨true, x.k, x.v⟩ : SC Fl) = x := by cases x; simp_all
set_option maxRecDepth 100000 in
set_option maxHeartbeats 2000000 in
theorem close_any {b c kc n : Nat} {ka kb : Int} {cs : Nat → SC Fl} {m : Int} (hole : Nat) {w : World} (h : Tab w b c kc n ka kb cs m) (hh : hole < n) (hu : (cs hole).used = false) :
    Calls Tryz.prog 80 #[.pointer (some ⟨b, 0, none⟩), .int .i64 hole] w fun e w' =>
      e = .returned (.tuple #[]) ∧ Tab w' b c kc n ka kb (closeIn (hm ka kb n) n n cs hole hole) m ∧ Chg [c] w w' := by
  have h1 := h.c1
  have hn := h.lo
  have hn' := h.hi
  have HIN := Lib.hid (And.intro h hu)
  have HS : Hid (∀ q cs x y, closeIn (hm ka kb n) n (q + 1) cs x y = if (cs ((y + 1) % n)).used = false then cs else if farOf n x ((y + 1) % n) ≤ farOf n (hm ka kb n (cs ((y + 1) % n)).k) ((y + 1) % n) then closeIn (hm ka kb n) n q (upd (upd cs x (cs ((y + 1) % n))) ((y + 1) % n) free) ((y + 1) % n) ((y + 1) % n) else closeIn (hm ka kb n) n q cs x ((y + 1) % n)) := Lib.hid fun q cs x y => rfl
  have HZ : Hid (∀ cs x y, closeIn (hm ka kb n) n 0 cs x y = cs) := Lib.hid fun cs x y => rfl
  generalize hR : closeIn (hm ka kb n) n n cs hole hole = R at *
  have HR := Lib.hid hR
  clear h hu hR
  go_enter Tryz.func80, Tryz.ntmps80
  go_wp2_with fail
  go_loopw [1, 4, 13] (fun ho a i wr => ∃ (x y j : Nat) (cs' : Nat → SC Fl), x < n ∧ y < n ∧ j ≤ n ∧ ho = .int .i64 x ∧ a = .int .i64 y ∧ i = .int .i64 j ∧ Hid (Chg [c] w wr) ∧ Hid (Tab wr b c kc n ka kb cs' m) ∧ Hid ((cs' x).used = false) ∧
    Hid (closeIn (hm ka kb n) n (n - j) cs' x y = R)) (fun _ _ i _ => n - (intOf i).toNat)
  case atStart => exact ⟨hole, hole, 0, cs, hh, hh, by omega, rfl, rfl, rfl, Lib.hid (Chg.refl _ _), Lib.hid HIN.out.1, Lib.hid HIN.out.2, HR⟩
  case round =>
    obtain ⟨x, y, j, cs', hx, hy, hj, rfl, rfl, rfl, HCG, HT, HUX, HFN⟩ := hrel
    clear h1
    by_cases hlt : j < n
    · have hy' : (y + 1) % n < n := Nat.mod_lt _ hn
      have HSX := Lib.hid (HS.out (n - j - 1) cs' x y)
      have hjj : Hid (n - j - 1 + 1 = n - j ∧ n - j - 1 = n - (j + 1)) := Lib.hid ⟨by omega, by omega⟩
      have FN := Lib.hid (next_any y HT.out hy)
      generalize hzz : (y + 1) % n = z at *
      have HZZ := Lib.hid hzz
      clear hzz
      go_upto_region 4 with fail
      refine FN.out.mono ?_
      rintro e w' ⟨rfl, rfl⟩
      clear FN
      have h1 := HT.out.c1
      have hr1 := HT.out.range hy'
      have hzI : (z : Int) < (n : Int) := by omega
      have HOZ := Lib.hid (HT.out.ok z hy')
      go_upto_region 5 with (first
        | (refine wpList_row 126 (.tmp 23) rfl rfl c (z * 36) rfl (arrS (cs' z)) _ hr1 Tryz.underlying126 rfl infF36 ?_)
        | (refine wpList_store_blk (vs := arrS (cs' z)) rfl 126 (.tmp 5) (.tmp 24) rfl rfl (Blk.new _ _ _) rfl rfl rfl infF36 (one_S (cs' z)) ?_; intro w5 hB5 hc5)
        | fail)
      have hcA : Chg [] wr w5 := ((Chg.refl [] wr).alloc _).trans' hc5 (by intro x hx; simp at hx; subst hx; exact .inr (Nat.le_refl _))
      have HC5 := Lib.hid (HCG.out.trans (hcA.more (by simp)))
      have HT5 := Lib.hid (HT.out.chg0 hcA)
      have hltT := HT.out.lt
      have hgc : wr.heap.size ≠ c := by omega
      clear hcA hc5 hr1 h1 hltT HCG HT
      generalize wr.heap.size = g5 at *
      by_cases hu : (cs' z).used = false
      · have HRes : Hid (R = cs') := Lib.hid (by rw [← HFN.out, ← hjj.out.1, HSX.out, if_pos hu])
        have c0 : w5.cell? ⟨g5, 0, none⟩ = some (.bool false) := (hB5.cell 0).trans (by show some (Value.bool (cs' z).used) = _; rw [hu])
        clear hu hB5
        go_wp2_with fail
        refine bodyPost_ret (results_none rfl _ _ _) rfl ?_
        exact ⟨rfl, by rw [HRes.out]; exact HT5.out, HC5.out⟩
      · have hu : (cs' z).used = true := by simpa using hu
        have c0 : w5.cell? ⟨g5, 0, none⟩ = some (.bool true) := (hB5.cell 0).trans (by show some (Value.bool (cs' z).used) = _; rw [hu])
        have HU := Lib.hid hu
        have hxz : Hid (x ≠ z) := Lib.hid (by rintro rfl; rw [HUX.out] at hu; cases hu)
        have hkey := key_range hB5
        have HB5 := Lib.hid hB5
        have FH := Lib.hid (home_any HOZ.out HT5.out)
        have hhz := hm_lt ka kb hn (cs' z).k
        clear hu hB5
        generalize hq0 : hm ka kb n (cs' z).k = q0 at *
        have HQ0 := Lib.hid hq0
        clear hq0
        go_upto_region 6 with fail
        go_wp2_with (first
          | (refine wpList_row 38 (.tmp 29) rfl rfl g5 1 rfl (arrF (cs' z).k) _ hkey Tryz.underlying38 rfl infF ?_)
          | fail)
        refine FH.out.mono ?_
        rintro e w6 ⟨rfl, hc6⟩
        have HT6 := Lib.hid (HT5.out.chg0 hc6)
        have HC6 := Lib.hid (HC5.out.trans (hc6.more (by simp)))
        have HB6 := Lib.hid (HB5.out.chg hc6 (by simp))
        clear hc6 FH hkey c0 HT5 HC5 HB5
        have FA := Lib.hid (far_any q0 z HT6.out hhz hy')
        have FB := Lib.hid (far_any x z HT6.out hx hy')
        rw [← farOf_eq] at FA FB
        generalize hfa : farOf n q0 z = fa at *
        generalize hfb : farOf n x z = fb at *
        have HFA := Lib.hid hfa
        have HFB := Lib.hid hfb
        clear hfa hfb
        go_wp2_with fail
        refine FA.out.mono ?_
        rintro e w' ⟨rfl, rfl⟩
        clear FA
        go_wp2_with fail
        refine FB.out.mono ?_
        rintro e w' ⟨rfl, rfl⟩
        clear FB
        by_cases hd : fb ≤ fa
        · have hdI : (fb : Int) ≤ (fa : Int) := by omega
          have HRes : Hid (closeIn (hm ka kb n) n (n - (j + 1)) (upd (upd cs' x (cs' z)) z free) z z = R) := Lib.hid (by
            rw [← HFN.out, ← hjj.out.1, HSX.out, if_neg (by rw [HU.out]; simp), if_pos hd, hjj.out.2])
          have h1 := HT6.out.c1
          have hne := HT6.out.ne
          have hxI : (x : Int) < (n : Int) := by omega
          have hzI2 : (z : Int) < (n : Int) := by omega
          go_upto_region 8 with fail
          clear HSX HS HZ HIN HFN HR HZZ HQ0 HFA HFB hjj hd hdI hhz
          have hS0 : (fun W : World => W.cell? ⟨b, 1, none⟩ = some (.slice (some ⟨c, 0, none⟩) n n) ∧ Blk W g5 126 (arrS (cs' z))) w6.drew := ⟨h1, HB6.out.drew⟩
          have HS1 : ∀ W : World, (fun W : World => W.cell? ⟨b, 1, none⟩ = some (.slice (some ⟨c, 0, none⟩) n n) ∧ Blk W g5 126 (arrS (cs' z))) W → W.cell? ⟨b, 1, none⟩ = some (.slice (some ⟨c, 0, none⟩) n n) := fun W h => h.1
          have HS2 : ∀ W : World, (fun W : World => W.cell? ⟨b, 1, none⟩ = some (.slice (some ⟨c, 0, none⟩) n n) ∧ Blk W g5 126 (arrS (cs' z))) W → W.rangeAt g5 0 (arrS (cs' z)).toList := fun W h => h.2.rangeQ
          have HRw := Lib.hid (HT6.out.row.chg (Chg.refl [] w6).drew (by simp))
          have HCd := Lib.hid (HC6.out.drew)
          have HTd := Lib.hid (HT6.out.chg0 (Chg.refl [] w6).drew)
          refine wp_region_noPanic ?_
          refine wp_region_held_drew (S := fun W : World => W.cell? ⟨b, 1, none⟩ = some (.slice (some ⟨c, 0, none⟩) n n) ∧ Blk W g5 126 (arrS (cs' z))) (by kernel_rfl) hS0 (fun _ => ?_)
          generalize w6.drew = w7 at *
          refine wpAnyH_take (i := 0) (v := ?_) rfl (by kernel_rfl) (by kernel_rfl) (by kernel_rfl) (fun _ _ _ h => h) (yields_pure (by rfl) (fun w => ?_)) (by with_reducible assumption) ?_
          rotate_left
          · (go_simp <;> with_reducible rfl)
          try simp only [List.getElem_toArray, List.getElem_cons_succ, List.getElem_cons_zero, Act.put, List.setIfInBounds_toArray, List.set_cons_zero, List.set_cons_succ]
          refine wpAnyH_take (i := 1) (v := ?_) rfl (by kernel_rfl) (by kernel_rfl) (by kernel_rfl) (fun _ _ _ h => h) (yields_pure (by rfl) (fun w => ?_)) (by with_reducible assumption) ?_
          rotate_left
          · (go_simp <;> with_reducible rfl)
          try simp only [List.getElem_toArray, List.getElem_cons_succ, List.getElem_cons_zero, Act.put, List.setIfInBounds_toArray, List.set_cons_zero, List.set_cons_succ]
          refine wpAnyH_take (i := 2) (v := ?_) rfl (by kernel_rfl) (by kernel_rfl) (by kernel_rfl) (fun _ _ _ h => h) (yields_pure (by rfl) (fun w => ?_)) (by with_reducible assumption) ?_
          rotate_left
          · (go_simp <;> with_reducible rfl)
          try simp only [List.getElem_toArray, List.getElem_cons_succ, List.getElem_cons_zero, Act.put, List.setIfInBounds_toArray, List.set_cons_zero, List.set_cons_succ]
          refine wpAnyH_take (i := 3) rfl (by kernel_rfl) (by kernel_rfl) (by kernel_rfl) (fun _ _ _ h => h) (yields_cell (by rfl) 92 (.tmp 43) rfl b 1 rfl (.slice (some ⟨c, 0, none⟩) n n) _ HS1 Tryz.underlying92 rfl) (by with_reducible assumption) ?_
          try simp only [List.getElem_toArray, List.getElem_cons_succ, List.getElem_cons_zero, Act.put, List.setIfInBounds_toArray, List.set_cons_zero, List.set_cons_succ]
          refine wpAnyH_take (i := 4) (v := ?_) rfl (by kernel_rfl) (by kernel_rfl) (by kernel_rfl) (fun _ _ _ h => h) (yields_pure (by rfl) (fun w => ?_)) (by with_reducible assumption) ?_
          rotate_left
          · (go_simp <;> with_reducible rfl)
          try simp only [List.getElem_toArray, List.getElem_cons_succ, List.getElem_cons_zero, Act.put, List.setIfInBounds_toArray, List.set_cons_zero, List.set_cons_succ]
          refine wpAnyH_take (i := 5) (v := ?_) rfl (by kernel_rfl) (by kernel_rfl) (by kernel_rfl) (fun _ _ _ h => h) (yields_pure (by rfl) (fun w => ?_)) (by with_reducible assumption) ?_
          rotate_left
          · (go_simp <;> with_reducible rfl)
          try simp only [List.getElem_toArray, List.getElem_cons_succ, List.getElem_cons_zero, Act.put, List.setIfInBounds_toArray, List.set_cons_zero, List.set_cons_succ]
          refine wpAnyH_take (i := 6) (v := ?_) rfl (by kernel_rfl) (by kernel_rfl) (by kernel_rfl) (fun _ _ _ h => h) (yields_pure (by rfl) (fun w => ?_)) (by with_reducible assumption) ?_
          rotate_left
          · (go_simp <;> with_reducible rfl)
          try simp only [List.getElem_toArray, List.getElem_cons_succ, List.getElem_cons_zero, Act.put, List.setIfInBounds_toArray, List.set_cons_zero, List.set_cons_succ]
          refine wpAnyH_take (i := 7) (v := ?_) rfl (by kernel_rfl) (by kernel_rfl) (by kernel_rfl) (fun _ _ _ h => h) (yields_pure (by rfl) (fun w => ?_)) (by with_reducible assumption) ?_
          rotate_left
          · (go_simp <;> with_reducible rfl)
          try simp only [List.getElem_toArray, List.getElem_cons_succ, List.getElem_cons_zero, Act.put, List.setIfInBounds_toArray, List.set_cons_zero, List.set_cons_succ]
          refine wpAnyH_take (i := 9) (v := ?_) rfl (by kernel_rfl) (by kernel_rfl) (by kernel_rfl) (fun _ _ _ h => h) (yields_pure (by rfl) (fun w => ?_)) (by with_reducible assumption) ?_
          rotate_left
          · (go_simp <;> with_reducible rfl)
          try simp only [List.getElem_toArray, List.getElem_cons_succ, List.getElem_cons_zero, Act.put, List.setIfInBounds_toArray, List.set_cons_zero, List.set_cons_succ]
          refine wpAnyH_take (i := 8) rfl (by kernel_rfl) (by kernel_rfl) (by kernel_rfl) (fun _ _ _ h => h) (yields_cell (by rfl) 92 (.tmp 48) rfl b 1 rfl (.slice (some ⟨c, 0, none⟩) n n) _ HS1 Tryz.underlying92 rfl) (by with_reducible assumption) ?_
          try simp only [List.getElem_toArray, List.getElem_cons_succ, List.getElem_cons_zero, Act.put, List.setIfInBounds_toArray, List.set_cons_zero, List.set_cons_succ]
          refine wpAnyH_take (i := 10) rfl (by kernel_rfl) (by kernel_rfl) (by kernel_rfl) (fun _ _ _ h => h) (yields_row (by rfl) 126 (.tmp 5) rfl g5 0 rfl (arrS (cs' z)) _ HS2 Tryz.underlying126 rfl infF36) (by with_reducible assumption) ?_
          try simp only [List.getElem_toArray, List.getElem_cons_succ, List.getElem_cons_zero, Act.put, List.setIfInBounds_toArray, List.set_cons_zero, List.set_cons_succ]
          refine wpAnyH_take (i := 11) (v := ?_) rfl (by kernel_rfl) (by kernel_rfl) (by kernel_rfl) (fun _ _ _ h => h) (yields_pure (by rfl) (fun w => ?_)) (by with_reducible assumption) ?_
          rotate_left
          · (go_simp <;> with_reducible rfl)
          try simp only [List.getElem_toArray, List.getElem_cons_succ, List.getElem_cons_zero, Act.put, List.setIfInBounds_toArray, List.set_cons_zero, List.set_cons_succ]
          refine wpAnyH_take (i := 12) (v := ?_) rfl (by kernel_rfl) (by kernel_rfl) (by kernel_rfl) (fun _ _ _ h => h) (yields_pure (by rfl) (fun w => ?_)) (by with_reducible assumption) ?_
          rotate_left
          · (go_simp <;> with_reducible rfl)
          try simp only [List.getElem_toArray, List.getElem_cons_succ, List.getElem_cons_zero, Act.put, List.setIfInBounds_toArray, List.set_cons_zero, List.set_cons_succ]
          refine wpAnyH_ready (rs := [13]) (by kernel_rfl) (by simp) (AllReadyH.cons rfl (fun K hK => ?_) AllReadyH.nil)
          refine step_store_row encS_len rfl 126 (.tmp 53) (.tmp 51) rfl HRw.out (by simpa using hx) (by simp) (cs' z) rfl rfl infS (encS_one _) ?_
          intro w8 hR8 hc8
          have hS8 : (fun W : World => W.cell? ⟨b, 1, none⟩ = some (.slice (some ⟨c, 0, none⟩) n n) ∧ Blk W g5 126 (arrS (cs' z))) w8 := ⟨hc8.cell hS0.1 (by simpa using hne), hS0.2.chg hc8 (by simpa using hgc)⟩
          have HT8 := Lib.hid (HTd.out.store hx HOZ.out hR8 hc8)
          have HC8 := Lib.hid (HCd.out.trans hc8)
          refine hK.out _ _ (by with_reducible assumption) (fun _ => ?_)
          clear hK K
          try simp only [List.getElem_toArray, List.getElem_cons_succ, List.getElem_cons_zero, Act.put, List.setIfInBounds_toArray, List.set_cons_zero, List.set_cons_succ]
          refine wpAnyH_take (i := 14) (v := ?_) rfl (by kernel_rfl) (by kernel_rfl) (by kernel_rfl) (fun _ _ _ h => h) (yields_pure (by rfl) (fun w => ?_)) (by with_reducible assumption) ?_
          rotate_left
          · (go_simp <;> with_reducible rfl)
          try simp only [List.getElem_toArray, List.getElem_cons_succ, List.getElem_cons_zero, Act.put, List.setIfInBounds_toArray, List.set_cons_zero, List.set_cons_succ]
          refine wpAnyH_ready (rs := [15]) (by kernel_rfl) (by simp) (AllReadyH.cons rfl (fun K hK => ?_) AllReadyH.nil)
          refine step_store_row encS_len rfl 126 (.tmp 54) (.tmp 52) rfl HT8.out.row (by simpa using hy') (by simp) (free : SC Fl) rfl rfl infS (encS_one _) ?_
          intro w9 hR9 hc9
          have hS9 : (fun W : World => W.cell? ⟨b, 1, none⟩ = some (.slice (some ⟨c, 0, none⟩) n n) ∧ Blk W g5 126 (arrS (cs' z))) w9 := ⟨hc9.cell hS8.1 (by simpa using hne), hS8.2.chg hc9 (by simpa using hgc)⟩
          have HFIN : Hid (Tab w9 b c kc n ka kb (upd (upd cs' x (cs' z)) z free) m ∧ Chg [c] w w9) := Lib.hid ⟨HT8.out.store hy' okF0 hR9 hc9, HC8.out.trans hc9⟩
          refine hK.out _ _ (by with_reducible assumption) (fun _ => ?_)
          clear hK K
          try simp only [List.getElem_toArray, List.getElem_cons_succ, List.getElem_cons_zero, Act.put, List.setIfInBounds_toArray, List.set_cons_zero, List.set_cons_succ]
          refine wpAnyH_done (by kernel_rfl) ?_ _
          refine NoPanic.normal ?_
          clear hS0 hS8 hS9 HS1 HS2 hR8 hc8 hR9 hc9 HRw HCd HTd HT8 HC8 h1 HT6 HC6 HB6 HOZ
          go_wp2_with fail
          go_roundw
          case rel => exact ⟨z, z, j + 1, _, hy', hy', by omega, rfl, rfl, by go_num, Lib.hid HFIN.out.2, Lib.hid HFIN.out.1, Lib.hid (by rw [upd_same]; rfl), HRes⟩
          case measure => simp [intOf]; omega
        · have hdI : ¬ (fb : Int) ≤ (fa : Int) := by omega
          have HRes : Hid (closeIn (hm ka kb n) n (n - (j + 1)) cs' x z = R) := Lib.hid (by
            rw [← HFN.out, ← hjj.out.1, HSX.out, if_neg (by rw [HU.out]; simp), if_neg hd, hjj.out.2])
          go_wp2_with fail
          go_roundw
          case rel => exact ⟨x, z, j + 1, cs', hx, hy', by omega, rfl, rfl, by go_num, HC6, HT6, HUX, HRes⟩
          case measure => simp [intOf]; omega
    · have HRes : Hid (R = cs') := Lib.hid (by rw [← HFN.out, show n - j = 0 by omega, HZ.out])
      go_wp2_with fail
      go_end0
      exact ⟨rfl, by rw [HRes.out]; exact HT.out, HCG.out⟩
set_option maxRecDepth 100000 in
set_option maxHeartbeats 1000000 in
theorem del_there {b c kc n : Nat} {ka kb : Int} {cs : Nat → SC Fl} {m : Int} {k : Fl} {i : Nat} (hf : okF k) {w : World} (h : Tab w b c kc n ka kb cs m) (hfi : findIn cs n k n (hm ka kb n k) = some i) (hu : (cs i).used = true) (hm0 : 0 ≤ m) (hm1 : m ≤ 256) :
    Calls Tryz.prog 60 #[.pointer (some ⟨b, 0, none⟩), k.v] w fun e w' =>
      e = .returned (.bool true) ∧ Tab w' b c kc n ka kb (closeIn (hm ka kb n) n n (upd cs i free) i i) (m - 1) ∧ Chg [b, c] w w' := by
  have hA := (Chg.refl [] w).alloc (.cells (arrF k) 38)
  have hB : Blk (w.alloc (.cells (arrF k) 38)) w.heap.size 38 (arrF k) := Blk.new _ _ _
  have hT := h.chg0 hA
  have h0 := hT.c0
  have hi := findIn_lt h.lo (hm_lt ka kb h.lo k) hfi
  have hn' := h.hi
  have F1 := Lib.hid (find_any hf hT)
  rw [hfi] at F1
  have HI := Lib.hid (And.intro hA hT)
  have HU := Lib.hid hu
  clear h hT hA hf hfi hu
  go_enter Tryz.func60, Tryz.ntmps60
  go_upto_region 1 with fail
  generalize hw1 : (w.alloc (.cells (arrF k) 38)) = w1 at *
  clear hw1
  generalize w.heap.size = g at *
  go_wp2_with fail
  refine (is_any b kc _ h0).mono ?_
  rintro e w' ⟨rfl, rfl⟩
  clear h0
  go_wp2_with (first
    | (refine wpList_load_blk rfl 38 (.tmp 3) rfl hB rfl _ Tryz.underlying38 rfl infF ?_)
    | fail)
  refine F1.out.mono ?_
  rintro e w2 ⟨rfl, hc2⟩
  have ht := HI.out.2.chg0 hc2
  have HC2 := Lib.hid (HI.out.1.trans hc2)
  have HT2 := Lib.hid ht
  have h1 := ht.c1
  have h2 := ht.c2
  have f2 := ht.f 2
  have g0 : w2.cell? ⟨c, i * 36, none⟩ = some (.bool true) := ht.cellsA (j := 0) hi (by rw [encS, HU.out]; rfl)
  have hiI : (i : Int) < (n : Int) := by omega
  have hmw : IntKind.i64.wrap (m - 1) = m - 1 := by rw [IntKind.wrap_i64]; omega
  have hR2 := ht.row
  have hne := ht.ne
  have hil : i < ((List.range n).map cs).length := by simpa using hi
  have hls : ((List.range n).map cs).length * 36 ≤ n * 36 := by simp
  clear hc2 F1 hB ht HI
  go_upto_region 7 with (first
    | (refine wpList_store_row encS_len rfl 126 (.tmp 35) (.tmp 34) rfl hR2 hil hls (free : SC Fl) rfl rfl infS (encS_one _) ?_; intro w3 hR3 hc3)
    | fail)
  have ht3 := HT2.out.store hi okF0 hR3 hc3
  have HC3 := Lib.hid ((HC2.out.more (by simp)).trans (hc3.more (T := [b, c]) (by simp)))
  have h23 := ht3.c2
  have f23 := ht3.f 2
  have HT3 := Lib.hid (ht3.many (m - 1))
  have HC4 : Hid (Chg [b, c] w (w3.setCell ⟨b, 2, none⟩ (.int .i64 (m - 1)))) := Lib.hid (HC3.out.setCell (p := ⟨b, 2, none⟩) (.inl (by simp)) _)
  clear hR2 hil hls h1 h2 f2 g0 ht3 hR3 hc3 HT2 HC3 HC2
  go_wp2_with fail
  generalize (w3.setCell ⟨b, 2, none⟩ (.int .i64 (m - 1))) = w4 at *
  refine (close_any i HT3.out hi (by rw [upd_same]; rfl)).mono ?_
  rintro e w5 ⟨rfl, ht5, hc5⟩
  have HFIN := Lib.hid (And.intro ht5 (HC4.out.trans (hc5.more (by simp))))
  clear ht5 hc5 HT3 HC4 h23 f23
  go_wp2_with fail
  go_ret
  exact ⟨rfl, HFIN.out.1, HFIN.out.2⟩
theorem infoC : (Tryz.prog.info? 126).map (fun i => (i.zero, i.size, i.bytes)) = some (some (.agg (arrS free)), 36, 64) := by kernel_rfl
set_option maxRecDepth 100000 in
set_option maxHeartbeats 1000000 in
theorem new_any (n kc : Nat) {ka kb : Int} {w : World} (lo : 1 ≤ n) (hi : n ≤ 256) (hK : Blk w kc 24 #[.int .u64 ka, .int .u64 kb]) :
    Calls Tryz.prog 24 #[.int .i64 n, hv kc] w fun e w' =>
      ∃ b c, e = .returned (.pointer (some ⟨b, 0, none⟩)) ∧ w.heap.size ≤ b ∧ w.heap.size ≤ c ∧ Tab w' b c kc n ka kb (fun _ => free) 0 ∧ Chg [] w w' := by
  have hnf := run_eql_func_nil (P := Tryz.prog) Tryz.underlying72
  obtain ⟨i0, hi0, hz0, hz1, hz2⟩ := info_parts infoC
  have hmk := fun W => make_run (P := Tryz.prog) 92 126 i0 _ Tryz.underlying92 hi0 hz0 n n (Nat.le_refl _) (by rw [hz2]; omega) (by omega) W
  rw [hz1] at hmk
  have d1 : decide ((n : Int) < 1) = false := by simp; omega
  have d2 : decide ((256 : Int) < n) = false := by simp; omega
  have d3 : decide (n < 1) = false := by simp; omega
  have d4 : decide (256 < n) = false := by simp; omega
  clear hi0 hz0 hz1 hz2
  go_enter Tryz.func24, Tryz.ntmps24
  go_wp2_with fail
  go_ret
  have hr : RowB encS 36 ((w.alloc (.cells (madeCells (arrS free) (n * 36)) 126)).alloc (.cells #[hv kc, .slice (some ⟨w.heap.size, 0, none⟩) n n, .int .i64 0] 94)) w.heap.size 126 (n * 36) ((List.range n).map fun _ => free) := by
    have e : (List.range n).map (fun _ => (free : SC Fl)) = List.replicate n free := by rw [List.map_const', List.length_range]
    rw [e]
    exact RowB.made encS_len (by omega) free n ((Blk.new _ _ _).alloc _)
  have hC : Chg [] w ((w.alloc (.cells (madeCells (arrS free) (n * 36)) 126)).alloc (.cells #[hv kc, .slice (some ⟨w.heap.size, 0, none⟩) n n, .int .i64 0] 94)) := ((Chg.refl _ _).alloc _).alloc _
  have hb : Blk ((w.alloc (.cells (madeCells (arrS free) (n * 36)) 126)).alloc (.cells #[hv kc, .slice (some ⟨w.heap.size, 0, none⟩) n n, .int .i64 0] 94)) (w.heap.size + 1) 94 #[hv kc, .slice (some ⟨w.heap.size, 0, none⟩) n n, .int .i64 0] := Blk.new' (by simp)
  exact ⟨w.heap.size + 1, w.heap.size, rfl, by omega, Nat.le_refl _, ⟨lo, hi, hb, hK.chg hC (by simp), hr, fun i _ => okF0⟩, hC⟩
end Go.Proofs.YtldgdpekhjignaaGreat.Fs
