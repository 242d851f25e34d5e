/-
  THE TABLE AND THE PAGE's LIST: what the table's cells hold is the list; put, get and take-out agree. Conditions: 1 to 256 cells.
-/
import Derived.Test.YtelbaooifmkpkaaSlotW2
import Derived.Test.YtelbaooifmkpkaaSlotLaw
import Derived.Test.YtelbaooifmkpkaaRef21
set_option linter.unusedVariables false
set_option linter.unusedSimpArgs false
namespace Go.Proofs.Ytelbaooifmkpkaa

structure TL (cs : Nat → SC) (n : Nat) (l : List PR) : Prop where
  inv : TInv (homeOf n) cs n
  nd : (l.map PR.k).Nodup
  ent : ∀ k v, Ent cs n k v ↔ ⟨k, v⟩ ∈ l
  cnt : cnt cs n = l.length

theorem findP_none {l : List PR} {k : Int} (h : findP l k = none) : ∀ p, p ∈ l → p.k ≠ k := by
  unfold findP at h
  rw [List.findIdx?_eq_none_iff] at h
  intro p hp
  simpa using h p hp
theorem nd_get {l : List PR} (h : (l.map PR.k).Nodup) {i j : Nat} {p q : PR} (hi : l[i]? = some p) (hj : l[j]? = some q) (e : p.k = q.k) : i = j := by
  have hl : i < l.length := (List.getElem?_eq_some_iff.1 hi).1
  have h1 : (l.map PR.k)[i]? = some p.k := by simp [hi]
  have h2 : (l.map PR.k)[j]? = some q.k := by simp [hj]
  exact List.getElem?_inj (by simpa using hl) h |>.1 (by rw [h1, h2, e])
theorem nd_mem {l : List PR} (h : (l.map PR.k).Nodup) {p q : PR} (hi : p ∈ l) (hj : q ∈ l) (e : p.k = q.k) : p = q := by
  obtain ⟨i, hi⟩ := List.mem_iff_getElem?.1 hi
  obtain ⟨j, hj⟩ := List.mem_iff_getElem?.1 hj
  have := nd_get h hi hj e
  subst this
  rw [hi] at hj
  injection hj

section
variable {cs : Nat → SC} {n : Nat} {l : List PR}
theorem TL.empty (h1 : 1 ≤ n) : TL (fun _ => free) n [] := by
  refine ⟨⟨h1, fun k => homeOf_lt n k h1, fun i j _ _ h => (by cases h), 0, by omega, fun j _ h => (by cases h), fun j i _ _ h => (by cases h)⟩, by simp, fun k v => ?_, ?_⟩
  · constructor
    · rintro ⟨i, _, h⟩; cases h
    · intro h; cases h
  · have : ∀ m, Go.Proofs.Ytelbaooifmkpkaa.cnt (fun _ => free) m = 0 := by
      intro m
      induction m with
      | zero => rfl
      | succ m ih => unfold Go.Proofs.Ytelbaooifmkpkaa.cnt; rw [ih]; rfl
    exact this n
theorem TL.len (h : TL cs n l) : l.length ≤ n := h.cnt ▸ cnt_le cs n
/-- A key of the list lies in a cell, and is found there. -/
theorem TL.there (h : TL cs n l) {i : Nat} {p : PR} (hi : l[i]? = some p) : ∃ j, j < n ∧ cs j = ⟨true, p.k, p.v⟩ ∧ findIn cs n p.k n (homeOf n p.k) = some j := by
  obtain ⟨j, hj, hc⟩ := (h.ent p.k p.v).2 (List.mem_iff_getElem?.2 ⟨i, hi⟩)
  have := h.inv.find_there hj (by rw [hc])
  rw [hc] at this
  exact ⟨j, hj, hc, this⟩
/-- One that is not in the list lies in no cell. -/
theorem TL.not_there (h : TL cs n l) {k : Int} (hk : findP l k = none) : ∀ j, j < n → (cs j).used = true → (cs j).k ≠ k := by
  intro j hj hu e
  have := (h.ent (cs j).k (cs j).v).1 ⟨j, hj, SC.eta_used hu⟩
  exact findP_none hk _ this e

theorem TL.get (h : TL cs n l) (k : Int) : getV cs n k = (findP l k).bind fun i => l[i]?.map PR.v := by
  cases hf : findP l k with
  | some i =>
    obtain ⟨p, hp, hk, hlt⟩ := findP_some hf
    subst hk
    obtain ⟨j, hj, hc, hfi⟩ := h.there hp
    rw [(getV_some hfi).1, hc]
    simp [hp]
  | none =>
    have hn := h.not_there hf
    rcases h.inv.find_new k hn with ⟨t, _, hfi, hu, _⟩ | ⟨hfi, _⟩
    · rw [(getV_some hfi).1, hu]; rfl
    · rw [(getV_none hfi).1]; rfl

theorem TL.put (h : TL cs n l) (k v : Int) : hasRoom cs n k = (putP l n k v).2 ∧ TL (putC cs n k v) n (putP l n k v).1 ∧ putM cs n k l.length = (putP l n k v).1.length := by
  cases hf : findP l k with
  | some i =>
    obtain ⟨p, hp, hk, hlt⟩ := findP_some hf
    subst hk
    have hr : putP l n p.k v = (l.set i ⟨p.k, v⟩, true) := by unfold putP; rw [hf]
    obtain ⟨j, hj, hc, hfi⟩ := h.there hp
    obtain ⟨e1, e2, e3⟩ := put_some hfi v l.length
    have hu : (cs j).used = true := by rw [hc]
    have hkj : (cs j).k = p.k := by rw [hc]
    rw [hr, e1, e2, e3, hu]
    refine ⟨rfl, ⟨?_, ?_, fun k' v' => ?_, ?_⟩, by simp⟩
    · have := h.inv.put_there hj hu v
      rw [hkj] at this
      exact this
    · have : (l.set i ⟨p.k, v⟩).map PR.k = l.map PR.k := by
        apply List.ext_getElem?
        intro m
        simp only [List.getElem?_map, List.getElem?_set]
        split
        · next e => subst e; rw [hp]; rfl
        · rfl
      rw [this]; exact h.nd
    · constructor
      · rintro ⟨m, hm, hx⟩
        by_cases e : m = j
        · subst e
          rw [upd_same] at hx
          cases hx
          exact List.mem_iff_getElem?.2 ⟨i, by rw [List.getElem?_set, if_pos rfl, if_pos hlt]⟩
        · rw [upd_other _ _ e] at hx
          obtain ⟨q, hq⟩ := List.mem_iff_getElem?.1 ((h.ent k' v').1 ⟨m, hm, hx⟩)
          have : q ≠ i := by
            rintro rfl
            rw [hp] at hq
            cases hq
            exact e (h.inv.uniq m j hm hj (by rw [hx]) hu (by rw [hx, hkj]))
          exact List.mem_iff_getElem?.2 ⟨q, by rw [List.getElem?_set, if_neg (fun e => this e.symm)]; exact hq⟩
      · intro hx
        obtain ⟨q, hq⟩ := List.mem_iff_getElem?.1 hx
        rw [List.getElem?_set] at hq
        split at hq
        · next e =>
          cases hq
          exact ⟨j, hj, by rw [upd_same]⟩
        · next e =>
          obtain ⟨m, hm, hc'⟩ := (h.ent k' v').2 (List.mem_iff_getElem?.2 ⟨q, hq⟩)
          refine ⟨m, hm, ?_⟩
          rw [upd_other]
          · exact hc'
          · rintro rfl
            rw [hc] at hc'
            cases hc'
            exact e (nd_get h.nd hp hq rfl)
    · have := cnt_upd cs j ⟨true, p.k, v⟩ hj
      rw [hu] at this
      simp at this
      rw [List.length_set, ← h.cnt]
      omega
  | none =>
    have hn := h.not_there hf
    rcases h.inv.find_new k hn with ⟨t, ht, hfi, hu, hb⟩ | ⟨hfi, hall⟩
    · have hlt : l.length < n := by rw [← h.cnt]; exact cnt_free (plus_spec (homeOf_lt n k h.inv.lo) ht).1 hu
      have hr : putP l n k v = (l ++ [⟨k, v⟩], true) := by unfold putP; rw [hf]; simp; omega
      obtain ⟨e1, e2, e3⟩ := put_some hfi v l.length
      rw [hr, e1, e2, e3, hu]
      have hi := (plus_spec (homeOf_lt n k h.inv.lo) ht).1
      refine ⟨rfl, ⟨h.inv.put_new k v hn ht hu hb, ?_, fun k' v' => ?_, ?_⟩, by simp⟩
      · rw [List.map_append, List.nodup_append]
        refine ⟨h.nd, by simp, fun a ha b hb' => ?_⟩
        obtain ⟨p, hp, rfl⟩ := List.mem_map.1 ha
        simp at hb'
        subst hb'
        exact findP_none hf p hp
      · rw [List.mem_append, List.mem_singleton, ← h.ent]
        constructor
        · rintro ⟨m, hm, hx⟩
          by_cases e : m = (homeOf n k + t) % n
          · subst e; rw [upd_same] at hx; cases hx; exact .inr rfl
          · rw [upd_other _ _ e] at hx; exact .inl ⟨m, hm, hx⟩
        · rintro (⟨m, hm, hx⟩ | hx)
          · refine ⟨m, hm, ?_⟩
            rw [upd_other]
            · exact hx
            · rintro rfl; rw [hx] at hu; cases hu
          · cases hx; exact ⟨_, hi, by rw [upd_same]⟩
      · have := cnt_upd cs _ ⟨true, k, v⟩ hi
        rw [hu] at this
        simp at this
        rw [List.length_append, ← h.cnt]
        simp
        omega
    · have hlt : (n : Int) ≤ l.length := by rw [← h.cnt, cnt_full hall]; omega
      have hr : putP l n k v = (l, false) := by unfold putP; rw [hf]; simp; omega
      obtain ⟨e1, e2, e3⟩ := put_none hfi v l.length
      rw [hr, e1, e2, e3]
      exact ⟨rfl, h, rfl⟩

theorem TL.del (h : TL cs n l) (k : Int) : (getV cs n k).isSome = (delP l k).2 ∧ TL (delC cs n k) n (delP l k).1 ∧ (l.length : Int) - (if (getV cs n k).isSome then 1 else 0) = (delP l k).1.length := by
  cases hf : findP l k with
  | some i =>
    obtain ⟨p, hp, hk, hlt⟩ := findP_some hf
    subst hk
    have hr : delP l p.k = (l.eraseIdx i, true) := by unfold delP; rw [hf]
    obtain ⟨j, hj, hc, hfi⟩ := h.there hp
    obtain ⟨e1, e2⟩ := getV_some hfi
    have hu : (cs j).used = true := by rw [hc]
    have hkj : (cs j).k = p.k := by rw [hc]
    rw [hr, e1, e2, hu]
    have hlen : (l.eraseIdx i).length = l.length - 1 := List.length_eraseIdx_of_lt hlt
    obtain ⟨P, hP, hle, hmid⟩ := h.inv.lin
    have uo : ∀ m, (upd cs j free m).used = true → m ≠ j ∧ upd cs j free m = cs m := fun m hm => by
      by_cases e : m = j
      · subst e; rw [upd_same] at hm; cases hm
      · exact ⟨e, upd_other _ _ e⟩
    have hg : Gap (homeOf n) (upd cs j free) n P j j := by
      refine ⟨hP, hj, hj, Nat.le_refl _, by rw [upd_same]; rfl, fun a ha hau => ?_, fun a b ha hb hau h1 h2 => ?_⟩
      · obtain ⟨_, e⟩ := uo a hau; rw [e] at hau ⊢; exact hle a ha hau
      · obtain ⟨_, e⟩ := uo a hau
        rw [e] at hau h1
        by_cases eb : b = j
        · subst eb; exact .inr ⟨rfl, h2⟩
        · left; rw [upd_other _ _ eb]; exact hmid a b ha hb hau h1 h2
    obtain ⟨a1, a2, a3, a4⟩ := close_law (fun k => homeOf_lt n k h.inv.lo) n _ j j hg (by omega) (fun a b ha hb hau hbu e => by
      obtain ⟨_, ea⟩ := uo a hau
      obtain ⟨_, eb⟩ := uo b hbu
      rw [ea] at hau e; rw [eb] at hbu e
      exact h.inv.uniq a b ha hb hau hbu e)
    refine ⟨rfl, ⟨⟨h.inv.lo, h.inv.home, a4, P, a1⟩, ?_, fun k' v' => (a2 k' v').trans ?_, ?_⟩, by simp; omega⟩
    · exact h.nd.sublist ((List.eraseIdx_sublist l i).map _)
    · constructor
      · rintro ⟨m, hm, hx⟩
        obtain ⟨ej, e3⟩ := uo m (by rw [hx])
        rw [e3] at hx
        obtain ⟨q, hq⟩ := List.mem_iff_getElem?.1 ((h.ent k' v').1 ⟨m, hm, hx⟩)
        have hqi : q ≠ i := by
          rintro rfl
          rw [hp] at hq
          cases hq
          exact ej (h.inv.uniq m j hm hj (by rw [hx]) hu (by rw [hx, hkj]))
        rw [List.mem_eraseIdx_iff_getElem?]
        exact ⟨q, hqi, hq⟩
      · intro hx
        rw [List.mem_eraseIdx_iff_getElem?] at hx
        obtain ⟨q, hqi, hq⟩ := hx
        obtain ⟨m, hm, hc'⟩ := (h.ent k' v').2 (List.mem_iff_getElem?.2 ⟨q, hq⟩)
        refine ⟨m, hm, ?_⟩
        rw [upd_other]
        · exact hc'
        · rintro rfl
          rw [hc] at hc'
          cases hc'
          exact hqi (nd_get h.nd hq hp rfl)
    · rw [if_pos rfl]
      show _ = (l.eraseIdx i).length
      rw [a3, hlen]
      have := cnt_upd cs j free hj
      rw [hu] at this
      have hfu : free.used = false := rfl
      rw [hfu] at this
      simp at this
      have := h.cnt
      omega
  | none =>
    have hr : delP l k = (l, false) := by unfold delP; rw [hf]
    have hn := h.not_there hf
    rcases h.inv.find_new k hn with ⟨t, _, hfi, hu, _⟩ | ⟨hfi, _⟩
    · obtain ⟨e1, e2⟩ := getV_some hfi
      rw [hr, e1, e2, hu]
      exact ⟨rfl, h, by simp⟩
    · obtain ⟨e1, e2⟩ := getV_none hfi
      rw [hr, e1, e2]
      exact ⟨rfl, h, by simp⟩
end
end Go.Proofs.Ytelbaooifmkpkaa
