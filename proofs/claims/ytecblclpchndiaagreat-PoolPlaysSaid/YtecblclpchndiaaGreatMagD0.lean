/-
  PLAIN: what Build says, without memory; laws of tables. No condition.
-/
import Derived.Test.YtecblclpchndiaaGreatMagV
set_option linter.unusedVariables false
set_option linter.unusedSimpArgs false
namespace Go.Proofs.YtecblclpchndiaaGreat
open Go.RowKit

/-- What Build says, without memory. -/
def TB (ka kb m : Int) (L : List Mb) (tl : List Int) (e : Int) : Prop :=
  (¬ (m ≤ 251 ∧ IsPr m) ∧ e = 2 ∧ tl = []) ∨ ((m ≤ 251 ∧ IsPr m) ∧ rightM L ≠ 0 ∧ e = rightM L ∧ tl = []) ∨
    ((m ≤ 251 ∧ IsPr m) ∧ rightM L = 0 ∧ e = 0 ∧ ∃ L', L'.Perm L ∧ SrtM L' ∧ tl = tableS ka kb m.toNat L')
theorem BuildR.tb {ka kb m : Int} {L : List Mb} {w' : World} {base : Nat} {v' : Value} {e : Int} (h : BuildR ka kb m L w' base v' e) : ∃ tl, SlZ w' base v' tl ∧ TB ka kb m L tl e := by
  rcases h with ⟨h1, h2, h3⟩ | ⟨h1, h2, h3, h4⟩ | ⟨h1, h2, h3, L', h4, h5, h6⟩
  · exact ⟨[], by rw [h3]; exact Sl.nil _ _ _, .inl ⟨h1, h2, rfl⟩⟩
  · exact ⟨[], by rw [h4]; exact Sl.nil _ _ _, .inr (.inl ⟨h1, h2, h3, rfl⟩)⟩
  · exact ⟨_, h6, .inr (.inr ⟨h1, h2, h3, L', h4, h5, rfl⟩)⟩
theorem TB.one {ka kb m : Int} {L L2 : List Mb} {t t' : List Int} {e e' : Int} (h : TB ka kb m L t e) (h' : TB ka kb m L2 t' e') (hp : L.Perm L2) (hr : rightM L = rightM L2) : t = t' ∧ e = e' := by
  rcases h with ⟨h1, h2, h3⟩ | ⟨h1, h2, h3, h4⟩ | ⟨h1, h2, h3, L', h4, h5, h6⟩ <;> rcases h' with ⟨k1, k2, k3⟩ | ⟨k1, k2, k3, k4⟩ | ⟨k1, k2, k3, K', k4, k5, k6⟩
  · exact ⟨by rw [h3, k3], by omega⟩
  · exact absurd k1 h1
  · exact absurd k1 h1
  · exact absurd h1 k1
  · exact ⟨by rw [h4, k4], by rw [h3, k3, hr]⟩
  · rw [hr] at h2; exact absurd k2 h2
  · exact absurd h1 k1
  · rw [← hr] at k2; exact absurd h2 k2
  · have : L' = K' := srtM_one h5 k5 (h4.trans (hp.trans k4.symm))
    subst this
    exact ⟨by rw [h6, k6], by omega⟩
theorem scanM_of : ∀ {l : List Mb} {met : List Int}, (∀ x ∈ l, ¬ badM x) → (nodesM l).Nodup → (∀ x ∈ l, x.node ∉ met) → scanM met l = 0
  | [], _, _, _, _ => rfl
  | x :: l, met, h1, h2, h3 => by
    unfold nodesM at h2
    rw [List.map_cons, List.nodup_cons] at h2
    unfold scanM
    rw [if_neg (h1 x (List.mem_cons_self ..)), if_neg (h3 x (List.mem_cons_self ..))]
    refine scanM_of (fun y hy => h1 y (List.mem_cons_of_mem _ hy)) h2.2 (fun y hy hm => ?_)
    rcases List.mem_append.1 hm with hm | hm
    · exact h3 y (List.mem_cons_of_mem _ hy) hm
    · simp at hm
      exact h2.1 (by rw [← hm]; exact List.mem_map.2 ⟨y, hy, rfl⟩)
theorem OkM.right {l : List Mb} (h : OkM l) : rightM l = 0 := by
  unfold rightM
  rw [scanM_of (fun x hx => by have := h.ok x hx; unfold badM; omega) h.nd (by simp), if_pos rfl, if_neg (by have := h.len; omega)]
theorem OkM.perm {l l' : List Mb} (h : OkM l) (hp : l'.Perm l) : OkM l' := ⟨fun x hx => h.ok x (hp.mem_iff.1 hx), (hp.map Mb.node).nodup_iff.2 h.nd, by rw [hp.length_eq]; exact h.len⟩

/-! Shares. -/
theorem made_count (m : Nat) {x : Int} (hx : x ≠ 0) : (List.replicate m (0 : Int)).count x = 0 := by
  rw [List.count_replicate, if_neg]; simpa using fun e => hx (Eq.symm e)
theorem table_len (ka kb : Int) (m : Nat) (L : List Mb) : (tableS ka kb m L).length = m := by unfold tableS; rw [roundS_len]; simp
theorem table_count {ka kb : Int} {m : Nat} {L : List Mb} (hp : IsPr (m : Int)) (hL : ∀ x ∈ L, 1 ≤ x.node) (h0 : 0 < (roundM ka kb m L).length) {x : Int} (hx : x ≠ 0) :
    (tableS ka kb m L).count x = m / (roundM ka kb m L).length * ((roundM ka kb m L).map (·.1)).count x + (((roundM ka kb m L).take (m % (roundM ka kb m L).length)).map (·.1)).count x := by
  have hk := roundS_okS (m := m) (ka := ka) (kb := kb) hp hL
  unfold tableS
  rw [roundS_count hx _ _ (by simp only [List.length_replicate]; exact hk.sub fun y hy => turnsS_mem hy) (by rw [turnsS_len h0, freeN_made]; exact Nat.le_refl _), made_count m hx, Nat.zero_add, turnsS_count]
theorem table_full {ka kb : Int} {m : Nat} {L : List Mb} (hp : IsPr (m : Int)) (hL : ∀ x ∈ L, 1 ≤ x.node) (h0 : 0 < (roundM ka kb m L).length) : fullS (tableS ka kb m L) = true := by
  have hk := roundS_okS (m := m) (ka := ka) (kb := kb) hp hL
  have h1 := roundS_free (turnsS (roundM ka kb m L) m) (List.replicate m 0) (by simp only [List.length_replicate]; exact hk.sub fun y hy => turnsS_mem hy) (by rw [turnsS_len h0, freeN_made]; exact Nat.le_refl _)
  rw [turnsS_len h0, freeN_made] at h1
  exact freeN_full.1 (by unfold tableS; omega)
theorem mem_claim {o : List Nat} {n : Int} {t : List Int} {a : Int} (h : a ∈ claimS o n t) : a = n ∨ a ∈ t := by
  unfold claimS at h
  split at h
  · exact (List.mem_or_eq_of_mem_set h).symm
  · exact .inr h
theorem mem_round : ∀ {s : List (Int × List Nat)} {t : List Int} {a : Int}, a ∈ roundS s t → a ∈ s.map (·.1) ∨ a ∈ t
  | [], t, a, h => .inr h
  | x :: s, t, a, h => by
    unfold roundS at h
    rw [List.foldl_cons] at h
    rcases mem_round (s := s) (t := claimS x.2 x.1 t) h with h | h
    · exact .inl (by rw [List.map_cons]; exact List.mem_cons_of_mem _ h)
    · rcases mem_claim h with h | h
      · exact .inl (by rw [List.map_cons, h]; exact List.mem_cons_self ..)
      · exact .inr h
theorem memsM_nodes (L : List Mb) : (memsM L).map (·.1) = nodesM L := by simp [memsM, nodesM]
theorem table_nodes {ka kb : Int} {m : Nat} {L : List Mb} (hf : fullS (tableS ka kb m L) = true) : ∀ a ∈ tableS ka kb m L, a ∈ nodesM L := fun a ha => by
  have h0 : a ≠ 0 := by
    unfold fullS at hf
    rw [List.all_eq_true] at hf
    simpa using hf a ha
  rcases mem_round (s := turnsS (roundM ka kb m L) m) (t := List.replicate m 0) ha with h | h
  · obtain ⟨y, hy, rfl⟩ := List.mem_map.1 h
    have := (roundOf_mem (turnsS_mem hy)).1
    rwa [memsM_nodes] at this
  · exact absurd (List.eq_of_mem_replicate h) h0
/-- Members' shares of a table. -/
structure Shares (m : Nat) (L : List Mb) (t : List Int) : Prop where
  len : t.length = m
  sum : (L.map fun x => t.count x.node).sum = m
  none : ∀ x ∈ L, x.w = 0 → t.count x.node = 0
  le : ∀ x ∈ L, ∀ y ∈ L, (t.count x.node : Int) * y.w - (t.count y.node : Int) * x.w ≤ x.w * y.w
theorem shares_of {ka kb : Int} {m : Nat} {L L' : List Mb} (hp : IsPr (m : Int)) (hok : OkM L) (hperm : L'.Perm L) (hs : sumW L ≠ 0) : Shares m L (tableS ka kb m L') := by
  have hok' := hok.perm hperm
  have hL : ∀ x ∈ L', 1 ≤ x.node := fun x hx => (hok'.ok x hx).1
  have h0 : 0 < (roundM ka kb m L').length := by
    rcases Nat.eq_zero_or_pos (roundM ka kb m L').length with e | e
    · exfalso
      have h1 := round_pos (fun x hx => (hok'.ok x hx).2.2.1) (List.eq_nil_of_length_eq_zero e)
      exact hs (sum_of_zero (L := L) (fun x hx => h1 x (hperm.mem_iff.2 hx)))
    · exact e
  have hfull := table_full (ka := ka) (kb := kb) hp hL h0
  have hw : ∀ x ∈ L, ((roundM ka kb m L').map (·.1)).count x.node = x.w.toNat := fun x hx => by
    have hx' : (x.node, x.w.toNat) ∈ memsM L' := List.mem_map.2 ⟨x, hperm.mem_iff.2 hx, rfl⟩
    have := roundOf_count (ord := ordN ka kb m) (M := memsM L') (x := (x.node, x.w.toNat)) (by rw [memsM_nodes]; exact hok'.nd) hx'
    exact this
  have hc : ∀ x ∈ L, ∃ p, p ≤ x.w.toNat ∧ (tableS ka kb m L').count x.node = m / (roundM ka kb m L').length * x.w.toNat + p := fun x hx => by
    have hne : x.node ≠ 0 := by have := (hok.ok x hx).1; omega
    refine ⟨_, ?_, by rw [table_count hp hL h0 hne, hw x hx]⟩
    rw [← hw x hx]
    exact take_count _ _ _
  refine ⟨table_len _ _ _ _, ?_, fun x hx h => ?_, fun x hx y hy => ?_⟩
  · have h1 := sum_counts (K := nodesM L) hok.nd (L := tableS ka kb m L') (fun a ha => by
      have := table_nodes hfull a ha
      unfold nodesM at *
      exact (hperm.map _).mem_iff.1 this)
    rw [table_len] at h1
    unfold nodesM at h1
    rw [List.map_map] at h1
    exact h1
  · obtain ⟨p, hp1, hp2⟩ := hc x hx
    rw [hp2, h]
    rw [h] at hp1
    simp at hp1 ⊢
    exact hp1
  · obtain ⟨p, hp1, hp2⟩ := hc x hx
    obtain ⟨q, hq1, hq2⟩ := hc y hy
    have hx1 := hok.ok x hx
    have hy1 := hok.ok y hy
    have := share_le (m / (roundM ka kb m L').length) x.w.toNat y.w.toNat p q hp1
    rw [← hp2, ← hq2] at this
    have e1 : x.w = (x.w.toNat : Int) := by omega
    have e2 : y.w = (y.w.toNat : Int) := by omega
    generalize (tableS ka kb m L').count x.node = cx at *
    generalize (tableS ka kb m L').count y.node = cy at *
    generalize x.w.toNat = xw at *
    generalize y.w.toNat = yw at *
    rw [e1, e2]
    have h3 : ((cx * yw : Nat) : Int) ≤ ((cy * xw + xw * yw : Nat) : Int) := by omega
    push_cast at h3
    omega
theorem pr3 : IsPr 3 := by
  refine (IsPr.nat (N := 3)).2 ⟨by omega, by omega, by omega, fun d h1 h2 => ?_⟩
  have := Nat.mul_le_mul h1 h1
  omega

end Go.Proofs.YtecblclpchndiaaGreat
