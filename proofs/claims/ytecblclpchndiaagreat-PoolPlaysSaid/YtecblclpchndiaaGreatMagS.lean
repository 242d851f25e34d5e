/-
  PLAIN: each member's share of a table. No condition.
-/
import Derived.Test.YtecblclpchndiaaGreatMagR
set_option linter.unusedVariables false
set_option linter.unusedSimpArgs false
namespace Go.Proofs.YtecblclpchndiaaGreat

/-- A round of members (node, weight), each with its order. -/
def roundOf (ord : Int → List Nat) (M : List (Int × Nat)) : List (Int × List Nat) := M.flatMap fun x => List.replicate x.2 (x.1, ord x.1)
theorem roundOf_mem {ord : Int → List Nat} {M : List (Int × Nat)} {y : Int × List Nat} (h : y ∈ roundOf ord M) : y.1 ∈ M.map (·.1) ∧ y.2 = ord y.1 := by
  obtain ⟨x, hx, hy⟩ := List.mem_flatMap.1 h
  obtain ⟨_, rfl⟩ := List.mem_replicate.1 hy
  exact ⟨List.mem_map.2 ⟨x, hx, rfl⟩, rfl⟩
theorem roundOf_none {ord : Int → List Nat} {M : List (Int × Nat)} {n : Int} (h : n ∉ M.map (·.1)) : ((roundOf ord M).map (·.1)).count n = 0 := by
  rw [List.count_eq_zero]
  intro hm
  obtain ⟨y, hy, rfl⟩ := List.mem_map.1 hm
  exact h (roundOf_mem hy).1
theorem roundOf_count {ord : Int → List Nat} : ∀ {M : List (Int × Nat)} {x : Int × Nat}, (M.map (·.1)).Nodup → x ∈ M → ((roundOf ord M).map (·.1)).count x.1 = x.2
  | [], x, _, h => by simp at h
  | a :: M, x, hn, h => by
    rw [List.map_cons, List.nodup_cons] at hn
    have e : roundOf ord (a :: M) = List.replicate a.2 (a.1, ord a.1) ++ roundOf ord M := rfl
    rw [e, List.map_append, List.count_append, List.map_replicate]
    rcases List.mem_cons.1 h with rfl | hx
    · rw [roundOf_none hn.1, List.count_replicate_self]; rfl
    · have hne : a.1 ≠ x.1 := fun e => hn.1 (by rw [e]; exact List.mem_map.2 ⟨x, hx, rfl⟩)
      rw [roundOf_count hn.2 hx, List.count_replicate]
      simp [hne]
theorem flat_count {r : List (Int × List Nat)} (x : Int) : ∀ q : Nat, (((List.replicate q r).flatten).map (·.1)).count x = q * (r.map (·.1)).count x
  | 0 => by simp
  | q + 1 => by
    rw [List.replicate_succ, List.flatten_cons, List.map_append, List.count_append, flat_count x q, Nat.succ_mul]
    omega
theorem turnsS_count (r : List (Int × List Nat)) (n : Nat) (x : Int) : ((turnsS r n).map (·.1)).count x = n / r.length * (r.map (·.1)).count x + ((r.take (n % r.length)).map (·.1)).count x := by
  unfold turnsS
  rw [List.map_append, List.count_append, flat_count]
theorem take_count (r : List (Int × List Nat)) (p : Nat) (x : Int) : ((r.take p).map (·.1)).count x ≤ (r.map (·.1)).count x := ((List.take_sublist p r).map _).count_le _
theorem turnsS_len {r : List (Int × List Nat)} (h0 : 0 < r.length) (n : Nat) : (turnsS r n).length = n := by
  unfold turnsS
  rw [List.length_append, List.length_flatten, List.map_replicate, List.sum_replicate_nat, List.length_take]
  have h1 := Nat.mod_lt n h0
  have h2 := Nat.div_add_mod n r.length
  rw [Nat.mul_comm] at h2
  omega
theorem turnsS_mem {r : List (Int × List Nat)} {n : Nat} {x : Int × List Nat} (h : x ∈ turnsS r n) : x ∈ r := by
  unfold turnsS at h
  rcases List.mem_append.1 h with h | h
  · obtain ⟨l, hl, hx⟩ := List.mem_flatten.1 h
    obtain ⟨_, rfl⟩ := List.mem_replicate.1 hl
    exact hx
  · exact List.mem_of_mem_take h
/-- The statement's bound. -/
theorem share_le (q wi wj pi pj : Nat) (hi : pi ≤ wi) : (q * wi + pi) * wj ≤ (q * wj + pj) * wi + wi * wj := by
  rw [Nat.add_mul, Nat.add_mul, Nat.mul_right_comm q wj wi]
  have := Nat.mul_le_mul_right wj hi
  omega
theorem one_sum {a : Int} : ∀ {K : List Int}, K.Nodup → a ∈ K → (K.map fun k => if a = k then 1 else 0).sum = 1
  | [], _, h => by simp at h
  | k :: K, hn, h => by
    rw [List.nodup_cons] at hn
    rw [List.map_cons, List.sum_cons]
    have hz : ∀ {K : List Int}, a ∉ K → (K.map fun k => if a = k then 1 else 0).sum = 0 := by
      intro K
      induction K with
      | nil => intro _; rfl
      | cons b K ih =>
        intro hb
        rw [List.mem_cons, not_or] at hb
        rw [List.map_cons, List.sum_cons, if_neg hb.1, ih hb.2]
    rcases List.mem_cons.1 h with rfl | h
    · rw [if_pos rfl, hz hn.1]
    · rw [if_neg (fun e => hn.1 (by rw [← e]; exact h)), one_sum hn.2 h]
theorem sum_counts {K : List Int} (hn : K.Nodup) : ∀ {L : List Int}, (∀ a ∈ L, a ∈ K) → (K.map fun k => L.count k).sum = L.length
  | [], _ => by
    have : ∀ K : List Int, (K.map fun k => ([] : List Int).count k).sum = 0 := by
      intro K
      induction K with
      | nil => rfl
      | cons b K ih => rw [List.map_cons, List.sum_cons, ih]; rfl
    exact this K
  | a :: L, h => by
    have ih := sum_counts hn (L := L) (fun b hb => h b (List.mem_cons_of_mem _ hb))
    have h1 := one_sum (a := a) hn (h a (List.mem_cons_self ..))
    have e : ∀ K : List Int, (K.map fun k => (a :: L).count k).sum = (K.map fun k => L.count k).sum + (K.map fun k => if a = k then 1 else 0).sum := by
      intro K
      induction K with
      | nil => rfl
      | cons b K ih =>
        simp only [List.map_cons, List.sum_cons] at ih ⊢
        rw [ih, List.count_cons]
        by_cases hab : a = b <;> simp [hab] <;> omega
    rw [e, ih, h1, List.length_cons]
end Go.Proofs.YtecblclpchndiaaGreat
