/-
  PLAIN: the order in which a member takes slots: all slots of a table, each once, where their number is a prime. No condition.
-/
import Derived.Test.YtecblclpchndiaaGreatMagP
set_option linter.unusedVariables false
set_option linter.unusedSimpArgs false
namespace Go.Proofs.YtecblclpchndiaaGreat

/-- A prime number, as the code looks for one. -/
def prS (n : Nat) : Prop := 2 ≤ n ∧ ∀ d, 2 ≤ d → d * d ≤ n → n % d ≠ 0
theorem prS_coprime {m s : Nat} (h : prS m) (h1 : 1 ≤ s) (h2 : s < m) : Nat.gcd m s = 1 := by
  have g1 : Nat.gcd m s ∣ m := Nat.gcd_dvd_left m s
  have g2 : Nat.gcd m s ∣ s := Nat.gcd_dvd_right m s
  have hle : Nat.gcd m s ≤ s := Nat.le_of_dvd (by omega) g2
  have hpos : 0 < Nat.gcd m s := Nat.gcd_pos_of_pos_right m (by omega)
  generalize Nat.gcd m s = g at *
  by_cases hg : g = 1
  · exact hg
  · exfalso
    obtain ⟨q, hq⟩ := g1
    have hq2 : 2 ≤ q := by
      rcases Nat.lt_or_ge q 2 with hlt | hge
      · have : q = 0 ∨ q = 1 := by omega
        rcases this with rfl | rfl
        · simp at hq; omega
        · simp at hq; omega
      · exact hge
    rcases Nat.le_total g q with hgq | hgq
    · exact h.2 g (by omega) (by rw [hq]; exact Nat.mul_le_mul_left g hgq) (by rw [hq]; exact Nat.mul_mod_right g q)
    · exact h.2 q hq2 (by rw [hq]; exact Nat.mul_le_mul_right q hgq) (by rw [hq]; exact Nat.mul_mod_left g q)
/-- The document looks at other divisors. -/
theorem prS_ref {n : Nat} (h2 : 2 ≤ n) (hn : n ≤ 1000000) : (∀ d, 2 ≤ d → d * d ≤ n → n % d ≠ 0) ↔ (∀ d, 2 ≤ d → d ≤ 1000 → d < n → n % d ≠ 0) := by
  constructor
  · intro h d hd _ hlt he
    obtain ⟨q, hq⟩ := Nat.dvd_of_mod_eq_zero he
    have hq2 : 2 ≤ q := by
      rcases Nat.lt_or_ge q 2 with hl | hg
      · have : q = 0 ∨ q = 1 := by omega
        rcases this with rfl | rfl
        · simp at hq; omega
        · simp at hq; omega
      · exact hg
    rcases Nat.le_total d q with hdq | hdq
    · exact h d hd (by rw [hq]; exact Nat.mul_le_mul_left d hdq) he
    · exact h q hq2 (by rw [hq]; exact Nat.mul_le_mul_right q hdq) (by rw [hq]; exact Nat.mul_mod_left d q)
  · intro h d hd hdd
    have h1 : d ≤ 1000 := by
      rcases Nat.lt_or_ge 1000 d with hl | hg
      · have := Nat.mul_le_mul (show 1001 ≤ d from hl) (show 1001 ≤ d from hl)
        omega
      · exact hg
    have h3 : d < n := by
      have := Nat.mul_le_mul_right d hd
      omega
    exact h d hd h1 h3
/-- The order. -/
def stepsS (off skip m : Nat) : List Nat := (List.range m).map fun i => (off + i * skip) % m
theorem stepsS_len (off skip m : Nat) : (stepsS off skip m).length = m := by simp [stepsS]
theorem stepsS_lt {off skip m : Nat} (hm : 0 < m) : ∀ j ∈ stepsS off skip m, j < m := by
  intro j hj
  obtain ⟨i, _, rfl⟩ := List.mem_map.1 hj
  exact Nat.mod_lt _ hm
theorem step_ne {off skip m i j : Nat} (h : prS m) (h1 : 1 ≤ skip) (h2 : skip < m) (hij : i < j) (hj : j < m) : (off + i * skip) % m ≠ (off + j * skip) % m := by
  intro e
  have hd : m ∣ (off + j * skip) - (off + i * skip) := Nat.dvd_of_mod_eq_zero (Nat.sub_mod_eq_zero_of_mod_eq e.symm)
  have e2 : (off + j * skip) - (off + i * skip) = (j - i) * skip := by
    rw [Nat.sub_mul]; omega
  rw [e2] at hd
  have hc : Nat.Coprime m skip := prS_coprime h h1 h2
  have := hc.dvd_of_dvd_mul_right hd
  have := Nat.le_of_dvd (by omega) this
  omega
theorem stepsS_nodup {off skip m : Nat} (h : prS m) (h1 : 1 ≤ skip) (h2 : skip < m) : (stepsS off skip m).Nodup := by
  unfold stepsS List.Nodup
  rw [List.pairwise_map]
  refine (List.pairwise_lt_range (n := m)).imp_of_mem ?_
  intro a b ha hb hab
  exact step_ne h h1 h2 hab (List.mem_range.1 hb)
theorem stepsS_all {off skip m : Nat} (h : prS m) (h1 : 1 ≤ skip) (h2 : skip < m) {j : Nat} (hj : j < m) : j ∈ stepsS off skip m := by
  by_cases hm : j ∈ stepsS off skip m
  · exact hm
  · exfalso
    have hn : (j :: stepsS off skip m).Nodup := List.nodup_cons.2 ⟨hm, stepsS_nodup h h1 h2⟩
    have := hn.length_le_of_subset (l₂ := List.range m) (fun x hx => by
      rcases List.mem_cons.1 hx with rfl | hx
      · exact List.mem_range.2 hj
      · exact List.mem_range.2 (stepsS_lt (by omega) x hx))
    rw [List.length_cons, stepsS_len, List.length_range] at this
    omega
end Go.Proofs.YtecblclpchndiaaGreat
