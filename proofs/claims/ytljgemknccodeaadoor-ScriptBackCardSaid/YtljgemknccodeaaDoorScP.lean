/-
  PLAIN: scripts as text: pieces between a byte, numbers, hexadecimal digits. No program in sight.
-/
import Derived.Lib.Split
import Derived.Lib.AtoiAllCases
import Derived.Lib.ItoaLen
import Derived.Test.YtljgemknccodeaaDoorFrame
set_option linter.unusedVariables false
set_option linter.unusedSimpArgs false
namespace Go.Proofs.YtljgemknccodeaaDoor
open Go.Lib

abbrev Bs := List UInt8
/-! Pieces between a byte. -/
def spl (c : UInt8) : Bs → List Bs
  | [] => [[]]
  | b :: r => if b = c then [] :: spl c r else (b :: (spl c r).headD []) :: (spl c r).tail
def consH (p : Bs) (xs : List Bs) : List Bs := (p ++ xs.headD []) :: xs.tail
theorem spl_ne (c : UInt8) (l : Bs) : spl c l ≠ [] := by
  cases l with
  | nil => simp [spl]
  | cons b r => unfold spl; split <;> simp
theorem consH_nil {xs : List Bs} (h : xs ≠ []) : consH [] xs = xs := by
  cases xs with
  | nil => exact absurd rfl h
  | cons a t => simp [consH]
theorem consH_hit (c : UInt8) (p r : Bs) : consH p (spl c (c :: r)) = p :: spl c r := by simp [consH, spl]
theorem consH_miss {b c : UInt8} (h : b ≠ c) (p r : Bs) : consH p (spl c (b :: r)) = consH (p ++ [b]) (spl c r) := by simp [consH, spl, h]
theorem consH_end (c : UInt8) (p : Bs) : consH p (spl c []) = [p] := by simp [consH, spl]
theorem pre_one (c b : UInt8) (l : Bs) : [c].isPrefixOf (b :: l) = (c == b) := by simp [List.isPrefixOf]
theorem spl_miss {c : UInt8} : ∀ {s : Bs}, index s [c] = -1 → spl c s = [s]
  | [], _ => rfl
  | b :: l, h => by
    unfold index at h
    rw [pre_one] at h
    by_cases hb : c = b
    · subst hb; simp at h
    · have h1 : (c == b) = false := by simpa using hb
      rw [h1] at h
      simp only [Bool.false_eq_true, if_false] at h
      have hi : index l [c] = -1 := by
        have := index_ge l [c]
        split at h
        · next h2 => simpa using h2
        · omega
      unfold spl
      rw [if_neg (fun e => hb e.symm), spl_miss hi]
      rfl
theorem spl_hit {c : UInt8} : ∀ {s : Bs} {i : Nat}, index s [c] = i → spl c s = s.take i :: spl c (s.drop (i + 1))
  | [], i, h => by unfold index at h; simp at h
  | b :: l, i, h => by
    unfold index at h
    rw [pre_one] at h
    by_cases hb : c = b
    · subst hb
      simp at h
      obtain rfl : i = 0 := by omega
      simp [spl]
    · have h1 : (c == b) = false := by simpa using hb
      rw [h1] at h
      simp only [Bool.false_eq_true, if_false] at h
      have hg := index_ge l [c]
      split at h
      · omega
      · next h2 =>
        have h3 : index l [c] ≠ -1 := by simpa using h2
        obtain ⟨k, rfl⟩ : ∃ k, i = k + 1 := ⟨i - 1, by omega⟩
        have hi : index l [c] = (k : Nat) := by omega
        have e : spl c (b :: l) = (b :: (spl c l).headD []) :: (spl c l).tail := by rw [spl, if_neg (fun e => hb e.symm)]
        rw [e, spl_hit hi]
        simp
theorem splitK_spl (c : UInt8) : ∀ (k : Nat) (s : Bs), count s [c] ≤ k → splitK [c] 0 k s = spl c s := by
  intro k
  induction k with
  | zero =>
    intro s h
    have hi : index s [c] = -1 := by
      rcases Int.lt_or_le (index s [c]) 0 with h1 | h1
      · have := index_ge s [c]; omega
      · have := count_hit (s := s) (sub := [c]) (i := (index s [c]).toNat) (by simp) (by omega)
        omega
    rw [spl_miss hi]
    rfl
  | succ k ih =>
    intro s h
    unfold splitK
    by_cases hi : index s [c] = -1
    · rw [hi, spl_miss hi]; rfl
    · have hg := index_ge s [c]
      have hx : index s [c] = ((index s [c]).toNat : Nat) := by omega
      have hc := count_hit (s := s) (sub := [c]) (i := (index s [c]).toNat) (by simp) hx
      rw [if_neg (by simpa using hi), spl_hit hx]
      simp only [Nat.add_zero, List.length_singleton] at *
      rw [ih _ (by omega)]
theorem spl_len (c : UInt8) : ∀ l : Bs, (spl c l).length ≤ l.length + 1
  | [] => by simp [spl]
  | b :: r => by
    have := spl_len c r
    unfold spl
    split <;> simp <;> omega
theorem spl_mem_len (c : UInt8) : ∀ (l : Bs) (p : Bs), p ∈ spl c l → p.length ≤ l.length
  | [], p, h => by simp [spl] at h; simp [h]
  | b :: r, p, h => by
    unfold spl at h
    split at h
    · rcases List.mem_cons.1 h with rfl | h
      · simp
      · have := spl_mem_len c r p h; simp; omega
    · have hne := spl_ne c r
      cases hs : spl c r with
      | nil => exact absurd hs hne
      | cons a t =>
        rw [hs] at h
        simp only [List.headD_cons, List.tail_cons] at h
        rcases List.mem_cons.1 h with rfl | h
        · have := spl_mem_len c r a (by rw [hs]; simp); simp; omega
        · have := spl_mem_len c r p (by rw [hs]; simp [h]); simp; omega

/-! Numbers. -/
def I64s (n : Int) : Prop := -9223372036854775808 ≤ n ∧ n ≤ 9223372036854775807
def isDg (b : UInt8) : Prop := 48 ≤ b.toNat ∧ b.toNat ≤ 57
theorem dg_nat {d : Nat} (h : d < 10) : (UInt8.ofNat (48 + d)).toNat = 48 + d := by
  simp [UInt8.toNat_ofNat']; omega
theorem decDigits_dg : ∀ (u : Nat), ∀ b ∈ decDigits u, isDg b := by
  intro u
  induction u using Nat.strongRecOn with
  | ind u ih =>
    intro b hb
    rw [decDigits] at hb
    split at hb
    · next h => rw [List.mem_singleton] at hb; subst hb; unfold isDg; rw [dg_nat h]; omega
    · next h =>
      rcases List.mem_append.1 hb with hb | hb
      · exact ih _ (by omega) b hb
      · simp only [List.mem_singleton] at hb; subst hb; unfold isDg; rw [dg_nat (Nat.mod_lt _ (by omega))]; omega
theorem decDigits_ne (u : Nat) : decDigits u ≠ [] := by
  rw [decDigits]
  split <;> simp
theorem parse_snoc {d : Nat} (hd : d < 10) : ∀ (l : Bs) (acc a : Nat), parseUint10 acc l = .ok a → a * 10 + d < 18446744073709551616 → parseUint10 acc (l ++ [UInt8.ofNat (48 + d)]) = .ok (a * 10 + d)
  | [], acc, a, h, hb => by
    simp only [parseUint10] at h
    injection h with h
    subst h
    simp only [List.nil_append, parseUint10, dg_nat hd]
    rw [if_pos (by omega), if_neg (by omega), if_neg (by omega)]
    congr 1
    omega
  | c :: r, acc, a, h, hb => by
    simp only [parseUint10, List.cons_append] at h ⊢
    split at h
    · next h1 =>
      rw [if_pos h1]
      split at h
      · cases h
      · next h2 =>
        rw [if_neg h2]
        split at h
        · cases h
        · next h3 => rw [if_neg h3]; exact parse_snoc hd r _ a h hb
    · cases h
theorem parse_dec : ∀ (u : Nat), u < 18446744073709551616 → parseUint10 0 (decDigits u) = .ok u := by
  intro u
  induction u using Nat.strongRecOn with
  | ind u ih =>
    intro hu
    rw [decDigits]
    split
    · next h =>
      have := parse_snoc h [] 0 0 rfl (by omega)
      simpa using this
    · next h =>
      have h1 := ih (u / 10) (by omega) (by omega)
      have h2 := parse_snoc (d := u % 10) (by omega) _ _ _ h1 (by omega)
      rw [h2]
      congr 1
      omega
theorem parseMag_dec {u : Nat} (h : u < 18446744073709551616) : parseMag (decDigits u) = .ok u := by
  unfold parseMag
  rw [if_neg (decDigits_ne u), parse_dec u h]
theorem dec_cons (u : Nat) : ∃ c r, decDigits u = c :: r ∧ isDg c := by
  cases h : decDigits u with
  | nil => exact absurd h (decDigits_ne u)
  | cons c r => exact ⟨c, r, rfl, decDigits_dg u c (by rw [h]; simp)⟩
theorem atoiAll_itoa {n : Int} (h : I64s n) : atoiAll (itoa n) = .ok n := by
  obtain ⟨h0, h1⟩ := h
  unfold itoa
  split
  · next hn =>
    unfold atoiAll
    simp only
    rw [show ((45 : UInt8).toNat = 45) from rfl]
    simp only [or_true, if_true]
    rw [parseMag_dec (by omega)]
    simp only [not_true_eq_false, false_and, if_false, true_and]
    rw [if_neg (by omega)]
    congr 1
    omega
  · next hn =>
    obtain ⟨c, r, hc, hd⟩ := dec_cons n.toNat
    have hp := parseMag_dec (u := n.toNat) (by omega)
    rw [hc] at hp ⊢
    obtain ⟨d0, d1⟩ := hd
    unfold atoiAll
    simp only
    rw [if_neg (by omega), hp]
    simp only
    rw [if_neg (by omega), if_neg (by omega), if_neg (by omega)]
    congr 1
    omega
/-- The number of a word; none: it is none. -/
def numP (w : Bs) : Option Int := match atoiAll w with
  | .ok v => if itoa v = w then some v else none
  | _ => none
theorem numP_some {w : Bs} {v : Int} (h : numP w = some v) : itoa v = w ∧ I64s v := by
  unfold numP at h
  split at h
  · next x hx =>
    split at h
    · next e => cases h; exact ⟨e, atoiAll_bounds hx⟩
    · cases h
  · cases h
theorem numP_itoa {v : Int} (h : I64s v) : numP (itoa v) = some v := by
  unfold numP
  rw [atoiAll_itoa h]
  simp
/-- What the document makes of digits: one more each time, as an int goes round. -/
def stepN (neg : Bool) (n : Int) (b : UInt8) : Int := IntKind.i64.wrap (if neg then IntKind.i64.wrap (10 * n) - ((b.toNat - 48 : Nat) : Int) else IntKind.i64.wrap (10 * n) + ((b.toNat - 48 : Nat) : Int))
def valN (neg : Bool) (l : Bs) : Int := l.foldl (stepN neg) 0
def valD (l : Bs) : Nat := l.foldl (fun n b => n * 10 + (b.toNat - 48)) 0
theorem valD_snoc (l : Bs) (b : UInt8) : valD (l ++ [b]) = valD l * 10 + (b.toNat - 48) := by simp [valD]
theorem valN_snoc (neg : Bool) (l : Bs) (b : UInt8) : valN neg (l ++ [b]) = stepN neg (valN neg l) b := by simp [valN]
theorem valD_dec (u : Nat) : valD (decDigits u) = u := by
  induction u using Nat.strongRecOn with
  | ind u ih =>
    rw [decDigits]
    split
    · next h => rw [show valD [UInt8.ofNat (48 + u)] = 0 * 10 + ((UInt8.ofNat (48 + u)).toNat - 48) from rfl, dg_nat h]; omega
    · next h =>
      rw [valD_snoc, ih (u / 10) (by omega), dg_nat (Nat.mod_lt _ (by omega))]
      omega
theorem wrap64 (x : Int) : ∃ k : Int, IntKind.i64.wrap x = x + k * 18446744073709551616 ∧ -9223372036854775808 ≤ IntKind.i64.wrap x ∧ IntKind.i64.wrap x ≤ 9223372036854775807 := by
  rw [IntKind.wrap_i64]
  exact ⟨-((x + 9223372036854775808) / 18446744073709551616), by omega, by omega, by omega⟩
theorem snoc_ind {P : Bs → Prop} (h0 : P []) (h1 : ∀ l b, P l → P (l ++ [b])) (l : Bs) : P l := by
  have : ∀ l : Bs, P l.reverse := fun l => by
    induction l with
    | nil => exact h0
    | cons b l ih => rw [List.reverse_cons]; exact h1 _ _ ih
  have h := this l.reverse
  rwa [List.reverse_reverse] at h
theorem valN_mod (neg : Bool) : ∀ l : Bs, ∃ k : Int, valN neg l = (if neg then -(valD l : Int) else (valD l : Int)) + k * 18446744073709551616 := by
  intro l
  refine snoc_ind (P := fun l => ∃ k : Int, valN neg l = (if neg then -(valD l : Int) else (valD l : Int)) + k * 18446744073709551616) ⟨0, by cases neg <;> simp [valN, valD]⟩ (fun l b ih => ?_) l
  · obtain ⟨k, hk⟩ := ih
    rw [valN_snoc, valD_snoc]
    unfold stepN
    obtain ⟨k1, h1, _⟩ := wrap64 (10 * valN neg l)
    cases neg
    · simp only [Bool.false_eq_true, if_false] at hk ⊢
      obtain ⟨k2, h2, _⟩ := wrap64 (IntKind.i64.wrap (10 * valN false l) + ((b.toNat - 48 : Nat) : Int))
      refine ⟨k2 + k1 + 10 * k, ?_⟩
      rw [h2, h1, hk]
      push_cast
      omega
    · simp only [if_true] at hk ⊢
      obtain ⟨k2, h2, _⟩ := wrap64 (IntKind.i64.wrap (10 * valN true l) - ((b.toNat - 48 : Nat) : Int))
      refine ⟨k2 + k1 + 10 * k, ?_⟩
      rw [h2, h1, hk]
      push_cast
      omega
theorem valN_i64 (neg : Bool) (l : Bs) : I64s (valN neg l) := by
  refine snoc_ind (P := fun l => I64s (valN neg l)) (by simp [valN, I64s]) (fun l b ih => ?_) l
  · show I64s (valN neg (l ++ [b]))
    rw [valN_snoc]
    unfold stepN
    obtain ⟨_, _, h⟩ := wrap64 (if neg then IntKind.i64.wrap (10 * valN neg l) - ((b.toNat - 48 : Nat) : Int) else IntKind.i64.wrap (10 * valN neg l) + ((b.toNat - 48 : Nat) : Int))
    exact h
/-- What the document's loop makes of a number's digits is the number. -/
theorem valN_itoa {n : Int} (h : I64s n) : valN (decide (n < 0)) (if n < 0 then (itoa n).tail else itoa n) = n := by
  obtain ⟨h0, h1⟩ := h
  by_cases hn : n < 0
  · have e : itoa n = 45 :: decDigits n.natAbs := by unfold itoa; rw [if_pos hn]
    rw [if_pos hn, e, List.tail_cons]
    obtain ⟨k, hk⟩ := valN_mod (decide (n < 0)) (decDigits n.natAbs)
    have hb := valN_i64 (decide (n < 0)) (decDigits n.natAbs)
    rw [valD_dec] at hk
    simp only [hn, decide_true, if_true] at hk hb ⊢
    obtain ⟨b0, b1⟩ := hb
    omega
  · have e : itoa n = decDigits n.toNat := by unfold itoa; rw [if_neg hn]
    rw [if_neg hn, e]
    obtain ⟨k, hk⟩ := valN_mod (decide (n < 0)) (decDigits n.toNat)
    have hb := valN_i64 (decide (n < 0)) (decDigits n.toNat)
    rw [valD_dec] at hk
    simp only [hn, decide_false, Bool.false_eq_true, if_false] at hk hb ⊢
    obtain ⟨b0, b1⟩ := hb
    omega
end Go.Proofs.YtljgemknccodeaaDoor
