/-
  PLAIN: the keyed hash: words of bytes, rounds of four words. No condition.
-/
import Derived.Test.YtldgdpekhjignaaGreatMem
set_option linter.unusedVariables false
set_option linter.unusedSimpArgs false
namespace Go.Proofs.YtldgdpekhjignaaGreat

/-- Operations of 64-bit words, as the model has them. -/
def xorS (a b : Int) : Int := bits .xor .u64 a b
def orS (a b : Int) : Int := bits .or .u64 a b
def addS (a b : Int) : Int := IntKind.u64.wrap (a + b)
/-- Rotated. -/
def rotS (x : Int) (n : Nat) : Int := orS (IntKind.u64.wrap (x * 2 ^ n)) (x / 2 ^ (64 - n))
/-- Four words. -/
structure W4 where
  a : Int
  b : Int
  c : Int
  d : Int
deriving DecidableEq
/-- A round. -/
def roundW (v : W4) : W4 :=
  let a1 := addS v.a v.b
  let b1 := xorS (rotS v.b 13) a1
  let a2 := rotS a1 32
  let c1 := addS v.c v.d
  let d1 := xorS (rotS v.d 16) c1
  let a3 := addS a2 d1
  let d2 := xorS (rotS d1 21) a3
  let c2 := addS c1 b1
  let b2 := xorS (rotS b1 17) c2
  let c3 := rotS c2 32
  ⟨a3, b2, c3, d2⟩
def roundsW : Nat → W4 → W4
  | 0, v => v
  | n + 1, v => roundsW n (roundW v)
theorem roundsW_succ : ∀ (n : Nat) (v : W4), roundsW (n + 1) v = roundW (roundsW n v)
  | 0, _ => rfl
  | n + 1, v => roundsW_succ n (roundW v)
/-- A word taken. -/
def takeW (v : W4) (w : Int) : W4 :=
  let u := roundsW 2 ⟨v.a, v.b, v.c, xorS v.d w⟩
  ⟨xorS u.a w, u.b, u.c, u.d⟩
def beginW (ka kb : Int) : W4 := ⟨xorS ka 8317987319222330741, xorS kb 7237128888997146477, xorS ka 7816392313619706465, xorS kb 8387220255154660723⟩
def endW (v : W4) : Int :=
  let u := roundsW 4 ⟨v.a, v.b, xorS v.c 255, v.d⟩
  xorS (xorS (xorS u.a u.b) u.c) u.d
/-- Up to eight bytes as a word, the first one lowest. -/
def wordS : List Nat → Nat
  | [] => 0
  | b :: l => b + 256 * wordS l
theorem wordS_snoc : ∀ (l : List Nat) (b : Nat), wordS (l ++ [b]) = wordS l + 2 ^ (8 * l.length) * b
  | [], b => by simp [wordS]
  | a :: l, b => by
    rw [List.cons_append, wordS, wordS_snoc l b, wordS, List.length_cons, Nat.mul_add 8 l.length 1, Nat.pow_add, Nat.mul_add, ← Nat.mul_assoc, Nat.mul_comm 256 (2 ^ (8 * l.length))]
    simp only [Nat.mul_one, Nat.reducePow]
    omega
theorem wordS_lt : ∀ {l : List Nat}, (∀ b ∈ l, b < 256) → wordS l < 2 ^ (8 * l.length)
  | [], _ => by simp [wordS]
  | b :: l, h => by
    have h1 := wordS_lt (l := l) fun x hx => h x (List.mem_cons_of_mem _ hx)
    have h2 := h b (List.mem_cons_self ..)
    rw [wordS, List.length_cons, Nat.mul_add 8 l.length 1, Nat.pow_add]
    simp only [Nat.mul_one, Nat.reducePow]
    generalize 2 ^ (8 * l.length) = p at *
    omega
theorem wordS_lt64 {l : List Nat} (h : ∀ b ∈ l, b < 256) (hl : l.length ≤ 8) : wordS l < 18446744073709551616 :=
  Nat.lt_of_lt_of_le (wordS_lt h) (Nat.pow_le_pow_right (n := 2) (by omega) (show 8 * l.length ≤ 64 by omega))
theorem wrap_nat {x : Nat} (h : x < 18446744073709551616) : IntKind.u64.wrap (x : Int) = (x : Int) := by
  simp [IntKind.wrap, IntKind.signed, IntKind.bits]; omega
theorem orS_nat {x y : Nat} (hx : x < 18446744073709551616) (hy : y < 18446744073709551616) : orS x y = ((x ||| y : Nat) : Int) := by
  unfold orS bits
  show IntKind.u64.wrap (BitVec.ofInt 64 (x : Int) ||| BitVec.ofInt 64 (y : Int)).toNat = _
  have h1 : (BitVec.ofInt 64 (x : Int)) = BitVec.ofNat 64 x := by simp
  have h2 : (BitVec.ofInt 64 (y : Int)) = BitVec.ofNat 64 y := by simp
  have h3 : (BitVec.ofNat 64 x ||| BitVec.ofNat 64 y).toNat = x ||| y := by
    rw [BitVec.toNat_or, BitVec.toNat_ofNat, BitVec.toNat_ofNat, Nat.mod_eq_of_lt (by omega), Nat.mod_eq_of_lt (by omega)]
  rw [h1, h2, h3]
  exact wrap_nat (Nat.or_lt_two_pow (n := 64) (by omega) (by omega))
/-- A byte laid above others. -/
theorem orS_add {x b i : Nat} (hx : x < 2 ^ (8 * i)) (hb : b < 256) (hi : i < 8) : orS (x : Int) (IntKind.u64.wrap ((b : Int) * 2 ^ (8 * i))) = ((x + 2 ^ (8 * i) * b : Nat) : Int) := by
  have hp : 2 ^ (8 * i) ≤ 72057594037927936 := Nat.pow_le_pow_right (n := 2) (by omega) (show 8 * i ≤ 56 by omega)
  have hy : b * 2 ^ (8 * i) < 18446744073709551616 := by
    have := Nat.mul_le_mul (show b ≤ 255 by omega) hp
    omega
  have e : ((b : Int) * 2 ^ (8 * i)) = ((b * 2 ^ (8 * i) : Nat) : Int) := by push_cast; rfl
  rw [e, wrap_nat hy, orS_nat (by omega) hy]
  congr 1
  have := Nat.shiftLeft_add_eq_or_of_lt hx b
  rw [Nat.shiftLeft_eq] at this
  rw [Nat.or_comm, ← this, Nat.mul_comm]
  omega
/-- The words of bytes, the last one with how many bytes there are. -/
def bytesAt (l : List Nat) (i : Nat) : List Nat := (l.drop (8 * i)).take 8
def wordsS (l : List Nat) : List Int := ((List.range (l.length / 8)).map fun i => (wordS (bytesAt l i) : Int)) ++ [((wordS (bytesAt l (l.length / 8)) + l.length % 256 * 72057594037927936 : Nat) : Int)]
def sumS (ka kb : Int) (l : List Nat) : Int := endW ((wordsS l).foldl takeW (beginW ka kb))
/-- The states on the way. -/
def stateS (ka kb : Int) (l : List Nat) (i : Nat) : W4 := ((wordsS l).take i).foldl takeW (beginW ka kb)
theorem wordsS_len (l : List Nat) : (wordsS l).length = l.length / 8 + 1 := by simp [wordsS]
theorem wordsS_at {l : List Nat} {i : Nat} (h : i < l.length / 8) : (wordsS l)[i]? = some (wordS (bytesAt l i) : Int) := by
  unfold wordsS
  rw [List.getElem?_append_left (by simp [h])]
  simp [h]
theorem wordsS_last (l : List Nat) : (wordsS l)[l.length / 8]? = some ((wordS (bytesAt l (l.length / 8)) + l.length % 256 * 72057594037927936 : Nat) : Int) := by
  unfold wordsS
  rw [List.getElem?_append_right (by simp)]
  simp
theorem stateS_zero (ka kb : Int) (l : List Nat) : stateS ka kb l 0 = beginW ka kb := rfl
theorem stateS_succ {ka kb : Int} {l : List Nat} {i : Nat} {x : Int} (h : (wordsS l)[i]? = some x) : stateS ka kb l (i + 1) = takeW (stateS ka kb l i) x := by
  unfold stateS
  rw [List.take_add_one, h]
  simp
theorem stateS_all (ka kb : Int) (l : List Nat) : endW (stateS ka kb l (l.length / 8 + 1)) = sumS ka kb l := by
  unfold stateS sumS
  rw [List.take_of_length_le (by rw [wordsS_len]; omega)]
end Go.Proofs.YtldgdpekhjignaaGreat
