/-
  THE TABLE OF CELLS, IN PLAIN LEAN: where a key is looked for, what a put, a take-out and the closing of a gap make of the cells; nothing of the program. No condition.
-/
import Derived.Test.YtelbaooifmkpkaaRows
set_option linter.unusedVariables false
set_option linter.unusedSimpArgs false
namespace Go.Proofs.Ytelbaooifmkpkaa

/-- A cell: whether it is used, its key, what stands by it. -/
structure SC where
  used : Bool
  k : Int
  v : Int

/-- The place at which a search for k ends: a free cell or k's own. -/
def findIn (cs : Nat → SC) (n : Nat) (k : Int) : Nat → Nat → Option Nat
  | 0, _ => none
  | f + 1, a => if (cs a).used = false ∨ (cs a).k = k then some a else findIn cs n k f ((a + 1) % n)

theorem findIn_lt {cs : Nat → SC} {n : Nat} {k : Int} (hn : 1 ≤ n) : ∀ {f a i : Nat}, a < n → findIn cs n k f a = some i → i < n
  | 0, _, _, _, h => by simp [findIn] at h
  | f + 1, a, i, ha, h => by
    unfold findIn at h
    split at h
    · simp at h; omega
    · exact findIn_lt hn (Nat.mod_lt _ hn) h
/-- What is found is free, or the key's own. -/
theorem findIn_is {cs : Nat → SC} {n : Nat} {k : Int} : ∀ {f a i : Nat}, findIn cs n k f a = some i → (cs i).used = false ∨ (cs i).k = k
  | 0, _, _, h => by simp [findIn] at h
  | f + 1, a, i, h => by
    unfold findIn at h
    split at h
    · simp at h; subst h; assumption
    · exact findIn_is h

def upd (cs : Nat → SC) (i : Nat) (x : SC) : Nat → SC := fun j => if j = i then x else cs j
theorem upd_same (cs : Nat → SC) (i : Nat) (x : SC) : upd cs i x i = x := by simp [upd]
theorem upd_other (cs : Nat → SC) {i j : Nat} (x : SC) (h : j ≠ i) : upd cs i x j = cs j := by simp [upd, h]

/-- A free cell. -/
def free : SC := ⟨false, 0, 0⟩
/-- How far a place is behind another one, round. -/
def farOf (n i j : Nat) : Nat := (j + n - i) % n
/-- Others move up to a gap; 'hm': the home of each key. -/
def closeIn (hm : Int → Nat) (n : Nat) : Nat → (Nat → SC) → Nat → Nat → (Nat → SC)
  | 0, cs, _, _ => cs
  | f + 1, cs, hole, a =>
    let b := (a + 1) % n
    if (cs b).used = false then cs
    else if farOf n hole b ≤ farOf n (hm (cs b).k) b then closeIn hm n f (upd (upd cs hole (cs b)) b free) b b
    else closeIn hm n f cs hole b
end Go.Proofs.Ytelbaooifmkpkaa
