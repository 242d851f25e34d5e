/-
  WALKS: what the functions of package slots do to a table in memory. Conditions: the table is one that New made (1 to 256 cells, the weak hash).
-/
import Derived.Test.YtelbaooifmkpkaaKit
import Derived.Test.YtelbaooifmkpkaaSlotPlain
set_option linter.unusedVariables false
set_option linter.unusedSimpArgs false
namespace Go.Proofs.Ytelbaooifmkpkaa
open Go.RowKit

theorem and13 (k : Int) : 0 ≤ bits .and .i64 k 13 ∧ bits .and .i64 k 13 ≤ 13 := by
  have h : (BitVec.ofInt 64 k &&& BitVec.ofInt 64 13).toNat ≤ 13 := by
    rw [BitVec.toNat_and]; exact Nat.le_trans Nat.and_le_right (by decide)
  have e : bits .and .i64 k 13 = IntKind.i64.wrap ((BitVec.ofInt 64 k &&& BitVec.ofInt 64 13).toNat : Nat) := rfl
  rw [e, IntKind.wrap_i64]
  omega
/-- What the weak hash gives. -/
def hsh (k : Int) : Nat := (bits .and .i64 k 13).toNat
theorem hsh_le (k : Int) : hsh k ≤ 13 := by have := and13 k; unfold hsh; omega
theorem hsh_eq (k : Int) : bits .and .i64 k 13 = (hsh k : Int) := by have := and13 k; unfold hsh; omega
/-- The home of a key. -/
def homeOf (n : Nat) (k : Int) : Nat := hsh k % n
theorem homeOf_lt (n : Nat) (k : Int) (h : 1 ≤ n) : homeOf n k < n := Nat.mod_lt _ h

set_option maxHeartbeats 400000 in
theorem hash_any (k : Int) (w : World) :
    Calls Try.prog 9 #[.int .i64 k] w fun e w' => e = .returned (.int .u64 (hsh k)) ∧ w = w' := by
  have h1 := and13 k
  go_enter Try.func9, Try.ntmps9
  go_wp2
  go_ret
  refine ⟨?_, rfl⟩
  rw [← hsh_eq]
  simp

/-- A table: the block of its struct, the block of its cells, how many cells, what they hold, how many are used. -/
structure Tab (w : World) (b c n : Nat) (cs : Nat → SC) (m : Int) : Prop where
  lo : 1 ≤ n
  hi : n ≤ 256
  blk : Blk w b 63 #[.func (.func 9) #[] #[], .slice (some ⟨c, 0, none⟩) n n, .int .i64 m]
  row : ∃ A, Blk w c 75 A ∧ ∀ i, i < n → A[i * 3]? = some (.bool (cs i).used) ∧ A[i * 3 + 1]? = some (.int .i64 (cs i).k) ∧ A[i * 3 + 2]? = some (.int .i64 (cs i).v)
section
variable {w w' : World} {b c n : Nat} {cs : Nat → SC} {m : Int} {S : List Nat}
theorem Tab.c0 (h : Tab w b c n cs m) : w.cell? ⟨b, 0, none⟩ = some (.func (.func 9) #[] #[]) := (h.blk.cell 0).trans rfl
theorem Tab.c1 (h : Tab w b c n cs m) : w.cell? ⟨b, 1, none⟩ = some (.slice (some ⟨c, 0, none⟩) n n) := (h.blk.cell 1).trans rfl
theorem Tab.c2 (h : Tab w b c n cs m) : w.cell? ⟨b, 2, none⟩ = some (.int .i64 m) := (h.blk.cell 2).trans rfl
theorem Tab.f (h : Tab w b c n cs m) (i : Nat) : w.frozen? ⟨b, i, none⟩ = false := h.blk.frozen i
theorem Tab.fc (h : Tab w b c n cs m) (i : Nat) : w.frozen? ⟨c, i, none⟩ = false := by obtain ⟨A, hA, _⟩ := h.row; exact hA.frozen i
theorem Tab.cells (h : Tab w b c n cs m) {i : Nat} (hi : i < n) : w.cell? ⟨c, i * 3, none⟩ = some (.bool (cs i).used) ∧ w.cell? ⟨c, i * 3 + 1, none⟩ = some (.int .i64 (cs i).k) ∧ w.cell? ⟨c, i * 3 + 2, none⟩ = some (.int .i64 (cs i).v) := by
  obtain ⟨A, hA, h'⟩ := h.row
  obtain ⟨h0, h1, h2⟩ := h' i hi
  exact ⟨(hA.cell _).trans h0, (hA.cell _).trans h1, (hA.cell _).trans h2⟩
theorem Tab.chg (h : Tab w b c n cs m) (hc : Chg S w w') (hb : b ∉ S) (hc' : c ∉ S) : Tab w' b c n cs m := by
  obtain ⟨A, hA, h'⟩ := h.row
  exact ⟨h.lo, h.hi, h.blk.chg hc hb, A, hA.chg hc hc', h'⟩
theorem Tab.chg0 (h : Tab w b c n cs m) (hc : Chg [] w w') : Tab w' b c n cs m := h.chg hc (by simp) (by simp)
theorem Tab.lt (h : Tab w b c n cs m) : b < w.heap.size ∧ c < w.heap.size := by
  obtain ⟨A, hA, h'⟩ := h.row
  exact ⟨h.blk.lt, hA.lt⟩
end

set_option maxHeartbeats 400000 in
theorem is_any (b : Nat) (w : World) (h0 : w.cell? ⟨b, 0, none⟩ = some (.func (.func 9) #[] #[])) :
    Calls Try.prog 36 #[.pointer (some ⟨b,0,none⟩)] w fun e w' => e = .returned (.bool true) ∧ w = w' := by
  have hnf := run_neq_func_nil (P := Try.prog) Try.underlying25
  go_enter Try.func36, Try.ntmps36
  go_wp2
  go_ret
  exact ⟨rfl, rfl⟩

set_option maxHeartbeats 400000 in
theorem home_any {b c n : Nat} {cs : Nat → SC} {m : Int} (k : Int) {w : World} (h : Tab w b c n cs m) :
    Calls Try.prog 24 #[.pointer (some ⟨b, 0, none⟩), .int .i64 k] w fun e w' => e = .returned (.int .i64 (homeOf n k)) ∧ ∃ d, w' = w.drewN d := by
  have hh := hsh_le k
  have h0 := h.c0
  have h1 := h.c1
  have hn := h.lo
  have hn' := h.hi
  have hm0 : 0 ≤ (hsh k : Int) % (n : Int) := Int.emod_nonneg _ (by omega)
  have hm1 : (hsh k : Int) % (n : Int) < n := Int.emod_lt_of_pos _ (by omega)
  go_enter Try.func24, Try.ntmps24
  go_wp2_with fail
  refine (is_any b w h0).mono ?_
  rintro e w' ⟨rfl, rfl⟩
  go_wp2_with fail
  go_quiet ((go_at_call 9; exact Calls.quiet_of_same ((hash_any k _).mono fun _ _ ⟨a, b⟩ => ⟨a, b.symm⟩)))
  go_wp2_with fail
  go_ret
  exact ⟨by simp [homeOf], _, rfl⟩

set_option maxHeartbeats 400000 in
theorem next_any {b c n : Nat} {cs : Nat → SC} {m : Int} (i : Nat) {w : World} (h : Tab w b c n cs m) (hi : i < n) :
    Calls Try.prog 50 #[.pointer (some ⟨b, 0, none⟩), .int .i64 i] w fun e w' => e = .returned (.int .i64 ((i + 1) % n : Nat)) ∧ w = w' := by
  have h1 := h.c1
  have hn := h.lo
  have hn' := h.hi
  go_enter Try.func50, Try.ntmps50
  go_wp2_with fail
  go_ret
  exact ⟨by simp, rfl⟩

set_option maxHeartbeats 400000 in
theorem far_any {b c n : Nat} {cs : Nat → SC} {m : Int} (i j : Nat) {w : World} (h : Tab w b c n cs m) (hi : i < n) (hj : j < n) :
    Calls Try.prog 51 #[.pointer (some ⟨b, 0, none⟩), .int .i64 i, .int .i64 j] w fun e w' => e = .returned (.int .i64 ((j + n - i) % n : Nat)) ∧ w = w' := by
  have h1 := h.c1
  have hn := h.lo
  have hn' := h.hi
  go_enter Try.func51, Try.ntmps51
  have e : ((j : Int) - i + n) = ((j + n - i : Nat) : Int) := by omega
  go_wp2_with fail
  go_ret
  exact ⟨by simp [e], rfl⟩

set_option maxHeartbeats 400000 in
theorem find_any {b c n : Nat} {cs : Nat → SC} {m : Int} (k : Int) {w : World} (h : Tab w b c n cs m) :
    Calls Try.prog 37 #[.pointer (some ⟨b, 0, none⟩), .int .i64 k] w fun e w' =>
      e = .returned (.tuple #[.int .i64 ((findIn cs n k n (homeOf n k)).getD 0 : Nat), .bool (findIn cs n k n (homeOf n k)).isSome]) ∧ Chg [] w w' := by
  have h0 := h.c0
  have h1 := h.c1
  have hn := h.lo
  have hn' := h.hi
  have hl := h.lt
  have hh := homeOf_lt n k hn
  go_enter Try.func37, Try.ntmps37
  go_wp2_with fail
  refine (home_any k h).mono ?_
  rintro e w' ⟨rfl, d, rfl⟩
  go_wp2_with fail
  go_loopw [6, 16] (fun a i wr => ∃ (x j : Nat), x < n ∧ j ≤ n ∧ a = .int .i64 x ∧ i = .int .i64 j ∧ Chg [] w wr ∧ findIn cs n k (n - j) x = findIn cs n k n (homeOf n k)) (fun _ i _ => n - (intOf i).toNat)
  case atStart => exact ⟨_, 0, hh, by omega, rfl, rfl, (Chg.refl _ _).drewN _, rfl⟩
  case round =>
    obtain ⟨x, j, hx, hj, rfl, rfl, hcg, hf⟩ := hrel
    have ht := h.chg0 hcg
    have h1 := ht.c1
    obtain ⟨g0, g1, g2⟩ := ht.cells hx
    have HF := Lib.hid hf
    clear hf
    by_cases hlt : j < n
    · by_cases hu : (cs x).used = false
      · have hr : findIn cs n k (n - j) x = some x := by
          obtain ⟨q, hq⟩ : ∃ q, n - j = q + 1 := ⟨n - j - 1, by omega⟩
          rw [hq]; simp [findIn, hu]
        have HR := Lib.hid hr
        clear hr
        rw [hu] at g0
        clear hu
        go_wp2_with fail
        go_ret2
        rw [← HF.out, HR.out]
        exact ⟨by simp, hcg.alloc _⟩
      · have hu : (cs x).used = true := by simpa using hu
        by_cases hk : (cs x).k = k
        · have hr : findIn cs n k (n - j) x = some x := by
            obtain ⟨q, hq⟩ : ∃ q, n - j = q + 1 := ⟨n - j - 1, by omega⟩
            rw [hq]; simp [findIn, hk]
          have HR := Lib.hid hr
          clear hr
          rw [hu] at g0
          clear hu
          have hkb : ((cs x).k == k) = true := by simp [hk]
          clear hk
          go_wp2_with fail
          go_ret2
          rw [← HF.out, HR.out]
          exact ⟨by simp, hcg.alloc _⟩
        · have hr : findIn cs n k (n - j) x = findIn cs n k (n - (j + 1)) ((x + 1) % n) := by
            obtain ⟨q, hq⟩ : ∃ q, n - j = q + 1 := ⟨n - j - 1, by omega⟩
            rw [hq, show n - (j + 1) = q by omega]; simp [findIn, hk, hu]
          have HR := Lib.hid hr
          clear hr
          rw [hu] at g0
          clear hu
          have hkb : ((cs x).k == k) = false := by simp [hk]
          clear hk
          go_wp2_with fail
          refine (next_any x (ht.chg0 ((Chg.refl _ _).alloc _)) hx).mono ?_
          rintro e w' ⟨rfl, rfl⟩
          go_wp2_with fail
          go_roundw
          case rel => exact ⟨(x + 1) % n, j + 1, Nat.mod_lt _ hn, by omega, rfl, by go_num, hcg.alloc _, by rw [← HR.out]; exact HF.out⟩
          case measure => simp [intOf]; omega
    · have hr : findIn cs n k n (homeOf n k) = none := by
        rw [← HF.out, show n - j = 0 by omega]; rfl
      have HR := Lib.hid hr
      clear hr
      go_wp2_with fail
      go_ret2
      rw [HR.out]
      exact ⟨by simp, hcg⟩

section
variable {w w' : World} {b c n : Nat} {cs : Nat → SC} {m : Int} {S : List Nat}
theorem Tab.ne (h : Tab w b c n cs m) : b ≠ c := by
  obtain ⟨A, hA, _⟩ := h.row
  have h1 := h.blk
  rintro rfl
  unfold Blk at h1 hA
  rw [h1] at hA
  injection hA with hA
  injection hA with _ ht
  exact absurd ht (by decide)
/-- One cell is written anew. -/
theorem Tab.store (h : Tab w b c n cs m) {i : Nat} (hi : i < n) (u : Bool) (k v : Int) :
    Tab (((w.setCell ⟨c, i * 3, none⟩ (.bool u)).setCell ⟨c, i * 3 + 1, none⟩ (.int .i64 k)).setCell ⟨c, i * 3 + 2, none⟩ (.int .i64 v)) b c n (upd cs i ⟨u, k, v⟩) m := by
  obtain ⟨A, hA, hc⟩ := h.row
  have hne := h.ne
  refine ⟨h.lo, h.hi, ((h.blk.far hne _).far hne _).far hne _, _, ((hA.set_ _ _).set_ _ _).set_ _ _, fun j hj => ?_⟩
  obtain ⟨a0, a1, a2⟩ := hc i hi
  obtain ⟨b0, b1, b2⟩ := hc j hj
  have s0 := (Array.getElem?_eq_some_iff.1 a0).1
  have s1 := (Array.getElem?_eq_some_iff.1 a1).1
  have s2 := (Array.getElem?_eq_some_iff.1 a2).1
  simp only [Array.getElem?_setIfInBounds, Array.size_setIfInBounds]
  by_cases e : j = i
  · subst e
    rw [upd_same]
    refine ⟨?_, ?_, ?_⟩
    · rw [if_neg (by omega), if_neg (by omega), if_pos rfl, if_pos s0]
    · rw [if_neg (by omega), if_pos rfl, if_pos s1]
    · rw [if_pos rfl, if_pos s2]
  · rw [upd_other _ _ e]
    refine ⟨?_, ?_, ?_⟩
    · rw [if_neg (by omega), if_neg (by omega), if_neg (by omega)]; exact b0
    · rw [if_neg (by omega), if_neg (by omega), if_neg (by omega)]; exact b1
    · rw [if_neg (by omega), if_neg (by omega), if_neg (by omega)]; exact b2
theorem Tab.many (h : Tab w b c n cs m) (m' : Int) : Tab (w.setCell ⟨b, 2, none⟩ (.int .i64 m')) b c n cs m' := by
  obtain ⟨A, hA, hc⟩ := h.row
  have hne := h.ne
  have hb := h.blk.set_ 2 (.int .i64 m')
  exact ⟨h.lo, h.hi, hb, A, hA.far (fun e => hne e.symm) _, hc⟩
theorem Chg.cellsC {w0 : World} (h : Chg S w0 w) (hc : c ∈ S) (i j k : Nat) (u v x : Value) : Chg S w0 (((w.setCell ⟨c, i, none⟩ u).setCell ⟨c, j, none⟩ v).setCell ⟨c, k, none⟩ x) :=
  ((h.setCell (.inl hc) _).setCell (.inl hc) _).setCell (.inl hc) _
end

/-- What a put makes of the cells, of the number of keys, and whether it goes. -/
def putC (cs : Nat → SC) (n : Nat) (k v : Int) : Nat → SC :=
  match findIn cs n k n (homeOf n k) with
  | none => cs
  | some i => upd cs i ⟨true, k, v⟩
def putM (cs : Nat → SC) (n : Nat) (k : Int) (m : Int) : Int :=
  match findIn cs n k n (homeOf n k) with
  | none => m
  | some i => if (cs i).used then m else m + 1
def hasRoom (cs : Nat → SC) (n : Nat) (k : Int) : Bool := (findIn cs n k n (homeOf n k)).isSome

theorem put_none {cs : Nat → SC} {n : Nat} {k : Int} (h : findIn cs n k n (homeOf n k) = none) (v m : Int) : hasRoom cs n k = false ∧ putC cs n k v = cs ∧ putM cs n k m = m := by
  unfold hasRoom putC putM; rw [h]; exact ⟨rfl, rfl, rfl⟩
theorem put_some {cs : Nat → SC} {n : Nat} {k : Int} {i : Nat} (h : findIn cs n k n (homeOf n k) = some i) (v m : Int) :
    hasRoom cs n k = true ∧ putC cs n k v = upd cs i ⟨true, k, v⟩ ∧ putM cs n k m = (if (cs i).used then m else m + 1) := by
  unfold hasRoom putC putM; rw [h]; exact ⟨rfl, rfl, rfl⟩

set_option maxHeartbeats 400000 in
theorem put_any {b c n : Nat} {cs : Nat → SC} {m : Int} (k v : Int) {w : World} (h : Tab w b c n cs m) (hm0 : 0 ≤ m) (hm : m ≤ 256) :
    Calls Try.prog 11 #[.pointer (some ⟨b, 0, none⟩), .int .i64 k, .int .i64 v] w fun e w' =>
      e = .returned (.bool (hasRoom cs n k)) ∧ Tab w' b c n (putC cs n k v) (putM cs n k m) ∧ Chg [b, c] w w' := by
  have h0 := h.c0
  have hh := homeOf_lt n k h.lo
  cases hf : findIn cs n k n (homeOf n k) with
  | none =>
    have HF := Lib.hid hf
    clear hf
    go_enter Try.func11, Try.ntmps11
    go_wp2_with fail
    refine (is_any b w h0).mono ?_
    rintro e w' ⟨rfl, rfl⟩
    go_wp2_with fail
    refine (find_any k h).mono ?_
    rw [HF.out]
    rintro e w1 ⟨rfl, hc1⟩
    go_wp2_with fail
    go_ret
    obtain ⟨e1, e2, e3⟩ := put_none HF.out v m
    rw [e1, e2, e3]
    exact ⟨rfl, h.chg0 hc1, hc1.more (by simp)⟩
  | some i =>
    have hi := findIn_lt h.lo hh hf
    have HF := Lib.hid hf
    clear hf
    go_enter Try.func11, Try.ntmps11
    go_wp2_with fail
    refine (is_any b w h0).mono ?_
    rintro e w' ⟨rfl, rfl⟩
    go_wp2_with fail
    refine (find_any k h).mono ?_
    rw [HF.out]
    rintro e w1 ⟨rfl, hc1⟩
    have ht := h.chg0 hc1
    have t1 := ht.c1
    have t2 := ht.c2
    have f1 := ht.f
    have f2 := ht.fc
    have hne := ht.ne
    have hne' := hne.symm
    have hn' := ht.hi
    obtain ⟨g0, g1, g2⟩ := ht.cells hi
    cases hu : (cs i).used with
    | true =>
      rw [hu] at g0
      have HU := Lib.hid hu
      clear hu
      go_wp2_with fail
      go_ret
      obtain ⟨e1, e2, e3⟩ := put_some HF.out v m
      rw [e1, e2, e3, HU.out]
      exact ⟨rfl, ht.store hi _ _ _, (hc1.more (by simp)).cellsC (by simp) _ _ _ _ _ _⟩
    | false =>
      rw [hu] at g0
      have HU := Lib.hid hu
      clear hu
      go_wp2_with fail
      go_ret
      obtain ⟨e1, e2, e3⟩ := put_some HF.out v m
      rw [e1, e2, e3, HU.out]
      exact ⟨rfl, (ht.many _).store hi _ _ _, ((hc1.more (by simp)).setCell (.inl (by simp)) _).cellsC (by simp) _ _ _ _ _ _⟩

/-- What is got. -/
def getV (cs : Nat → SC) (n : Nat) (k : Int) : Option Int :=
  match findIn cs n k n (homeOf n k) with
  | none => none
  | some i => if (cs i).used then some (cs i).v else none

set_option maxHeartbeats 400000 in
theorem get_any {b c n : Nat} {cs : Nat → SC} {m : Int} (k : Int) {w : World} (h : Tab w b c n cs m) :
    Calls Try.prog 15 #[.pointer (some ⟨b, 0, none⟩), .int .i64 k] w fun e w' =>
      e = .returned (.tuple #[.int .i64 ((getV cs n k).getD 0), .bool (getV cs n k).isSome]) ∧ Chg [] w w' := by
  have h0 := h.c0
  have hh := homeOf_lt n k h.lo
  cases hf : findIn cs n k n (homeOf n k) with
  | none =>
    have hg : getV cs n k = none := by unfold getV; rw [hf]
    have HG := Lib.hid hg
    have HF := Lib.hid hf
    clear hf hg
    go_enter Try.func15, Try.ntmps15
    go_wp2_with fail
    refine (is_any b w h0).mono ?_
    rintro e w' ⟨rfl, rfl⟩
    go_wp2_with fail
    refine (find_any k h).mono ?_
    rw [HF.out]
    rintro e w1 ⟨rfl, hc1⟩
    go_wp2_with fail
    go_ret2
    rw [HG.out]
    exact ⟨rfl, hc1⟩
  | some i =>
    have hi := findIn_lt h.lo hh hf
    have hg : getV cs n k = if (cs i).used then some (cs i).v else none := by unfold getV; rw [hf]
    have HG := Lib.hid hg
    have HF := Lib.hid hf
    clear hf hg
    go_enter Try.func15, Try.ntmps15
    go_wp2_with fail
    refine (is_any b w h0).mono ?_
    rintro e w' ⟨rfl, rfl⟩
    go_wp2_with fail
    refine (find_any k h).mono ?_
    rw [HF.out]
    rintro e w1 ⟨rfl, hc1⟩
    have ht := h.chg0 hc1
    have t1 := ht.c1
    have hn' := ht.hi
    obtain ⟨g0, g1, g2⟩ := ht.cells hi
    cases hu : (cs i).used with
    | true =>
      rw [hu] at g0
      have HU := Lib.hid hu
      clear hu
      go_wp2_with fail
      go_ret2
      rw [HG.out, HU.out]
      exact ⟨rfl, hc1⟩
    | false =>
      rw [hu] at g0
      have HU := Lib.hid hu
      clear hu
      go_wp2_with fail
      go_ret2
      rw [HG.out, HU.out]
      exact ⟨rfl, hc1⟩

set_option maxHeartbeats 400000 in
theorem len_any {b c n : Nat} {cs : Nat → SC} {m : Int} {w : World} (h : Tab w b c n cs m) :
    Calls Try.prog 17 #[.pointer (some ⟨b, 0, none⟩)] w fun e w' => e = .returned (.int .i64 m) ∧ w = w' := by
  have h0 := h.c0
  have h2 := h.c2
  go_enter Try.func17, Try.ntmps17
  go_wp2_with fail
  refine (is_any b w h0).mono ?_
  rintro e w' ⟨rfl, rfl⟩
  go_wp2_with fail
  go_ret
  exact ⟨rfl, rfl⟩
set_option maxHeartbeats 400000 in
theorem cap_any {b c n : Nat} {cs : Nat → SC} {m : Int} {w : World} (h : Tab w b c n cs m) :
    Calls Try.prog 18 #[.pointer (some ⟨b, 0, none⟩)] w fun e w' => e = .returned (.int .i64 n) ∧ w = w' := by
  have h0 := h.c0
  have h1 := h.c1
  go_enter Try.func18, Try.ntmps18
  go_wp2_with fail
  refine (is_any b w h0).mono ?_
  rintro e w' ⟨rfl, rfl⟩
  go_wp2_with fail
  go_ret
  exact ⟨rfl, rfl⟩
end Go.Proofs.Ytelbaooifmkpkaa
