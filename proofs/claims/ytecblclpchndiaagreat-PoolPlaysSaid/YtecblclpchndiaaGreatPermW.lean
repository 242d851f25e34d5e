/-
  WALKS over packages perm and harrierref16: Prime, the offset, the skip. No condition.
-/
import Derived.Test.YtecblclpchndiaaGreatKeyS
import Derived.Test.YtecblclpchndiaaGreatMagO
set_option linter.unusedVariables false
set_option linter.unusedSimpArgs false
namespace Go.Proofs.YtecblclpchndiaaGreat
open Go.RowKit

/-- Is a number a prime number of which something is told? -/
def IsPr (n : Int) : Prop := 2 ≤ n ∧ n ≤ 1000000 ∧ prS n.toNat
/-- .. as a value. -/
def IsPrV (n : Int) (v : Value) : Prop := ∃ b : Bool, v = .bool b ∧ (b = true ↔ IsPr n)
theorem IsPr.nat {N : Nat} : IsPr (N : Int) ↔ 2 ≤ N ∧ N ≤ 1000000 ∧ prS N := by
  unfold IsPr
  rw [Int.toNat_natCast]
  constructor
  · rintro ⟨a, b, c⟩; exact ⟨by omega, by omega, c⟩
  · rintro ⟨a, b, c⟩; exact ⟨by omega, by omega, c⟩

set_option maxRecDepth 100000 in
set_option maxHeartbeats 1000000 in
theorem prime_any (n : Int) (w : World) : Calls Tryz.prog 74 #[.int .i64 n] w fun e w' => ∃ v, e = .returned v ∧ IsPrV n v ∧ w = w' := by
  by_cases h1 : n < 2
  · have HN : Hid (¬ IsPr n) := Lib.hid (fun h => by have := h.1; omega)
    go_enter Tryz.func74, Tryz.ntmps74
    go_wp2_with fail
    refine wp_scope_fwd 0 rfl ?_
    go_wp2_with fail
    rw [jump_ret]
    go_ret
    exact ⟨_, rfl, ⟨false, rfl, by simp [HN.out]⟩, rfl⟩
  by_cases h2 : 1000000 < n
  · have HN : Hid (¬ IsPr n) := Lib.hid (fun h => by have := h.2.1; omega)
    go_enter Tryz.func74, Tryz.ntmps74
    go_wp2_with fail
    refine wp_scope_fwd 0 rfl ?_
    go_wp2_with fail
    rw [jump_ret]
    go_ret
    exact ⟨_, rfl, ⟨false, rfl, by simp [HN.out]⟩, rfl⟩
  obtain ⟨N, rfl⟩ : ∃ N : Nat, n = N := ⟨n.toNat, by omega⟩
  have hN : 2 ≤ N ∧ N ≤ 1000000 := by omega
  have HI := Lib.hid (IsPr.nat (N := N))
  go_enter Tryz.func74, Tryz.ntmps74
  go_wp2_with fail
  refine wp_scope_fwd 0 rfl ?_
  go_wp2_with fail
  refine wp_label ?_
  go_wp2_with fail
  go_loopw [3, 4] (fun bv iv wr => ∃ d : Nat, 2 ≤ d ∧ d ≤ 1001 ∧ iv = .int .i64 d ∧ bv = .bool true ∧ Hid (∀ e, 2 ≤ e → e < d → N % e ≠ 0) ∧ wr = w) (fun _ iv _ => 1002 - (intOf iv).toNat)
  case atStart => exact ⟨2, by omega, by omega, rfl, rfl, Lib.hid (fun e h1 h2 => by omega), rfl⟩
  case round =>
    obtain ⟨d, hd, hd1, rfl, rfl, HP, rfl⟩ := hrel
    have hdd : (d : Int) * (d : Int) = ((d * d : Nat) : Int) := by push_cast; rfl
    have hd0 : ¬ d = 0 := by omega
    have hdb : d * d ≤ 1001 * 1001 := Nat.mul_le_mul hd1 hd1
    have hww : IntKind.i64.wrap ((d * d : Nat) : Int) = ((d * d : Nat) : Int) := by rw [IntKind.wrap_i64]; omega
    by_cases hle : d * d ≤ N
    · have hle' : ((d * d : Nat) : Int) ≤ (N : Int) := by omega
      have hd2 : d ≤ 1000 := by
        rcases Nat.lt_or_ge 1000 d with h | h
        · have := Nat.mul_le_mul (show 1001 ≤ d from h) (show 1001 ≤ d from h)
          omega
        · exact h
      have t1 : (N : Int).tmod (d : Int) = ((N % d : Nat) : Int) := rfl
      have t2 : (N : Int) % (d : Int) = ((N % d : Nat) : Int) := rfl
      by_cases hz : N % d = 0
      · have HB : Hid (¬ IsPr (N : Int)) := Lib.hid (fun h => (HI.out.1 h).2.2.2 d hd hle hz)
        rw [hz] at t1 t2
        clear hz HI
        generalize d * d = q at *
        go_wp2_with fail
        rw [jump_ret]
        go_ret
        exact ⟨_, rfl, ⟨false, rfl, by simp [HB.out]⟩, rfl⟩
      · have HP2 : Hid (∀ e, 2 ≤ e → e < d + 1 → N % e ≠ 0) := Lib.hid (fun e h1 h2 => by
          by_cases he : e = d
          · subst he; exact hz
          · exact HP.out e h1 (by omega))
        have hz' : ¬ ((N % d : Nat) : Int) = 0 := by omega
        generalize d * d = q at *
        generalize N % d = r at *
        clear HI
        go_wp2_with fail
        go_roundw
        case rel => exact ⟨d + 1, by omega, by omega, by go_num, rfl, HP2, trivial⟩
        case measure => simp [intOf] <;> omega
    · have hle' : ¬ ((d * d : Nat) : Int) ≤ (N : Int) := by omega
      have HB : Hid (IsPr (N : Int)) := Lib.hid (HI.out.2 ⟨hN.1, hN.2, hN.1, fun e h1 h2 => HP.out e h1 (by
        rcases Nat.lt_or_ge e d with h | h
        · exact h
        · have := Nat.mul_le_mul h h
          omega)⟩)
      generalize d * d = q at *
      clear HI
      go_wp2_with fail
      rw [jump_ret]
      go_ret
      exact ⟨_, rfl, ⟨true, rfl, by simp [HB.out]⟩, rfl⟩

set_option maxRecDepth 100000 in
set_option maxHeartbeats 1000000 in
theorem prime16_any (n : Int) (w : World) : Calls Tryz.prog 28 #[.int .i64 n] w fun e w' => ∃ v, e = .returned v ∧ IsPrV n v ∧ w = w' := by
  by_cases h1 : n < 2
  · have HN : Hid (¬ IsPr n) := Lib.hid (fun h => by have := h.1; omega)
    go_enter Tryz.func28, Tryz.ntmps28
    go_wp2_with fail
    go_ret
    exact ⟨_, rfl, ⟨false, rfl, by simp [HN.out]⟩, rfl⟩
  by_cases h2 : 1000000 < n
  · have HN : Hid (¬ IsPr n) := Lib.hid (fun h => by have := h.2.1; omega)
    go_enter Tryz.func28, Tryz.ntmps28
    go_wp2_with fail
    go_ret
    exact ⟨_, rfl, ⟨false, rfl, by simp [HN.out]⟩, rfl⟩
  obtain ⟨N, rfl⟩ : ∃ N : Nat, n = N := ⟨n.toNat, by omega⟩
  have hN : 2 ≤ N ∧ N ≤ 1000000 := by omega
  have HI : Hid (IsPr (N : Int) ↔ ∀ d, 2 ≤ d → d ≤ 1000 → d < N → N % d ≠ 0) := Lib.hid (by
    rw [IsPr.nat, ← prS_ref hN.1 hN.2]
    exact ⟨fun h => h.2.2.2, fun h => ⟨hN.1, hN.2, hN.1, h⟩⟩)
  go_enter Tryz.func28, Tryz.ntmps28
  go_wp2_with fail
  go_loopw [3] (fun iv wr => ∃ d : Nat, 2 ≤ d ∧ d ≤ 1001 ∧ iv = .int .i64 d ∧ Hid (∀ e, 2 ≤ e → e < d → N % e ≠ 0) ∧ wr = w) (fun iv _ => 1002 - (intOf iv).toNat)
  case atStart => exact ⟨2, by omega, by omega, rfl, Lib.hid (fun e h1 h2 => by omega), rfl⟩
  case round =>
    obtain ⟨d, hd, hd1, rfl, HP, rfl⟩ := hrel
    have hd0 : ¬ d = 0 := by omega
    by_cases hle : d ≤ 1000
    · by_cases hlt : d < N
      · have hle' : (d : Int) ≤ 1000 := by omega
        have hlt' : (d : Int) < (N : Int) := by omega
        have t1 : (N : Int).tmod (d : Int) = ((N % d : Nat) : Int) := rfl
        have t2 : (N : Int) % (d : Int) = ((N % d : Nat) : Int) := rfl
        by_cases hz : N % d = 0
        · have HB : Hid (¬ IsPr (N : Int)) := Lib.hid (fun h => HI.out.1 h d hd hle hlt hz)
          rw [hz] at t1 t2
          clear hz HI
          go_wp2_with fail
          go_ret
          exact ⟨_, rfl, ⟨false, rfl, by simp [HB.out]⟩, rfl⟩
        · have HP2 : Hid (∀ e, 2 ≤ e → e < d + 1 → N % e ≠ 0) := Lib.hid (fun e h1 h2 => by
            by_cases he : e = d
            · subst he; exact hz
            · exact HP.out e h1 (by omega))
          have hz' : ¬ ((N % d : Nat) : Int) = 0 := by omega
          generalize N % d = r at *
          clear HI
          go_wp2_with fail
          go_roundw
          case rel => exact ⟨d + 1, by omega, by omega, by go_num, HP2, trivial⟩
          case measure => simp [intOf] <;> omega
      · have hle' : (d : Int) ≤ 1000 := by omega
        have hlt' : ¬ (d : Int) < (N : Int) := by omega
        have HB : Hid (IsPr (N : Int)) := Lib.hid (HI.out.2 fun e h1 h2 h3 => HP.out e h1 (by omega))
        clear HI
        go_wp2_with fail
        go_ret
        exact ⟨_, rfl, ⟨true, rfl, by simp [HB.out]⟩, rfl⟩
    · have hle' : ¬ (d : Int) ≤ 1000 := by omega
      have HB : Hid (IsPr (N : Int)) := Lib.hid (HI.out.2 fun e h1 h2 h3 => HP.out e h1 (by omega))
      clear HI
      go_wp2_with fail
      go_ret
      exact ⟨_, rfl, ⟨true, rfl, by simp [HB.out]⟩, rfl⟩
end Go.Proofs.YtecblclpchndiaaGreat
