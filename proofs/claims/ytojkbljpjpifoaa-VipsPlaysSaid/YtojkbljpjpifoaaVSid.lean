/-
  WALKS: which addresses are segments of our own: package sid's answer and the document's. Condition: each is sixteen bytes.
-/
import Derived.Test.YtojkbljpjpifoaaVLess
import Derived.Deep.DeepCutAuto
import Derived.Laws.BitsAllLaws
set_option linter.unusedVariables false
set_option linter.unusedSimpArgs false
namespace Go.Proofs.Ytojkbljpjpifoaa
open Go.RowKit Go.Maps

theorem is_oct (A : Option Addr) (n c at_ m : Nat) (w : World) (h : m + at_ ≤ n) (hn : n ≤ 100) :
    Calls Try.prog 66 #[.slice A n c, .int .i64 at_, .int .i64 m] w fun e w' => e = .returned (.bool true) ∧ w = w' := by
  have h1 : (0 : Int) ≤ (at_ : Int) := by omega
  have h2 : (0 : Int) ≤ (m : Int) := by omega
  have h3 : (at_ : Int) ≤ (n : Int) := by omega
  have h4 : (m : Int) ≤ (n : Int) - (at_ : Int) := by omega
  have hw : IntKind.i64.wrap ((n : Int) - (at_ : Int)) = (n : Int) - (at_ : Int) := by rw [IntKind.wrap_i64]; omega
  clear h hn
  go_enter Try.func66, Try.ntmps66
  go_wp2
  go_ret
  exact ⟨rfl, rfl⟩
theorem piece16 (g : Nat) (w : World) :
    Calls Try.prog 67 #[.slice (some ⟨g, 0, none⟩) 16 16, .int .i64 8, .int .i64 2] w fun e w' => e = .returned (.slice (some ⟨g, 8, none⟩) 2 2) ∧ w = w' := by
  go_enter Try.func67, Try.ntmps67
  go_wp2
  go_ret
  exact ⟨rfl, rfl⟩
theorem piece32 (g : Nat) (w : World) :
    Calls Try.prog 67 #[.slice (some ⟨g, 0, none⟩) 16 16, .int .i64 12, .int .i64 4] w fun e w' => e = .returned (.slice (some ⟨g, 12, none⟩) 4 4) ∧ w = w' := by
  go_enter Try.func67, Try.ntmps67
  go_wp2
  go_ret
  exact ⟨rfl, rfl⟩
theorem or_i64 {x y : Int} (hx0 : 0 ≤ x) (hx1 : x ≤ 255) (hy0 : 0 ≤ y) (hy1 : y ≤ 255) : bits .or .i64 (x * 256) y = x * 256 + y := by
  obtain ⟨n0, rfl⟩ := Int.eq_ofNat_of_zero_le hx0
  obtain ⟨n1, rfl⟩ := Int.eq_ofNat_of_zero_le hy0
  have e : ((n0 : Int) * 256) = ((n0 * 256 : Nat) : Int) := by omega
  rw [e]
  have h1 : (BitVec.ofInt 64 ((n0 * 256 : Nat) : Int)).toNat = n0 * 256 := by
    rw [BitVec.ofInt_natCast, BitVec.toNat_ofNat]; exact Nat.mod_eq_of_lt (by omega)
  have h2 : (BitVec.ofInt 64 (n1 : Int)).toNat = n1 := by
    rw [BitVec.ofInt_natCast, BitVec.toNat_ofNat]; exact Nat.mod_eq_of_lt (by omega)
  show IntKind.i64.wrap ((BitVec.ofInt 64 ((n0 * 256 : Nat) : Int) ||| BitVec.ofInt 64 (n1 : Int)).toNat : Int) = _
  rw [BitVec.toNat_or, h1, h2, nat_join 8 (n0 * 256) n1 (by omega) (by omega), IntKind.wrap_i64]
  omega
theorem or_u32 {x y : Int} (hx0 : 0 ≤ x) (hx1 : x < 16777216) (hy0 : 0 ≤ y) (hy1 : y ≤ 255) : bits .or .u32 (x * 256) y = x * 256 + y := by
  obtain ⟨n0, rfl⟩ := Int.eq_ofNat_of_zero_le hx0
  obtain ⟨n1, rfl⟩ := Int.eq_ofNat_of_zero_le hy0
  have e : ((n0 : Int) * 256) = ((n0 * 256 : Nat) : Int) := by omega
  rw [e, u32_or_nat (n0 * 256) n1 (by omega) (by omega), nat_join 8 (n0 * 256) n1 (by omega) (by omega)]
  omega
set_option maxHeartbeats 1000000 in
theorem u16_at {g : Nat} {x y : Int} {w : World} (hx : w.cell? ⟨g, 8, none⟩ = some (.int .u8 x)) (hy : w.cell? ⟨g, 9, none⟩ = some (.int .u8 y)) (hx0 : 0 ≤ x) (hx1 : x ≤ 255) (hy0 : 0 ≤ y) (hy1 : y ≤ 255) :
    Calls Try.prog 49 #[.slice (some ⟨g, 0, none⟩) 16 16, .int .i64 8] w fun e w' => e = .returned (.tuple #[.int .i64 (x * 256 + y), .bool true]) ∧ ∃ q, w' = w.drewN q := by
  have F1 := Lib.hid (is_oct (some ⟨g, 0, none⟩) 16 16 8 2 w (by omega) (by omega))
  have F2 := Lib.hid (piece16 g w)
  have hb := or_i64 hx0 hx1 hy0 hy1
  go_enter Try.func49, Try.ntmps49
  go_wp2_with fail
  refine F1.out.mono ?_
  rintro e w1 ⟨rfl, rfl⟩
  go_wp2_with fail
  refine F2.out.mono ?_
  rintro e w1 ⟨rfl, rfl⟩
  go_wp2_with fail
  go_quiet (fail)
  go_wp2_with fail
  go_ret2
  exact ⟨rfl, _, rfl⟩
def val32 (l : List Int) : Int := l.foldl (fun n c => n * 256 + c) 0
theorem val32_snoc (l : List Int) (c : Int) : val32 (l ++ [c]) = val32 l * 256 + c := by simp [val32]
set_option maxRecDepth 100000 in
set_option maxHeartbeats 1000000 in
theorem u32_at {g : Nat} {l : List Int} {w : World} (h4 : l.length = 4) (hc : ∀ i, i < 4 → w.cell? ⟨g, 12 + i, none⟩ = some (.int .u8 (l[i]?.getD 0))) (hl : ∀ x ∈ l, 0 ≤ x ∧ x ≤ 255) :
    Calls Try.prog 50 #[.slice (some ⟨g, 0, none⟩) 16 16, .int .i64 12] w fun e w' => e = .returned (.tuple #[.int .u32 (val32 l), .bool true]) ∧ w = w' := by
  have F1 := Lib.hid (is_oct (some ⟨g, 0, none⟩) 16 16 12 4 w (by omega) (by omega))
  have F2 := Lib.hid (piece32 g w)
  have HV : Hid (∀ k, k < 4 → 0 ≤ val32 (l.take k) ∧ val32 (l.take k) < 16777216 ∧ val32 (l.take (k + 1)) = val32 (l.take k) * 256 + l[k]?.getD 0 ∧ 0 ≤ l[k]?.getD 0 ∧ l[k]?.getD 0 ≤ 255) := Lib.hid (by
    match l, h4 with
    | [x0, x1, x2, x3], _ =>
      have b0 := hl x0 (by simp); have b1 := hl x1 (by simp); have b2 := hl x2 (by simp); have b3 := hl x3 (by simp)
      intro k hk
      have : k = 0 ∨ k = 1 ∨ k = 2 ∨ k = 3 := by omega
      rcases this with rfl | rfl | rfl | rfl <;> simp [val32] <;> omega)
  have HC := Lib.hid hc
  have H4 : Hid (val32 (l.take 4) = val32 l) := Lib.hid (by rw [← h4, List.take_length])
  clear hl hc h4
  go_enter Try.func50, Try.ntmps50
  go_wp2_with fail
  refine F1.out.mono ?_
  rintro e w1 ⟨rfl, rfl⟩
  go_wp2_with fail
  refine F2.out.mono ?_
  rintro e w1 ⟨rfl, rfl⟩
  clear F1 F2
  go_wp2_with fail
  go_loop [6, 8, 17] (fun nv cv iv => ∃ k : Nat, k ≤ 4 ∧ iv = .int .i64 k ∧ nv = .int .u32 (val32 (l.take k))) (fun _ _ iv => 4 - (intOf iv).toNat)
  case atStart => exact ⟨0, by omega, rfl, by simp [val32]⟩
  case round =>
    obtain ⟨k, hk, rfl, rfl⟩ := hrel
    by_cases hlt : k < 4
    · obtain ⟨v0, v1, v2, c0, c1⟩ := HV.out k hlt
      have hck := HC.out k hlt
      have V2 := Lib.hid v2
      clear v2 HV HC H4
      generalize val32 (l.take k) = n at *
      generalize l[k]?.getD 0 = c at *
      have hw1 : IntKind.u32.wrap (n * 256) = n * 256 := by rw [IntKind.wrap_u32']; omega
      have hb := or_u32 v0 v1 c0 c1
      have hkI : (k : Int) < 4 := by omega
      go_wp2_with fail
      go_round
      case rel => exact ⟨k + 1, by omega, by go_num, by rw [V2.out]⟩
      case measure => simp [intOf]; omega
    · obtain rfl : k = 4 := by omega
      have h4 := H4.out
      go_wp2_with fail
      go_ret2
      exact ⟨rfl, rfl⟩
end Go.Proofs.Ytojkbljpjpifoaa
