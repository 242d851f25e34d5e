/-
  WALKS: chapter 36's example; a checker that there is not, or that no call made; HealthNil. No condition.
-/
import Derived.Test.YtgbdbeaflilmlaaHealthT
set_option linter.unusedVariables false
set_option linter.unusedSimpArgs false
namespace Go.Proofs.Ytgbdbeaflilmlaa
open Go.RowKit Go.Maps

/-- A record in a row of the call's own. -/
theorem own_rec {α : Type} {enc : α → List Value} {size : Nat} (he : ∀ x, (enc x).length = size) (hs : 0 < size) {w : World} {base : Nat} {e : TypeId} {v : Value} {l : List α} (h : w.ownsRow base e size v l.length (l.flatMap enc)) {i : Nat} {x : α} (hi : l[i]? = some x) :
    ∃ g cap, v = .slice (some ⟨g, 0, none⟩) l.length cap ∧ w.rangeAt g (i * size) (enc x) := by
  have hl : i < l.length := (List.getElem?_eq_some_iff.1 hi).1
  obtain ⟨g, cap, hv, _, _⟩ := own_form h (by omega)
  obtain ⟨b, o, c, hv2, _, _, hc⟩ := Sl.rec he hs (Sl.of_own h) hi
  rw [hv] at hv2
  simp only [Value.slice.injEq, Option.some.injEq, Addr.mk.injEq] at hv2
  obtain ⟨⟨rfl, rfl, _⟩, _, _⟩ := hv2
  refine ⟨g, cap, hv, fun j u hu => ?_⟩
  have hj : j < size := by have := (List.getElem?_eq_some_iff.1 hu).1; rw [he] at this; exact this
  have := hc j hj
  rw [Nat.zero_add] at this
  rw [this, hu]
def cA36 : CK := (addC ⟨0, []⟩ 1).1
def cN36 : Nat → CK
  | 0 => tickC cA36
  | k + 1 => tickC (cN36 k)
theorem infPr {a s : Int} : (Try.prog.info? 32).map (·.size) = some (#[Value.int .i64 a, .int .i64 s] : Array Value).size := by
  show _ = some 2
  kernel_rfl

set_option maxRecDepth 100000 in
set_option maxHeartbeats 2000000 in
theorem lives36 (w : World) : Calls Try.prog 12 #[] w fun e w' => e = .returned (.bool true) ∧ Chg [] w w' := by
  have A1 : Hid ((addC ⟨0, []⟩ 1).2 = true) := Lib.hid (by decide +kernel)
  have A2 : Hid (probesC cA36 = [(1, 1)]) := Lib.hid (by decide +kernel)
  have A3 : Hid (downsC (cN36 11) = [1]) := Lib.hid (by decide +kernel)
  have A4 : Hid (upC (cN36 11) 1 = true) := Lib.hid (by decide +kernel)
  have A5 : Hid (upC (cN36 12) 1 = false) := Lib.hid (by decide +kernel)
  have hw1 : (Lit.int .i64 1).wf = true := by decide +kernel
  have HW1 := Lib.hid hw1
  clear hw1
  go_enter Try.func12, Try.ntmps12
  go_wp2_with fail
  refine (hnew_any w).mono ?_
  rintro e w1 ⟨cb, S, rfl, hS⟩
  have F1 := Lib.hid (hadd_any hS (by omega) HW1.out)
  rw [A1.out] at F1
  clear hS
  go_wp2_with fail
  refine F1.out.mono ?_
  rintro e w2 ⟨rfl, S2, hS2, _, _⟩
  have F2 := Lib.hid (htick_any (c := cA36) hS2 (by omega))
  clear hS2 F1
  go_wp2_with fail
  refine F2.out.mono ?_
  rintro e w3 ⟨pv, xv, rfl, S3, hS3, _, _, hp, _, hap, _⟩
  have HI := Lib.hid (And.intro hS3 (And.intro hp hap))
  clear hS3 hp hap F2
  go_wp2_with fail
  go_loopw [4] (fun iv wr => ∃ (k : Nat) (Sk : List Nat), k ≤ 11 ∧ iv = .int .i64 k ∧ Hid (CkS w wr cb (0 + 1 + 1 + k) (cN36 k) Sk ∧ wr.ownsRow w2.heap.size 32 2 pv (probesC cA36).length ((probesC cA36).flatMap encPr) ∧ Apart pv.ownBlock.toList Sk)) (fun iv _ => 11 - (intOf iv).toNat)
  case atStart => exact ⟨0, S3, by omega, rfl, HI⟩
  case round =>
    obtain ⟨k, Sk, hk, rfl, HK⟩ := hrel
    by_cases hlt : k < 11
    · have F3 := Lib.hid (htick_any HK.out.1 (by omega))
      clear HI
      go_wp2_with fail
      refine F3.out.mono ?_
      rintro e w4 ⟨pv4, xv4, rfl, S4, hS4, hc4, hn4, _, _, _, _⟩
      have HK4 : Hid (CkS w w4 cb (0 + 1 + 1 + (k + 1)) (cN36 (k + 1)) S4 ∧ w4.ownsRow w2.heap.size 32 2 pv (probesC cA36).length ((probesC cA36).flatMap encPr) ∧ Apart pv.ownBlock.toList S4) :=
        Lib.hid ⟨hS4, own_chg HK.out.2.1 hc4 HK.out.2.2, (HK.out.2.2.symm.grow hn4 (fun x hx => (own_lt HK.out.2.1 x hx).2)).symm⟩
      clear hS4 hc4 hn4 HK F3
      go_wp2_with fail
      go_roundw
      case rel => exact ⟨k + 1, S4, by omega, by go_num, HK4⟩
      case measure => simp [intOf]; omega
    · obtain rfl : k = 11 := by omega
      have F3 := Lib.hid (hup_any HK.out.1 HW1.out)
      have F4 := Lib.hid (htick_any HK.out.1 (by omega))
      rw [A4.out] at F3
      clear HI
      go_wp2_with fail
      refine F3.out.mono ?_
      rintro e w4 ⟨rfl, rfl⟩
      clear F3
      go_wp2_with fail
      refine F4.out.mono ?_
      rintro e w5 ⟨pv5, xv5, rfl, S5, hS5, hc5, hn5, _, hx5, _, _⟩
      have hp5 := own_chg HK.out.2.1 hc5 HK.out.2.2
      have HC5 := Lib.hid hS5.chg
      have F5 := Lib.hid (hup_any (c := cN36 12) hS5 HW1.out)
      rw [A5.out] at F5
      rw [A2.out] at hp5
      rw [A3.out] at hx5
      obtain ⟨g, cap, rfl, hr1⟩ := own_rec encPr_len (by omega) hp5 (i := 0) (x := (1, 1)) rfl
      obtain ⟨g2, cap2, rfl, hr2⟩ := own_rec encDn_len (by omega) hx5 (i := 0) (x := 1) rfl
      have R1 : w5.rangeAt g 0 (#[.int .i64 1, .int .i64 1] : Array Value).toList := hr1
      have R2 : w5.rangeAt g2 0 (#[.int .i64 1, .bool false] : Array Value).toList := hr2
      have H1 := Lib.hid R1
      have H2 := Lib.hid R2
      simp only [List.length_singleton] at *
      clear HK F4 hS5 hc5 hn5 hx5 hp5 hr1 hr2 R1 R2
      go_wp2_with (first
        | (refine wpList_row 32 (.tmp 39) rfl rfl g 0 rfl _ _ H1.out Try.underlying32 rfl infPr ?_)
        | (refine wpList_row 34 (.tmp 59) rfl rfl g2 0 rfl _ _ H2.out Try.underlying34 rfl infCh ?_)
        | fail)
      refine F5.out.mono ?_
      rintro e w6 ⟨rfl, rfl⟩
      go_wp2_with (first
        | (refine wpList_row 34 (.tmp 59) rfl rfl g2 0 rfl _ _ H2.out Try.underlying34 rfl infCh ?_)
        | fail)
      go_ret
      exact ⟨rfl, HC5.out⟩
end Go.Proofs.Ytgbdbeaflilmlaa
