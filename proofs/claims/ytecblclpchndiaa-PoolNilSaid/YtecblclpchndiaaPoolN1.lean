/-
  A pool that there is not, or that no call made (PoolNil): what its methods tell. Printed by wip/tools/gen_n35.py.
-/
import Derived.Test.YtecblclpchndiaaPool5
set_option linter.unusedVariables false
set_option linter.unusedSimpArgs false
namespace Go.Proofs.Ytecblclpchndiaa
open Go.RowKit
section
variable {w : World} {p : Option Addr}
/-- The method 'is' says no. -/
def IsNo35 (w : World) (p : Option Addr) : Prop := ∀ W, Chg [] w W → Calls Try.prog 36 #[.pointer p] W fun e w' => e = .returned (.bool false) ∧ W = w'
theorem IsNo35.chg0 {w' : World} (h : IsNo35 w p) (hc : Chg [] w w') : IsNo35 w' p := fun W h2 => h W (hc.trans h2)
theorem isno35_nil (w : World) : IsNo35 w none := fun W _ => by
  go_enter Try.func36, Try.ntmps36
  go_wp2_with fail
  go_ret
  exact ⟨rfl, rfl⟩
theorem isno35_blk {g : Nat} (h : Blk w g 47 #[.int .u64 0, .int .u64 0, .slice none 0 0, .pointer none]) : IsNo35 w (some ⟨g, 0, none⟩) := fun W hc => by
  have c3 : W.cell? ⟨g, 3, none⟩ = some (.pointer none) := (h.chg hc (by simp)).cell 3
  go_enter Try.func36, Try.ntmps36
  go_wp2_with fail
  go_ret
  exact ⟨rfl, rfl⟩
theorem nhas35 (h : IsNo35 w p) (n : Int) : Calls Try.prog 18 #[.pointer p, .int .i64 n] w fun e w' => e = .returned (.bool false) ∧ Chg [] w w' := by
  have F1 := Lib.hid (h w (Chg.refl _ _))
  clear h
  go_enter Try.func18, Try.ntmps18
  go_wp2_with fail
  refine F1.out.mono ?_
  rintro e w1 ⟨rfl, rfl⟩
  go_wp2_with fail
  go_ret
  exact ⟨rfl, Chg.refl _ _⟩
theorem nall35 (h : IsNo35 w p) : Calls Try.prog 19 #[.pointer p] w fun e w' => e = .returned (.slice none 0 0) ∧ Chg [] w w' := by
  have F1 := Lib.hid (h w (Chg.refl _ _))
  clear h
  go_enter Try.func19, Try.ntmps19
  go_wp2_with fail
  refine F1.out.mono ?_
  rintro e w1 ⟨rfl, rfl⟩
  go_wp2_with fail
  go_ret
  exact ⟨rfl, Chg.refl _ _⟩
theorem nver35 (h : IsNo35 w p) : Calls Try.prog 21 #[.pointer p] w fun e w' => e = .returned (.slice none 0 0) ∧ Chg [] w w' := by
  have F1 := Lib.hid (h w (Chg.refl _ _))
  clear h
  go_enter Try.func21, Try.ntmps21
  go_wp2_with fail
  refine F1.out.mono ?_
  rintro e w1 ⟨rfl, rfl⟩
  go_wp2_with fail
  go_ret
  exact ⟨rfl, Chg.refl _ _⟩
theorem nprs35 (h : IsNo35 w p) (u : Int) : Calls Try.prog 22 #[.pointer p, .int .u64 u] w fun e w' => e = .returned (.slice none 0 0) ∧ Chg [] w w' := by
  have F1 := Lib.hid (h w (Chg.refl _ _))
  clear h
  go_enter Try.func22, Try.ntmps22
  go_wp2_with fail
  refine F1.out.mono ?_
  rintro e w1 ⟨rfl, rfl⟩
  go_wp2_with fail
  go_ret
  exact ⟨rfl, Chg.refl _ _⟩
theorem nchg35 (h : IsNo35 w p) (now : Int) (f : Nat) (caps : Array Value) : Calls Try.prog 48 #[.pointer p, .int .i64 now, .func (.func f) #[] caps] w fun e w' => e = .returned (.int .i64 1) ∧ Chg [] w w' := by
  have F1 := Lib.hid (h w (Chg.refl _ _))
  clear h
  go_enter Try.func48, Try.ntmps48
  go_wp2_with fail
  refine F1.out.mono ?_
  rintro e w1 ⟨rfl, rfl⟩
  go_wp2_with fail
  go_ret
  exact ⟨rfl, Chg.refl _ _⟩
theorem mem35_nil (w : World) : Calls Try.prog 39 #[.slice none 0 0] w fun e w' => e = .returned (.slice none 0 0) ∧ Chg [] w w' := by
  go_enter Try.func39, Try.ntmps39
  go_wp2_with fail
  go_loopw [3, 9] (fun nv iv wr => nv = .slice none 0 0 ∧ iv = .int .i64 0 ∧ w = wr) (fun _ _ _ => 0)
  case atStart => exact ⟨rfl, rfl, rfl⟩
  case round =>
    obtain ⟨rfl, rfl, rfl⟩ := hrel
    go_wp2_with fail
    go_ret
    exact ⟨rfl, Chg.refl _ _⟩
theorem nmem35 (h : IsNo35 w p) : Calls Try.prog 20 #[.pointer p] w fun e w' => e = .returned (.slice none 0 0) ∧ Chg [] w w' := by
  have F1 := Lib.hid (nall35 h)
  clear h
  go_enter Try.func20, Try.ntmps20
  go_wp2_with fail
  refine F1.out.mono ?_
  rintro e w1 ⟨rfl, hc⟩
  have HC := Lib.hid hc
  clear hc F1
  go_wp2_with fail
  refine (mem35_nil w1).mono ?_
  rintro e w2 ⟨rfl, hc2⟩
  have HC2 := Lib.hid (HC.out.trans hc2)
  clear hc2 HC
  go_wp2_with fail
  go_ret
  exact ⟨rfl, HC2.out⟩
theorem nadd35 (h : IsNo35 w p) (now n wt : Int) : Calls Try.prog 31 #[.pointer p, .int .i64 now, .int .i64 n, .int .i64 wt] w fun e w' => e = .returned (.int .i64 1) ∧ Chg [] w w' := by
  have hA := (((Chg.refl [] w).alloc (.cells #[.int .i64 n] 3)).alloc (.cells #[.int .i64 wt] 3))
  have F := Lib.hid (fun (f : Nat) (caps : Array Value) => nchg35 (h.chg0 hA) now f caps)
  have HA := Lib.hid hA
  clear h hA
  go_enter Try.func31, Try.ntmps31
  go_wp2_with fail
  refine (F.out _ _).mono ?_
  rintro e w2 ⟨rfl, hc2⟩
  have HC2 := Lib.hid (HA.out.trans hc2)
  clear F HA hc2
  go_wp2_with fail
  go_ret
  exact ⟨rfl, HC2.out⟩
theorem nrem35 (h : IsNo35 w p) (now n : Int) : Calls Try.prog 34 #[.pointer p, .int .i64 now, .int .i64 n] w fun e w' => e = .returned (.int .i64 1) ∧ Chg [] w w' := by
  have hA := ((Chg.refl [] w).alloc (.cells #[.int .i64 n] 3))
  have F := Lib.hid (fun (f : Nat) (caps : Array Value) => nchg35 (h.chg0 hA) now f caps)
  have HA := Lib.hid hA
  clear h hA
  go_enter Try.func34, Try.ntmps34
  go_wp2_with fail
  refine (F.out _ _).mono ?_
  rintro e w2 ⟨rfl, hc2⟩
  have HC2 := Lib.hid (HA.out.trans hc2)
  clear F HA hc2
  go_wp2_with fail
  go_ret
  exact ⟨rfl, HC2.out⟩
theorem none35 (h : IsNo35 w p) (now n : Int) (f : Nat) (caps : Array Value) : Calls Try.prog 52 #[.pointer p, .int .i64 now, .int .i64 n, .func (.func f) #[] caps] w fun e w' => e = .returned (.int .i64 1) ∧ Chg [] w w' := by
  have hA := (((Chg.refl [] w).alloc (.cells #[.int .i64 n] 3)).alloc (.cells #[.func (.func f) #[] caps] 82))
  have F := Lib.hid (fun (f : Nat) (caps : Array Value) => nchg35 (h.chg0 hA) now f caps)
  have HA := Lib.hid hA
  clear h hA
  go_enter Try.func52, Try.ntmps52
  go_wp2_with fail
  refine (F.out _ _).mono ?_
  rintro e w2 ⟨rfl, hc2⟩
  have HC2 := Lib.hid (HA.out.trans hc2)
  clear F HA hc2
  go_wp2_with fail
  go_ret
  exact ⟨rfl, HC2.out⟩
theorem nwei35 (h : IsNo35 w p) (now n wt : Int) : Calls Try.prog 32 #[.pointer p, .int .i64 now, .int .i64 n, .int .i64 wt] w fun e w' => e = .returned (.int .i64 1) ∧ Chg [] w w' := by
  have hA := ((Chg.refl [] w).alloc (.cells #[.int .i64 wt] 3))
  have F := Lib.hid (fun (f : Nat) (caps : Array Value) => none35 (h.chg0 hA) now n f caps)
  have HA := Lib.hid hA
  clear h hA
  go_enter Try.func32, Try.ntmps32
  go_wp2_with fail
  refine (F.out _ _).mono ?_
  rintro e w2 ⟨rfl, hc2⟩
  have HC2 := Lib.hid (HA.out.trans hc2)
  clear F HA hc2
  go_wp2_with fail
  go_ret
  exact ⟨rfl, HC2.out⟩
theorem nhea35 (h : IsNo35 w p) (now n : Int) (up : Bool) : Calls Try.prog 35 #[.pointer p, .int .i64 now, .int .i64 n, .bool up] w fun e w' => e = .returned (.int .i64 1) ∧ Chg [] w w' := by
  have hA := ((Chg.refl [] w).alloc (.cells #[.bool up] 4))
  have F := Lib.hid (fun (f : Nat) (caps : Array Value) => none35 (h.chg0 hA) now n f caps)
  have HA := Lib.hid hA
  clear h hA
  go_enter Try.func35, Try.ntmps35
  go_wp2_with fail
  refine (F.out _ _).mono ?_
  rintro e w2 ⟨rfl, hc2⟩
  have HC2 := Lib.hid (HA.out.trans hc2)
  clear F HA hc2
  go_wp2_with fail
  go_ret
  exact ⟨rfl, HC2.out⟩
theorem ndra35 (h : IsNo35 w p) (now n : Int) : Calls Try.prog 33 #[.pointer p, .int .i64 now, .int .i64 n] w fun e w' => e = .returned (.int .i64 1) ∧ Chg [] w w' := by
  have hA := (Chg.refl [] w)
  have F := Lib.hid (fun (f : Nat) (caps : Array Value) => none35 (h.chg0 hA) now n f caps)
  have HA := Lib.hid hA
  clear h hA
  go_enter Try.func33, Try.ntmps33
  go_wp2_with fail
  refine (F.out _ _).mono ?_
  rintro e w2 ⟨rfl, hc2⟩
  have HC2 := Lib.hid (HA.out.trans hc2)
  clear F HA hc2
  go_wp2_with fail
  go_ret
  exact ⟨rfl, HC2.out⟩
end
set_option maxRecDepth 100000 in
set_option maxHeartbeats 4000000 in
theorem ndo35 {w : World} {p : Option Addr} (h : IsNo35 w p) (now : Int) (o : PO) :
    Calls Try.prog 17 #[.pointer p, .int .i64 now, .agg (arrO o)] w fun e w' => e = .returned (.int .i64 1) ∧ Chg [] w w' := by
  obtain ⟨kind, later, n, wt⟩ := o
  have hA := (Chg.refl [] w).alloc (.cells #[.int .i64 kind, .int .i64 later, .int .i64 n, .int .i64 wt] 42)
  have h1 := h.chg0 hA
  have FA := Lib.hid (nadd35 h1 now n wt)
  have FW := Lib.hid (nwei35 h1 now n wt)
  have FD := Lib.hid (ndra35 h1 now n)
  have FR := Lib.hid (nrem35 h1 now n)
  have FH := Lib.hid (fun up => nhea35 h1 now n up)
  have HA := Lib.hid hA
  clear h h1 hA
  obtain ⟨k, hk⟩ : ∃ k, kind.tmod 9 = k := ⟨_, rfl⟩
  have hkw : IntKind.i64.wrap k = k := by
    have h1 := Int.tmod_lt_of_pos kind (b := 9) (by omega)
    have h2 : -9 < kind.tmod 9 := by
      rcases Int.lt_or_le kind 0 with h | h
      · have := Int.neg_tmod kind 9
        have h3 := Int.tmod_lt_of_pos (-kind) (b := 9) (by omega)
        omega
      · have := Int.tmod_nonneg 9 h; omega
    rw [IntKind.wrap_i64]; omega
  by_cases c1 : 0 ≤ k ∧ k ≤ 2
  · obtain ⟨c1, c2⟩ := c1
    clear FW FD FR FH
    go_enter Try.func17, Try.ntmps17
    go_wp2_with fail
    refine FA.out.mono ?_
    rintro e w2 ⟨rfl, hc2⟩
    have HC2 := Lib.hid (HA.out.trans hc2)
    clear hc2
    go_wp2_with fail
    go_ret
    exact ⟨rfl, HC2.out⟩
  · by_cases c3 : k = 3 ∨ k = 4
    · clear FA FD FR FH
      rcases c3 with rfl | rfl
      all_goals
        clear c1
        go_enter Try.func17, Try.ntmps17
        go_wp2_with fail
        refine FW.out.mono ?_
        rintro e w2 ⟨rfl, hc2⟩
        have HC2 := Lib.hid (HA.out.trans hc2)
        clear hc2
        go_wp2_with fail
        go_ret
        exact ⟨rfl, HC2.out⟩
    · by_cases c5 : k = 5
      · subst c5
        clear FA FW FR FH c1 c3
        go_enter Try.func17, Try.ntmps17
        go_wp2_with fail
        refine FD.out.mono ?_
        rintro e w2 ⟨rfl, hc2⟩
        have HC2 := Lib.hid (HA.out.trans hc2)
        clear hc2
        go_wp2_with fail
        go_ret
        exact ⟨rfl, HC2.out⟩
      · by_cases c6 : k = 6
        · subst c6
          clear FA FW FD FH c1 c3 c5
          go_enter Try.func17, Try.ntmps17
          go_wp2_with fail
          refine FR.out.mono ?_
          rintro e w2 ⟨rfl, hc2⟩
          have HC2 := Lib.hid (HA.out.trans hc2)
          clear hc2
          go_wp2_with fail
          go_ret
          exact ⟨rfl, HC2.out⟩
        · have e3 : (k == 3) = false := by simpa using fun e => c3 (.inl e)
          have e4 : (k == 4) = false := by simpa using fun e => c3 (.inr e)
          have e5 : (k == 5) = false := by simpa using c5
          have e6 : (k == 6) = false := by simpa using c6
          have FH2 := Lib.hid (FH.out (k == 8))
          clear FA FW FD FR c3 FH c5 c6
          by_cases c0 : 0 ≤ k
          · have c2 : ¬ k ≤ 2 := fun h => c1 ⟨c0, h⟩
            clear c1
            go_enter Try.func17, Try.ntmps17
            go_wp2_with fail
            refine FH2.out.mono ?_
            rintro e w2 ⟨rfl, hc2⟩
            have HC2 := Lib.hid (HA.out.trans hc2)
            clear hc2
            go_wp2_with fail
            go_ret
            exact ⟨rfl, HC2.out⟩
          · clear c1
            go_enter Try.func17, Try.ntmps17
            go_wp2_with fail
            refine FH2.out.mono ?_
            rintro e w2 ⟨rfl, hc2⟩
            have HC2 := Lib.hid (HA.out.trans hc2)
            clear hc2
            go_wp2_with fail
            go_ret
            exact ⟨rfl, HC2.out⟩
end Go.Proofs.Ytecblclpchndiaa
