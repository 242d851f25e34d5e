/-
  WALKS: for how many hashes others are chosen, in package shift and by the document's answer; chapter 19's example. Conditions: the tables read as at most 200 integers, the hashes are at most 50.
-/
import Derived.Test.YtimnkcjpgglpdaaShiftMoves
set_option linter.unusedVariables false
set_option linter.unusedSimpArgs false
namespace Go.Proofs.Ytimnkcjpgglpdaa
open Go.RowKit

/-- The slice v reads as the hashes hs. -/
def SlU (w : World) (B : Nat) (v : Value) (hs : List Nat) : Prop := Sl w B 1 v hs.length (hs.map fun h : Nat => Value.int .u64 (h : Int))
theorem SlU.one {w : World} {B : Nat} {A : Option Addr} {c : Nat} {hs : List Nat} {n : Nat} (h : SlU w B (.slice A n c) hs) (hn : hs.length = n) {i : Nat} (hi : i < n) :
    ∃ b o, A = some ⟨b, o, none⟩ ∧ w.cell? ⟨b, o + i, none⟩ = some (.int .u64 ((hs[i]?.getD 0 : Nat) : Int)) := by
  obtain ⟨b, o, c', hv, _, _, hx⟩ := Sl.at_ h (k := i) (by omega) (by omega)
  simp only [Value.slice.injEq] at hv
  obtain ⟨rfl, _, _⟩ := hv
  refine ⟨b, o, rfl, ?_⟩
  have := hx 0 (by omega)
  simp only [Nat.mul_one, Nat.add_zero, List.getElem?_map] at this
  rw [this, List.getElem?_eq_getElem (by omega)]
  rfl
def tdiff (l l' : List Int) (u : Nat) : Bool := (twoA l u != twoA l' u) || (twoB l u != twoB l' u)
def turnK (l l' : List Int) (hs : List Nat) (k : Nat) : Nat := cnt (fun i => tdiff l l' (hs[i]?.getD 0)) k

set_option maxRecDepth 100000 in
set_option maxHeartbeats 1000000 in
theorem turned_any {w : World} {B B' B2 : Nat} {v v' v2 : Value} {l l' : List Int} {hs : List Nat} (h : SlZ w B v l) (h' : SlZ w B' v' l') (h2 : SlU w B2 v2 hs) (hl : l.length ≤ 200) (hl' : l'.length ≤ 200) (hh : hs.length ≤ 50) (hu : ∀ u ∈ hs, u < 18446744073709551616) :
    Calls Try.prog 25 #[v, v', v2] w fun e w' => e = .returned (.int .i64 (turnK l l' hs hs.length)) ∧ Chg [] w w' := by
  have HU := Lib.hid (fun i : Nat => show hs[i]?.getD 0 < 18446744073709551616 from by
    cases e : hs[i]? with
    | none => decide
    | some u => exact hu u (List.mem_of_getElem? e))
  have HC := Lib.hid (fun (u : Nat) w1 (hc : Chg [] w w1) (hb : u < 18446744073709551616) => two_any (w := w1) u (h.chg0 hc) (by omega) hb)
  have HC' := Lib.hid (fun (u : Nat) w1 (hc : Chg [] w w1) (hb : u < 18446744073709551616) => two_any (w := w1) u (h'.chg0 hc) (by omega) hb)
  obtain ⟨A1, c1, rfl⟩ := Sl.form h
  obtain ⟨A2, c2, rfl⟩ := Sl.form h'
  obtain ⟨A3, c3, rfl⟩ := Sl.form h2
  have HS := Lib.hid (fun w1 (hc : Chg [] w w1) => (show SlU w1 B2 (.slice A3 hs.length c3) hs from Sl.chg0 h2 hc))
  clear h h' h2 hu
  generalize hn : l.length = n at *
  generalize hm : l'.length = m at *
  generalize hq : hs.length = q at *
  go_enter Try.func25, Try.ntmps25
  go_wp2_with fail
  go_loopw [7, 16] (fun nv iv wr => ∃ k : Nat, k ≤ q ∧ iv = .int .i64 k ∧ nv = .int .i64 (turnK l l' hs k) ∧ Chg [] w wr) (fun _ iv _ => q - (intOf iv).toNat)
  case atStart => exact ⟨0, by omega, rfl, by simp [turnK, cnt_zero], Chg.refl _ _⟩
  case round =>
    obtain ⟨k, hk, rfl, rfl, hcw⟩ := hrel
    by_cases hlt : k < q
    · obtain ⟨b, o, rfl, hca⟩ := SlU.one (HS.out wr hcw) hq (i := k) (by omega)
      have hs1 : turnK l l' hs (k + 1) = turnK l l' hs k + if tdiff l l' (hs[k]?.getD 0) = true then 1 else 0 := cnt_succ _ _
      have hcl : turnK l l' hs k ≤ k := cnt_le _ _
      have hub := HU.out k
      generalize turnK l l' hs k = N at *
      generalize hs[k]?.getD 0 = u at *
      have F1 := Lib.hid (HC.out u wr hcw hub)
      have F2 := Lib.hid (fun w1 (hc : Chg [] wr w1) => HC'.out u w1 (hcw.trans hc) hub)
      have hcb : Hid (∀ w1, Chg [] wr w1 → w1.cell? ⟨b, o + k, none⟩ = some (.int .u64 (u : Int))) := Lib.hid fun w1 hc => hc.cell hca (by simp)
      have hw1 : IntKind.i64.wrap ((N : Int) + 1) = (N : Int) + 1 := by rw [IntKind.wrap_i64]; omega
      unfold tdiff at hs1
      generalize twoA l u = a at *
      generalize twoB l u = b1 at *
      generalize twoA l' u = a' at *
      generalize twoB l' u = b1' at *
      have HS1 := Lib.hid hs1
      clear hs1 HC HC' HS HU hub
      go_wp2_with fail
      refine F1.out.mono ?_
      rintro e w1 ⟨rfl, hc1⟩
      have F3 := Lib.hid (F2.out w1 hc1)
      have hcc := hcb.out w1 hc1
      clear F1 F2
      go_wp2_with fail
      refine F3.out.mono ?_
      rintro e w2 ⟨rfl, hc2⟩
      have hcz := (hcw.trans hc1).trans hc2
      clear F3 hcb hcc
      cases hp : (a != a') with
      | true =>
        have hE : Hid (turnK l l' hs (k + 1) = N + 1) := Lib.hid (by rw [HS1.out, hp]; simp)
        go_wp2_with fail
        go_roundw
        case rel => exact ⟨k + 1, by omega, by go_num, by rw [hE.out]; push_cast; rfl, hcz⟩
        case measure => simp [intOf]; omega
      | false =>
        cases hp2 : (b1 != b1') with
        | true =>
          have hE : Hid (turnK l l' hs (k + 1) = N + 1) := Lib.hid (by rw [HS1.out, hp, hp2]; simp)
          go_wp2_with fail
          go_roundw
          case rel => exact ⟨k + 1, by omega, by go_num, by rw [hE.out]; push_cast; rfl, hcz⟩
          case measure => simp [intOf]; omega
        | false =>
          have hE : Hid (turnK l l' hs (k + 1) = N) := Lib.hid (by rw [HS1.out, hp, hp2]; simp)
          go_wp2_with fail
          go_roundw
          case rel => exact ⟨k + 1, by omega, by go_num, by rw [hE.out], hcz⟩
          case measure => simp [intOf]; omega
    · obtain rfl : k = q := by omega
      generalize hr : turnK l l' hs k = r at *
      have HRr := Lib.hid hr
      clear hr
      clear HC HC' HS HU
      go_wp2_with fail
      go_ret
      exact ⟨by rw [HRr.out]; rfl, hcw⟩

set_option maxRecDepth 100000 in
set_option maxHeartbeats 1000000 in
theorem turned19_any {w : World} {B B' B2 : Nat} {v v' v2 : Value} {l l' : List Int} {hs : List Nat} (h : SlZ w B v l) (h' : SlZ w B' v' l') (h2 : SlU w B2 v2 hs) (hl : l.length ≤ 200) (hl' : l'.length ≤ 200) (hh : hs.length ≤ 50) (hu : ∀ u ∈ hs, u < 18446744073709551616) :
    Calls Try.prog 26 #[v, v', v2] w fun e w' => e = .returned (.int .i64 (turnK l l' hs hs.length)) ∧ Chg [] w w' := by
  have HU := Lib.hid (fun i : Nat => show hs[i]?.getD 0 < 18446744073709551616 from by
    cases e : hs[i]? with
    | none => decide
    | some u => exact hu u (List.mem_of_getElem? e))
  have HC := Lib.hid (fun (u : Nat) w1 (hc : Chg [] w w1) (hb : u < 18446744073709551616) => two18_any (w := w1) u (h.chg0 hc) (by omega) hb)
  have HC' := Lib.hid (fun (u : Nat) w1 (hc : Chg [] w w1) (hb : u < 18446744073709551616) => two18_any (w := w1) u (h'.chg0 hc) (by omega) hb)
  obtain ⟨A1, c1, rfl⟩ := Sl.form h
  obtain ⟨A2, c2, rfl⟩ := Sl.form h'
  obtain ⟨A3, c3, rfl⟩ := Sl.form h2
  have HS := Lib.hid (fun w1 (hc : Chg [] w w1) => (show SlU w1 B2 (.slice A3 hs.length c3) hs from Sl.chg0 h2 hc))
  clear h h' h2 hu
  generalize hn : l.length = n at *
  generalize hm : l'.length = m at *
  generalize hq : hs.length = q at *
  go_enter Try.func26, Try.ntmps26
  go_wp2_with fail
  go_loopw [7, 8] (fun nv iv wr => ∃ k : Nat, k ≤ q ∧ iv = .int .i64 k ∧ nv = .int .i64 (turnK l l' hs k) ∧ Chg [] w wr) (fun _ iv _ => q - (intOf iv).toNat)
  case atStart => exact ⟨0, by omega, rfl, by simp [turnK, cnt_zero], Chg.refl _ _⟩
  case round =>
    obtain ⟨k, hk, rfl, rfl, hcw⟩ := hrel
    by_cases hlt : k < q
    · obtain ⟨b, o, rfl, hca⟩ := SlU.one (HS.out wr hcw) hq (i := k) (by omega)
      have hs1 : turnK l l' hs (k + 1) = turnK l l' hs k + if tdiff l l' (hs[k]?.getD 0) = true then 1 else 0 := cnt_succ _ _
      have hcl : turnK l l' hs k ≤ k := cnt_le _ _
      have hub := HU.out k
      generalize turnK l l' hs k = N at *
      generalize hs[k]?.getD 0 = u at *
      have F1 := Lib.hid (HC.out u wr hcw hub)
      have F2 := Lib.hid (fun w1 (hc : Chg [] wr w1) => HC'.out u w1 (hcw.trans hc) hub)
      have hcb : Hid (∀ w1, Chg [] wr w1 → w1.cell? ⟨b, o + k, none⟩ = some (.int .u64 (u : Int))) := Lib.hid fun w1 hc => hc.cell hca (by simp)
      have hw1 : IntKind.i64.wrap ((N : Int) + 1) = (N : Int) + 1 := by rw [IntKind.wrap_i64]; omega
      unfold tdiff at hs1
      generalize twoA l u = a at *
      generalize twoB l u = b1 at *
      generalize twoA l' u = a' at *
      generalize twoB l' u = b1' at *
      have HS1 := Lib.hid hs1
      clear hs1 HC HC' HS HU hub
      go_wp2_with fail
      refine F1.out.mono ?_
      rintro e w1 ⟨rfl, rfl⟩
      have F3 := Lib.hid (F2.out wr (Chg.refl _ _))
      clear F1 F2 hcb
      go_wp2_with fail
      refine F3.out.mono ?_
      rintro e w2 ⟨rfl, rfl⟩
      have hcz := hcw
      clear F3
      cases hp : (a != a') with
      | true =>
        have hE : Hid (turnK l l' hs (k + 1) = N + 1) := Lib.hid (by rw [HS1.out, hp]; simp)
        go_wp2_with fail
        go_roundw
        case rel => exact ⟨k + 1, by omega, by go_num, by rw [hE.out]; push_cast; rfl, hcz⟩
        case measure => simp [intOf]; omega
      | false =>
        cases hp2 : (b1 != b1') with
        | true =>
          have hE : Hid (turnK l l' hs (k + 1) = N + 1) := Lib.hid (by rw [HS1.out, hp, hp2]; simp)
          go_wp2_with fail
          go_roundw
          case rel => exact ⟨k + 1, by omega, by go_num, by rw [hE.out]; push_cast; rfl, hcz⟩
          case measure => simp [intOf]; omega
        | false =>
          have hE : Hid (turnK l l' hs (k + 1) = N) := Lib.hid (by rw [HS1.out, hp, hp2]; simp)
          go_wp2_with fail
          go_roundw
          case rel => exact ⟨k + 1, by omega, by go_num, by rw [hE.out], hcz⟩
          case measure => simp [intOf]; omega
    · obtain rfl : k = q := by omega
      generalize hr : turnK l l' hs k = r at *
      have HRr := Lib.hid hr
      clear hr
      clear HC HC' HS HU
      go_wp2_with fail
      go_ret
      exact ⟨by rw [HRr.out]; rfl, hcw⟩

end Go.Proofs.Ytimnkcjpgglpdaa
