/-
  WALKS: MaglevBuilds and MaglevTells. Condition: the members and the table read as such.
-/
import Derived.Test.YtecblclpchndiaaMagE
set_option linter.unusedVariables false
set_option linter.unusedSimpArgs false
namespace Go.Proofs.Ytecblclpchndiaa
open Go.RowKit

set_option maxRecDepth 100000 in
set_option maxHeartbeats 2000000 in
theorem builds17_any (ka kb m : Int) {w : World} {B : Nat} {v : Value} {L : List Mb} (h : SlM w B v L) :
    Calls Try.prog 3 #[.agg #[.int .u64 ka, .int .u64 kb], .int .i64 m, v] w fun e w' => e = .returned (.bool true) ∧ Chg [] w w' := by
  have hA := (Chg.refl [] w).alloc (.cells #[.int .u64 ka, .int .u64 kb] 24)
  have hB1 : Blk (w.alloc (.cells #[.int .u64 ka, .int .u64 kb] 24)) w.heap.size 24 #[.int .u64 ka, .int .u64 kb] := Blk.new _ _ _
  have HA := Lib.hid (And.intro hA (And.intro hB1 (h.chg0 hA)))
  clear hA hB1
  obtain ⟨A, c, rfl⟩ := Sl.form h
  clear h
  by_cases hl : 40 < L.length
  · have hli : (40 : Int) < (L.length : Int) := by omega
    generalize L.length = n at *
    go_enter Try.func3, Try.ntmps3
    go_wp2_with fail
    refine (lives17_any _).mono ?_
    rintro e w1 ⟨rfl, hc1⟩
    go_wp2_with fail
    go_ret
    exact ⟨rfl, HA.out.1.trans hc1⟩
  · have hli : ¬ (40 : Int) < (L.length : Int) := by omega
    have hl2 : L.length ≤ 1000 := by omega
    have F1 := Lib.hid (build_any ka kb m HA.out.2.2 hl2)
    have HB := Lib.hid (fun W (hW : Chg [] (w.alloc (.cells #[.int .u64 ka, .int .u64 kb] 24)) W) => build17_any ka kb m (HA.out.2.2.chg0 hW) hl2)
    have R1 := Lib.hid HA.out.2.1.rangeQ
    generalize hn : L.length = n at *
    clear hn
    go_enter Try.func3, Try.ntmps3
    go_wp2_with (first
      | (refine wpList_row 24 (.tmp 3) rfl rfl w.heap.size 0 rfl _ _ R1.out Try.underlying24 rfl (by kernel_rfl) ?_)
      | fail)
    refine F1.out.mono ?_
    rintro e w2 ⟨v1, c1, rfl, hb1, hc1⟩
    obtain ⟨tl, hst, htb⟩ := hb1.tb
    have F2 := Lib.hid (HB.out w2 hc1)
    have hB2 := HA.out.2.1.chg hc1 (by simp)
    have d0 : w2.cell? ⟨w.heap.size, 0, none⟩ = some (.int .u64 ka) := hB2.cell 0
    have d1 : w2.cell? ⟨w.heap.size, 1, none⟩ = some (.int .u64 kb) := hB2.cell 1
    have HST := Lib.hid (And.intro hst htb)
    have HC1 := Lib.hid (HA.out.1.trans hc1)
    clear F1 HB R1 hb1 hst htb hB2 hc1
    go_wp2_with fail
    refine F2.out.mono ?_
    rintro e w3 ⟨v2, c2, rfl, hb2, hc2⟩
    obtain ⟨tl2, hst2, htb2⟩ := hb2.tb
    obtain ⟨rfl, rfl⟩ := HST.out.2.one htb2 (List.Perm.refl _) rfl
    have hlt : tl.length ≤ 100000 := by
      rcases htb2 with ⟨_, _, e⟩ | ⟨_, _, _, e⟩ | ⟨hm, _, _, L', _, _, e⟩
      · rw [e]; simp
      · rw [e]; simp
      · rw [e, table_len]; omega
    have F3 := Lib.hid (same17_any (HST.out.1.chg0 hc2) hst2 hlt)
    have HC2 := Lib.hid (HC1.out.trans hc2)
    clear F2 d0 d1 HST HC1 hb2 hst2 htb2 hc2 hlt HA
    go_wp2_with fail
    refine F3.out.mono ?_
    rintro e w4 ⟨b, rfl, hbt, hc4⟩
    obtain rfl : b = .bool true := by simpa using hbt
    clear F3 hbt
    go_wp2_with fail
    refine (lives17_any _).mono ?_
    rintro e w5 ⟨rfl, hc5⟩
    go_wp2_with fail
    go_ret
    exact ⟨rfl, (HC2.out.trans hc4).trans hc5⟩

set_option maxRecDepth 100000 in
set_option maxHeartbeats 2000000 in
theorem tells17_any (x : Int) {w : World} {B B' : Nat} {v v' : Value} {L : List Mb} {tl : List Int} (h : SlM w B v L) (h' : SlZ w B' v' tl) :
    Calls Try.prog 5 #[v, v', .int .i64 x] w fun e w' => e = .returned (.bool true) ∧ Chg [] w w' := by
  obtain ⟨A, c, rfl⟩ := Sl.form h
  obtain ⟨A2, c2, rfl⟩ := Sl.form h'
  by_cases hl : 40 < L.length
  · have hli : (40 : Int) < (L.length : Int) := by omega
    clear h h'
    generalize L.length = n at *
    go_enter Try.func5, Try.ntmps5
    go_wp2_with fail
    refine (lives17_any _).mono ?_
    rintro e w1 ⟨rfl, hc1⟩
    go_wp2_with fail
    go_ret
    exact ⟨rfl, hc1⟩
  by_cases hl2 : 300 < tl.length
  · have hli : ¬ (40 : Int) < (L.length : Int) := by omega
    have hli2 : (300 : Int) < (tl.length : Int) := by omega
    clear h h'
    generalize L.length = n at *
    generalize tl.length = n2 at *
    go_enter Try.func5, Try.ntmps5
    go_wp2_with fail
    refine (lives17_any _).mono ?_
    rintro e w1 ⟨rfl, hc1⟩
    go_wp2_with fail
    go_ret
    exact ⟨rfl, hc1⟩
  have hli : ¬ (40 : Int) < (L.length : Int) := by omega
  have hli2 : ¬ (300 : Int) < (tl.length : Int) := by omega
  have HF1 := Lib.hid (right_any h (by omega))
  have HF2 := Lib.hid (fun W (hW : Chg [] w W) => right17_any (h.chg0 hW) (by omega))
  have HF3 := Lib.hid (fun W (hW : Chg [] w W) => total_any (h.chg0 hW) (by omega))
  have HF4 := Lib.hid (fun W (hW : Chg [] w W) => total17_any (h.chg0 hW) (by omega))
  have HF5 := Lib.hid (fun W (hW : Chg [] w W) => count_slots (h'.chg0 hW) (by omega) x)
  have HS := Lib.hid (fun i (hi : i < tl.length) => Sl.at_ h' hi (by omega))
  have HX : Hid (∀ i, i < tl.length → ∃ y, tl[i]? = some y ∧ (tl.take (i + 1)).count x = (tl.take i).count x + if y = x then 1 else 0) := Lib.hid fun i hi => by
    refine ⟨_, List.getElem?_eq_getElem hi, ?_⟩
    rw [List.take_add_one, List.getElem?_eq_getElem hi]
    show List.count x (tl.take i ++ [tl[i]]) = _
    rw [List.count_append, List.count_singleton]
    by_cases e : tl[i] = x <;> simp [e]
  have HN : Hid ((tl.take tl.length).count x = tl.count x) := Lib.hid (by rw [List.take_length])
  have HB : Hid (∀ i, (tl.take i).count x ≤ i) := Lib.hid fun i => Nat.le_trans List.count_le_length (by rw [List.length_take]; omega)
  clear h h'
  generalize L.length = n at *
  generalize hn2 : tl.length = n2 at *
  clear hn2
  go_enter Try.func5, Try.ntmps5
  go_wp2_with fail
  go_loopw [7, 8] (fun u iv wr => ∃ k : Nat, k ≤ n2 ∧ iv = .int .i64 k ∧ u = .int .i64 ((tl.take k).count x : Nat) ∧ wr = w) (fun _ iv _ => n2 - (intOf iv).toNat)
  case atStart => exact ⟨0, by omega, rfl, by simp, rfl⟩
  case round =>
    obtain ⟨k, hk, rfl, rfl, rfl⟩ := hrel
    by_cases hlt : k < n2
    · have hcn : (k : Int) < (n2 : Int) := by omega
      obtain ⟨y, hy, hst⟩ := HX.out k hlt
      obtain ⟨b, o, c', hv, _, _, hc⟩ := HS.out k hlt
      simp only [Value.slice.injEq, true_and] at hv
      obtain ⟨rfl, rfl⟩ := hv
      have c0 := hc 0 (by omega)
      simp only [Nat.mul_one, Nat.add_zero, List.getElem?_map, hy, Option.map_some] at c0
      have hb := HB.out k
      have HST := Lib.hid hst
      generalize (tl.take k).count x = q at *
      clear hc hy HX HS HB HN hst HF1 HF2 HF3 HF4 HF5
      by_cases he : y = x
      · have hb' : (y == x) = true := by simp [he]
        rw [if_pos he] at HST
        clear he
        go_wp2_with fail
        go_roundw
        case rel => exact ⟨k + 1, by omega, by go_num, by rw [HST.out]; push_cast; rfl, trivial⟩
        case measure => simp [intOf] <;> omega
      · have hb' : (y == x) = false := by simp [he]
        rw [if_neg he] at HST
        clear he
        go_wp2_with fail
        go_roundw
        case rel => exact ⟨k + 1, by omega, by go_num, by rw [HST.out]; rfl, trivial⟩
        case measure => simp [intOf] <;> omega
    · obtain rfl : k = n2 := by omega
      have hcn : ¬ (k : Int) < (k : Int) := by omega
      rw [HN.out]
      clear HX HS HB
      go_wp2_with fail
      refine HF1.out.mono ?_
      rintro e w1 ⟨rfl, hc1⟩
      have HC1 := Lib.hid hc1
      clear hc1
      go_wp2_with fail
      refine (HF2.out _ HC1.out).mono ?_
      rintro e w2 ⟨rfl, hc2⟩
      have HC2 := Lib.hid (HC1.out.trans hc2)
      clear hc2
      go_wp2_with fail
      refine (HF3.out _ HC2.out).mono ?_
      rintro e w3 ⟨rfl, hc3⟩
      have HC3 := Lib.hid (HC2.out.trans hc3)
      clear hc3
      go_wp2_with fail
      refine (HF4.out _ HC3.out).mono ?_
      rintro e w4 ⟨rfl, hc4⟩
      have HC4 := Lib.hid (HC3.out.trans hc4)
      clear hc4
      go_wp2_with fail
      refine (HF5.out _ HC4.out).mono ?_
      rintro e w5 ⟨rfl, rfl⟩
      go_wp2_with fail
      refine (lives17_any _).mono ?_
      rintro e w6 ⟨rfl, hc6⟩
      go_wp2_with fail
      go_ret
      exact ⟨rfl, HC4.out.trans hc6⟩
end Go.Proofs.Ytecblclpchndiaa
