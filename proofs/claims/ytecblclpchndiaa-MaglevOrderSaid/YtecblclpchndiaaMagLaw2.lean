/-
  WALKS: MaglevOrder and MaglevShares. Condition: the members read as such.
-/
import Derived.Test.YtecblclpchndiaaMagE
set_option linter.unusedVariables false
set_option linter.unusedSimpArgs false
namespace Go.Proofs.Ytecblclpchndiaa
open Go.RowKit

theorem TB.len {ka kb m : Int} {L : List Mb} {tl : List Int} {e : Int} (h : TB ka kb m L tl e) : tl.length ≤ 100000 := by
  rcases h with ⟨_, _, e⟩ | ⟨_, _, _, e⟩ | ⟨hm, _, _, L', _, _, e⟩
  · rw [e]; simp
  · rw [e]; simp
  · rw [e, table_len]; omega

set_option maxRecDepth 100000 in
set_option maxHeartbeats 4000000 in
theorem order17_any (ka kb m : Int) {w : World} {B : Nat} {v : Value} {L : List Mb} (h : SlM w B v L) :
    Calls Try.prog 4 #[.agg #[.int .u64 ka, .int .u64 kb], .int .i64 m, v] w fun e w' => e = .returned (.bool true) ∧ Chg [] w w' := by
  have hA := (Chg.refl [] w).alloc (.cells #[.int .u64 ka, .int .u64 kb] 24)
  have hB1 : Blk (w.alloc (.cells #[.int .u64 ka, .int .u64 kb] 24)) w.heap.size 24 #[.int .u64 ka, .int .u64 kb] := Blk.new _ _ _
  have hzz : (w.alloc (.cells #[.int .u64 ka, .int .u64 kb] 24)).heap.size = w.heap.size + 1 := by simp
  have HA := Lib.hid (And.intro hA (And.intro hB1 (And.intro (h.chg0 hA) hzz)))
  clear hA hB1 hzz
  obtain ⟨A, c, rfl⟩ := Sl.form h
  by_cases hl : 40 < L.length
  · have hli : (40 : Int) < (L.length : Int) := by omega
    clear h
    generalize L.length = n at *
    go_enter Try.func4, Try.ntmps4
    go_wp2_with fail
    refine (lives17_any _).mono ?_
    rintro e w1 ⟨rfl, hc1⟩
    go_wp2_with fail
    go_ret
    exact ⟨rfl, HA.out.1.trans hc1⟩
  have hli : ¬ (40 : Int) < (L.length : Int) := by omega
  have hdl : decide ((40 : Int) < (L.length : Int)) = false := by simp; omega
  have F1 := Lib.hid (right_any HA.out.2.2.1 (by omega))
  by_cases hr : rightM L = 0
  · have hok := OkM.of hr
    have hlen := hok.len
    have HOK := Lib.hid hok
    have HR0 := Lib.hid hr
    have HS := Lib.hid (fun W (hW : Chg [] w W) i x hx => (h.chg0 hW).at_ (i := i) (x := x) hx)
    have HX : Hid (∀ i, i < L.length → ∃ x, L[i]? = some x ∧ L.drop i = x :: L.drop (i + 1)) := Lib.hid fun i hi => ⟨_, List.getElem?_eq_getElem hi, List.drop_eq_getElem_cons hi⟩
    have HBD := Lib.hid (fun W (hW : Chg [] (w.alloc (.cells #[.int .u64 ka, .int .u64 kb] 24)) W) => build_any ka kb m (HA.out.2.2.1.chg0 hW) (by omega))
    have HDL : Hid (L.drop L.length = []) := Lib.hid (List.drop_length ..)
    rw [hr] at F1
    clear h hok hr
    generalize hn : L.length = n at *
    have HN := Lib.hid hn
    clear hn
    go_enter Try.func4, Try.ntmps4
    go_wp2_with fail
    obtain ⟨hA, hB1, hs1, hzz⟩ := HA.out
    generalize (w.alloc (.cells #[.int .u64 ka, .int .u64 kb] 24)) = w1 at *
    refine F1.out.mono ?_
    rintro e w2 ⟨rfl, hc2⟩
    have h0 : w2.ownsRow (w.heap.size + 1) 37 2 (.slice none 0 0) ((L.drop n).reverse).length (((L.drop n).reverse).flatMap encM) := by
      rw [HDL.out]; exact World.ownsRow_nil ..
    have HC2 := Lib.hid hc2
    clear F1 hc2
    have hwn : IntKind.i64.wrap ((n : Int) - 1) = (n : Int) - 1 := by rw [IntKind.wrap_i64]; omega
    go_wp2_with fail
    go_loopw [7, 8] (fun ov iv wr => ∃ k : Nat, k ≤ n ∧ iv = .int .i64 ((k : Int) - 1) ∧ wr.ownsRow (w.heap.size + 1) 37 2 ov ((L.drop k).reverse).length (((L.drop k).reverse).flatMap encM) ∧ Hid (Chg [] w1 wr)) (fun _ iv _ => (intOf iv + 1).toNat)
    case atStart => exact ⟨n, by omega, rfl, h0, HC2⟩
    case round =>
      obtain ⟨k, hk, rfl, hrow, HC⟩ := hrel
      cases k with
      | zero =>
        have hj0 : ¬ (0 : Int) ≤ ((0 : Nat) : Int) - 1 := by omega
        rw [List.drop_zero] at hrow
        have hsb : SlM wr (w.heap.size + 1) _ L.reverse := Sl.of_own hrow
        have HSB := Lib.hid hsb
        have R1 := Lib.hid (hB1.chg HC.out (by simp)).rangeQ
        have F2 := Lib.hid (HBD.out wr HC.out)
        obtain ⟨A2, c2, rfl⟩ := Sl.form hsb
        clear hsb hrow
        go_wp2_with (first
          | (refine wpList_row 24 (.tmp 3) rfl rfl w.heap.size 0 rfl _ _ R1.out Try.underlying24 rfl (by kernel_rfl) ?_)
          | fail)
        refine F2.out.mono ?_
        rintro e w3 ⟨v3, c3, rfl, hb3, hc3⟩
        obtain ⟨tl, hst, htb⟩ := hb3.tb
        have HST := Lib.hid (And.intro hst htb)
        have R2 := Lib.hid ((hB1.chg HC.out (by simp)).chg hc3 (by simp)).rangeQ
        have F3 := Lib.hid (build_any ka kb m (HSB.out.chg0 hc3) (by rw [List.length_reverse]; have := HN.out; omega))
        have HC3 := Lib.hid (HC.out.trans hc3)
        rw [List.length_reverse] at F3
        clear F2 R1 hb3 hst htb hc3 HBD
        go_wp2_with (first
          | (refine wpList_row 24 (.tmp 3) rfl rfl w.heap.size 0 rfl _ _ R2.out Try.underlying24 rfl (by kernel_rfl) ?_)
          | fail)
        refine F3.out.mono ?_
        rintro e w4 ⟨v4, c4, rfl, hb4, hc4⟩
        obtain ⟨tl2, hst2, htb2⟩ := hb4.tb
        have hrv := (HOK.out.perm (List.reverse_perm L)).right
        obtain ⟨rfl, rfl⟩ := HST.out.2.one htb2 (List.reverse_perm L).symm (by rw [hrv]; exact HR0.out)
        have F4 := Lib.hid (same17_any (HST.out.1.chg0 hc4) hst2 htb2.len)
        have HC4 := Lib.hid (HC3.out.trans hc4)
        clear F3 R2 hb4 hst2 htb2 hc4 hrv HST
        go_wp2_with fail
        refine F4.out.mono ?_
        rintro e w5 ⟨b, rfl, hbt, hc5⟩
        obtain rfl : b = .bool true := by simpa using hbt
        clear F4 hbt
        go_wp2_with fail
        refine (lives17_any _).mono ?_
        rintro e w6 ⟨rfl, hc6⟩
        go_wp2_with fail
        go_ret
        exact ⟨rfl, ((hA.trans HC4.out).trans hc5).trans hc6⟩
      | succ k =>
        have hj0 : (0 : Int) ≤ ((k + 1 : Nat) : Int) - 1 := by omega
        have hj1 : ((k + 1 : Nat) : Int) - 1 = (k : Int) := by omega
        have hwk : IntKind.i64.wrap ((k : Int) - 1) = (k : Int) - 1 := by rw [IntKind.wrap_i64]; omega
        rw [hj1] at hj0 ⊢
        obtain ⟨x, hx, hd⟩ := HX.out k (by omega)
        obtain ⟨b, o, c', hv, hcap, c0, c1⟩ := HS.out wr (hA.trans HC.out) k x hx
        simp only [Value.slice.injEq, true_and] at hv
        obtain ⟨rfl, rfl⟩ := hv
        have hkn : (k : Int) < (n : Int) := by omega
        have HDR : Hid ((L.drop k).reverse = (L.drop (k + 1)).reverse ++ [x]) := Lib.hid (by rw [hd, List.reverse_cons])
        have hlo : ((L.drop (k + 1)).reverse).length ≤ 16 := by rw [List.length_reverse, List.length_drop]; have := HN.out; omega
        obtain ⟨nd, wt⟩ := x
        simp only at c0 c1
        generalize (L.drop (k + 1)).reverse = os at *
        have hA1 := (Chg.refl [] wr).alloc (.cells #[.int .i64 nd, .int .i64 wt] 37)
        have hrow1 := own_chg hrow hA1 (by simp)
        have hcat : Sl (wr.alloc (.cells #[.int .i64 nd, .int .i64 wt] 37)) 0 2 (.slice (some ⟨wr.heap.size, 0, none⟩) 1 1) 1 (encM ⟨nd, wt⟩) := Sl.of_own (own_lit (base := 0) wr 37 2 1 #[.int .i64 nd, .int .i64 wt] (Nat.zero_le _) (by simp [maxLen]) rfl)
        have hwz : w.heap.size + 1 ≤ wr.heap.size := by have := HC.out.size; omega
        have hbs : w.heap.size + 1 ≤ (wr.alloc (.cells #[.int .i64 nd, .int .i64 wt] 37)).heap.size := by simp; omega
        have HL := Lib.hid (own_lt hrow)
        have HC1 := Lib.hid (HC.out.trans hA1)
        clear hx hd hrow hA1 HC HS HX HBD HDL
        go_wp2_with (first
          | (at_builtin; refine wpList_app elM rfl (.tmp 29) (.tmp 34) rfl (w.heap.size + 1) rfl hrow1 rfl hcat (encM_one _) (by unfold maxLen; omega) (by omega) hbs ?_; intro v3 w3 hown3 hc3 hb3)
          | fail)
        have HR3 : Hid (w3.ownsRow (w.heap.size + 1) 37 2 v3 ((L.drop k).reverse).length (((L.drop k).reverse).flatMap encM)) := Lib.hid (by
          rw [HDR.out, List.length_append, List.flatMap_append]
          simpa using hown3)
        have HC3 := Lib.hid (HC1.out.trans' hc3 (fun y hy => .inr (by have := (HL.out y hy).1; omega)))
        clear hown3 hc3 hb3 HL HC1 hrow1 hcat
        go_roundw
        case rel => exact ⟨k, by omega, by go_num, HR3.out, HC3⟩
        case measure => simp [intOf] <;> omega
  · generalize rightM L = r at *
    have hb : (r == 0) = false := by simp [hr]
    generalize L.length = n at *
    clear h
    go_enter Try.func4, Try.ntmps4
    go_wp2_with fail
    refine F1.out.mono ?_
    rintro e w2 ⟨rfl, hc2⟩
    go_wp2_with fail
    refine (lives17_any _).mono ?_
    rintro e w1 ⟨rfl, hc1⟩
    go_wp2_with fail
    go_ret
    exact ⟨rfl, (HA.out.1.trans hc2).trans hc1⟩
end Go.Proofs.Ytecblclpchndiaa
