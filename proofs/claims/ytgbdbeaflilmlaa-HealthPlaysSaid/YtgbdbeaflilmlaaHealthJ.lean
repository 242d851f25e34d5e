/-
  WALK: HealthPlays, whole. Condition: as in the text before. (Printed by wip/tools/gen_j36.py.)
-/
import Derived.Test.YtgbdbeaflilmlaaHealthJ7
set_option linter.unusedVariables false
set_option linter.unusedSimpArgs false
namespace Go.Proofs.Ytgbdbeaflilmlaa
open Go.RowKit Go.Maps
set_option maxRecDepth 100000 in
set_option maxHeartbeats 8000000 in
theorem plays36 {w : World} {A : Option Addr} {cap : Nat} {ops : List OpR} (hs : SlO w 0 (.slice A ops.length cap) ops) (hm : ops.length ≤ maxLen) (hk : ∀ x ∈ ops, okO x) :
    Calls Try.prog 4 #[.slice A ops.length cap] w fun e w' => e = .returned (.bool true) ∧ Chg [] w w' := by
  have HO := Lib.hid (fun W (hc : Chg [] w W) i x hx => SlO.one (show SlO W 0 (.slice A ops.length cap) ops from Sl.chg0 hs hc) rfl (i := i) (x := x) hx)
  have HX : Hid (∀ i, i < ops.length → ∃ x, ops[i]? = some x ∧ okO x) := Lib.hid fun i hi => ⟨_, List.getElem?_eq_getElem hi, hk _ (List.getElem_mem hi)⟩
  clear hs hk
  have hm63 : ops.length ≤ 9223372036854775807 := by simp only [maxLen] at hm; omega
  clear hm
  generalize hN : ops.length = N at *
  go_enter Try.func4, Try.ntmps4
  go_wp2_with fail
  refine (hnew_any w).mono ?_
  rintro e w1 ⟨cb, S, rfl, hS⟩
  have hA1 := (Chg.refl [] w1).alloc (.cells #[.int .i64 0, .slice none 0 0] 41)
  have hB1 : Blk (w1.alloc (.cells #[.int .i64 0, .slice none 0 0] 41)) w1.heap.size 41 #[.int .i64 0, .slice none 0 0] := Blk.new _ _ _
  have HS := Lib.hid hS
  have hsz := hS.chg.size
  clear hS
  go_upto_region 2 with (first
    | (refine wpList_store_blk rfl 41 _ _ rfl rfl hB1 rfl rfl rfl (by kernel_rfl) rfl ?_; intro w2 hB2 hc2)
    | fail)
  have hc12 := hA1.trans' hc2 (by intro y hy; simp at hy; subst hy; exact .inr (Nat.le_refl _))
  have HJ0 : Hid (JP w w2 cb 0 w1.heap.size ⟨0, []⟩ S (.slice none 0 0)) := Lib.hid ⟨HS.out.chg0 hc12, World.ownsRow_nil .., fun x hx => by simp [Value.ownBlock] at hx, hB2, fun hm => by have := HS.out.lt _ hm; omega, fun x hx => by simp [Value.ownBlock] at hx, hsz, ⟨none, 0, rfl⟩⟩
  generalize w1.heap.size = b at *
  clear hA1 hB1 hB2 hc2 hc12 HS hsz
  go_wp2_with fail
  go_loopw [5] (fun iv wr => ∃ (i : Nat) (c : CK) (Si : List Nat) (v : Value), i ≤ N ∧ i ≤ 150 ∧ iv = .int .i64 i ∧ Hid (JP w wr cb i b c Si v)) (fun iv _ => N - (intOf iv).toNat)
  case atStart => exact ⟨0, ⟨0, []⟩, S, .slice none 0 0, by omega, by omega, rfl, HJ0⟩
  case round =>
    obtain ⟨i, c, Si, v, hiN, hi150, rfl, HJ⟩ := hrel
    by_cases hlt : i < N ∧ i < 150
    · obtain ⟨hiN', hi2⟩ := hlt
      obtain ⟨x, hx, hxo⟩ := HX.out i hiN'
      obtain ⟨b', o', rfl, hrg⟩ := HO.out wr HJ.out.ck.chg i x hx
      have hBo : Blk (wr.alloc (.cells #[.int .i64 0, .int .i64 0, .int .i64 0] 43)) wr.heap.size 43 #[.int .i64 0, .int .i64 0, .int .i64 0] := Blk.new _ _ _
      have hAo := (Chg.refl [] wr).alloc (.cells #[.int .i64 0, .int .i64 0, .int .i64 0] 43)
      have HRG := Lib.hid hrg
      obtain ⟨kd, nd, sd⟩ := x
      simp only at hrg
      obtain ⟨hw1, hw2, hw3⟩ := hxo
      simp only at hw1 hw2 hw3
      have HW2 := Lib.hid hw2
      clear hx hrg HJ0 hw1 hw2 hw3
      go_upto_region 8 with (first
        | (refine wpList_row 43 (.tmp 44) rfl rfl b' _ rfl _ _ HRG.out Try.underlying43 rfl infO36 ?_)
        | (refine wpList_store_blk rfl 43 _ _ rfl rfl hBo rfl rfl rfl (by kernel_rfl) rfl ?_; intro w8 hB8 hc8)
        | fail)
      have hc8' := hAo.trans' hc8 (by intro y hy; simp at hy; subst hy; exact .inr (Nat.le_refl _))
      have HJ8 := Lib.hid (HJ.out.chg0 hc8')
      have hbo : wr.heap.size ∉ Si := fun hm => by have := HJ.out.ck.lt _ hm; omega
      have hbob : wr.heap.size ≠ b := by have := HJ.out.blk.lt; omega
      generalize wr.heap.size = bo at *
      obtain ⟨r, hr⟩ := findR_ex c.l nd
      obtain ⟨Av, cpv, rfl⟩ := HJ.out.vf
      have F9 := Lib.hid (rfind_any c.now nd HJ8.out.row.sl (by have := HJ8.out.ck.ci.len; omega) hr)
      have R9 := Lib.hid HJ8.out.blk.rangeQ
      have HB8 := Lib.hid (fun W (hc : Chg [] w8 W) => hB8.chg hc (by simp))
      have j1 : w8.cell? ⟨bo, 1, none⟩ = some (.int .i64 nd) := hB8.cell 1
      have j2 : w8.cell? ⟨bo, 2, none⟩ = some (.int .i64 sd) := hB8.cell 2
      have HFR := Lib.hid hr
      clear hBo hAo hc8 HRG HJ hB8 hc8' hr
      go_upto_region 10 with (first
        | (refine wpList_row 41 (.tmp 4) rfl rfl b 0 rfl _ _ R9.out Try.underlying41 rfl infRC ?_)
        | (go_at_call 17; refine F9.out.mono ?_; rintro e w9 ⟨rfl, hc9⟩)
        | fail)
      have HJ9 := Lib.hid (HJ8.out.chg0 hc9)
      have HB9 := Lib.hid (HB8.out w9 hc9)
      have j0 : w9.cell? ⟨bo, 0, none⟩ = some (.int .i64 kd) := HB9.out.cell 0
      have c1 : w9.cell? ⟨b, 1, none⟩ = some (.slice Av c.l.length cpv) := HJ9.out.blk.cell 1
      have hcl : c.l.length ≤ 300 := by have := HJ9.out.ck.ci.len; omega
      clear HJ8 HB8 F9 R9 hc9 j1 j2
      go_cut [59] (fun t wx => t = .bool ((kd.tmod 7 == 3) && decide (0 ≤ r)) ∧ w9 = wx)
      case first =>
        by_cases hk3 : (kd.tmod 7 == 3) = true
        · go_wp2_with fail
          all_goals
            go_meet
            refine ⟨by simp_all, rfl⟩
        · have hk3' : (kd.tmod 7 == 3) = false := by simpa using hk3
          clear hk3
          go_wp2_with fail
          all_goals
            go_meet
            refine ⟨by simp_all, rfl⟩
      case rest =>
        obtain ⟨rfl, rfl⟩ := hcut
        clear j0
        go_upto_if 59 with fail
        rename_i K12 hK12
        go_cut [7] (fun sv wx => (∃ s, sv = .int .i64 s) ∧ Hid (JP w wx cb i b c Si (.slice Av c.l.length cpv) ∧ Blk wx bo 43 #[.int .i64 kd, .int .i64 nd, .int .i64 sd]))
        case first =>
          rcases HFR.out with ⟨rfl, _⟩ | ⟨at_, y, rfl, hy, _, _⟩
          · have hz : ((kd.tmod 7 == 3) && decide ((0 : Int) ≤ -1)) = false := by simp
            rw [hz]
            go_wp2_with fail
            go_meet
            exact ⟨⟨_, rfl⟩, Lib.hid ⟨HJ9.out, HB9.out⟩⟩
          · obtain ⟨by_, oy, rfl, hrg⟩ := SlR.one HJ9.out.row.sl rfl hy
            have g3 := hrg 3 (.int .i64 y.seq) rfl
            have hlt := (List.getElem?_eq_some_iff.1 hy).1
            have hltI : (at_ : Int) < (c.l.length : Int) := by omega
            have hge : (0 : Int) ≤ (at_ : Int) := by omega
            have HJ9' := HJ9
            clear hrg hy HFR
            cases ht : ((kd.tmod 7 == 3) && decide ((0 : Int) ≤ (at_ : Int))) with
            | true =>
              clear ht
              go_wp2_with fail
              go_meet
              exact ⟨⟨_, rfl⟩, Lib.hid ⟨HJ9.out, HB9.out⟩⟩
            | false =>
              clear ht
              go_wp2_with fail
              go_meet
              exact ⟨⟨_, rfl⟩, Lib.hid ⟨HJ9.out, HB9.out⟩⟩
        case rest =>
          obtain ⟨⟨sq, rfl⟩, HC⟩ := hcut
          clear c1 HJ9 HB9 HFR
          refine hK12 _ _ ?_
          clear hK12 HO HX
          change Code.wp Try.prog ((Try.f4.body.bind (aftIf 59)).getD .skip) _ _ _
          refine round12 HC.out.1 HC.out.2 (by omega) HW2 hbo hbob ?_
          intros
          rename_i w' hh
          obtain ⟨c2, S2, v2, hJ2⟩ := hh.out
          have HJ2 := Lib.hid hJ2
          clear hJ2 hh HC
          go_wp2_with fail
          go_roundw
          case rel => exact ⟨i + 1, c2, S2, v2, by omega, by omega, by go_num, HJ2⟩
          case measure => simp [intOf]; omega
    · have HC := Lib.hid HJ.out.ck.chg
      clear HJ HJ0 HX
      rcases (show ¬ i < N ∨ (i < N ∧ ¬ i < 150) by omega) with h1 | ⟨h1, h2⟩
      all_goals
        clear hlt
        go_wp2_with fail
        refine (lives36 _).mono ?_
        rintro e w9 ⟨rfl, hc9⟩
        go_wp2_with fail
        go_ret
        exact ⟨rfl, HC.out.trans hc9⟩
end Go.Proofs.Ytgbdbeaflilmlaa
