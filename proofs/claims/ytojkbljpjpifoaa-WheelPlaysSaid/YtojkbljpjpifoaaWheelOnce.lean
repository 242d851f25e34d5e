/-
  WALK: WheelOnce. Condition: the calls read as records of integers.
-/
import Derived.Test.YtojkbljpjpifoaaWheelOnceP
import Derived.Test.YtojkbljpjpifoaaOpen23
set_option linter.unusedVariables false
set_option linter.unusedSimpArgs false
namespace Go.Proofs.Ytojkbljpjpifoaa
open Go.RowKit

theorem setM_other {M : Int → Option Int} {now id id' at_ : Int} (h : id ≠ id') : setM M now id' at_ id = M id := by
  unfold setM
  split
  · unfold inM noM; rw [if_neg h, if_neg h]
  · rfl
theorem setM_same {M : Int → Option Int} {now id at_ : Int} (h0 : 0 ≤ id) (h1 : id < 256) : setM M now id at_ id = some (max at_ (now + 1)) := by
  unfold setM; rw [if_pos ⟨h0, h1⟩]; simp [inM]
theorem SlO.one {w : World} {B : Nat} {A : Option Addr} {c : Nat} {ops : List OpR} {n : Nat} (h : SlO w B (.slice A n c) ops) (hn : ops.length = n) {i : Nat} {x : OpR} (hx : ops[i]? = some x) :
    ∃ b o, A = some ⟨b, o, none⟩ ∧ w.cell? ⟨b, o + i * 3, none⟩ = some (.int .i64 x.kind) ∧ w.cell? ⟨b, o + i * 3 + 1, none⟩ = some (.int .i64 x.id) ∧ w.cell? ⟨b, o + i * 3 + 2, none⟩ = some (.int .i64 x.at_) := by
  obtain ⟨b, o, c', hv, _, _, hg⟩ := Sl.rec encO_len (by omega) h hx
  simp only [Value.slice.injEq] at hv
  obtain ⟨rfl, _, _⟩ := hv
  exact ⟨b, o, rfl, hg 0 (by omega), hg 1 (by omega), hg 2 (by omega)⟩
theorem count_take {l : List Int} {k : Nat} {x : Int} (id : Int) (hx : l[k]? = some x) : (l.take (k + 1)).count id = (l.take k).count id + if x = id then 1 else 0 := by
  rw [List.take_add_one, hx, List.count_append]
  by_cases e : x = id
  · subst e; simp
  · simp [e]

set_option maxRecDepth 100000 in
set_option maxHeartbeats 2000000 in
theorem once_any {W : World} {B : Nat} {v : Value} {ops : List OpR} (id at_ : Int) (h : SlO W B v ops) (hm : ops.length ≤ maxLen) (hok : ∀ x ∈ ops, okO x) (hid : (Lit.int .i64 id).wf = true) (hwa : (Lit.int .i64 at_).wf = true) :
    Calls Try.prog 4 #[.int .i64 id, .int .i64 at_, v] W fun e w' => e = .returned (.bool true) ∧ Chg [] W w' := by
  have K0 := Lib.hid lives23
  obtain ⟨A, c, rfl⟩ := Sl.form h
  have HO := Lib.hid (fun w1 (hc : Chg [] W w1) => (show SlO w1 B (.slice A ops.length c) ops from Sl.chg0 h hc))
  have HK := Lib.hid (fun i x (hx : ops[i]? = some x) => (hok x (List.mem_of_getElem? hx)).2)
  have HX : Hid (∀ i, i < ops.length → ∃ x, ops[i]? = some x) := Lib.hid fun i hi => ⟨_, List.getElem?_eq_getElem hi⟩
  have hm2 : ops.length ≤ 9223372036854775807 := by unfold maxLen at hm; omega
  clear h hok hm
  generalize hq : ops.length = q at *
  by_cases hrg : 0 ≤ id ∧ id ≤ 255 ∧ 1 ≤ at_ ∧ at_ ≤ 100
  · obtain ⟨r1, r2, r3, r4⟩ := hrg
    have t1 : ¬ (id < 0) := by omega
    have t2 : ¬ (255 < id) := by omega
    have t3 : ¬ (at_ < 1) := by omega
    have t4 : ¬ (100 < at_) := by omega
    go_enter Try.func4, Try.ntmps4
    go_wp2_with fail
    refine (new_any W).mono ?_
    rintro e w1 ⟨b, m, rfl, h1, hc1, hf1⟩
    have o1 : OW W w1 b m 0 0 vs0 ls0 M0 := ⟨h1, hc1, hf1⟩
    have F1 := Lib.hid (setO id at_ o1 (by omega) (by omega) (by omega) hwa)
    clear h1 hc1 hf1 o1
    go_wp2_with fail
    refine F1.out.mono ?_
    rintro e w2 ⟨rfl, n2, vs2, ls2, hn2, o2⟩
    have hM2 : Hid (due1M (setM M0 0 id at_) id at_ 0) := Lib.hid (by
      unfold due1M
      rw [setM_same (by omega) (by omega), if_pos (by omega), show max at_ (0 + 1) = at_ by omega])
    clear F1
    generalize setM M0 0 id at_ = M2 at *
    have hex : ∃ (n' : Nat) (vs' : Nat → Value) (ls' : Nat → List TM) (M' : Int → Option Int), n' ≤ 1 ∧ OW W w2 b m n' 0 vs' ls' M' ∧ Hid (due1M M' id at_ 0) := ⟨n2, vs2, ls2, M2, by omega, o2, hM2⟩
    clear o2 hM2 hn2
    go_wp2_with fail
    go_loopw [8] (fun iv wr => ∃ k : Nat, k ≤ q ∧ k ≤ 40 ∧ iv = .int .i64 k ∧ ∃ (n' : Nat) (vs' : Nat → Value) (ls' : Nat → List TM) (M' : Int → Option Int), n' ≤ 1 + k ∧ OW W wr b m n' 0 vs' ls' M' ∧ Hid (due1M M' id at_ 0)) (fun iv _ => q - (intOf iv).toNat)
    case atStart => exact ⟨0, by omega, by omega, rfl, hex⟩
    case round =>
      clear hex
      obtain ⟨k, hk, hk40, rfl, n', vs', ls', M', hn', ho, hM⟩ := hrel
      by_cases hlt : k < q ∧ k < 40
      · obtain ⟨hk1, hk2⟩ := hlt
        obtain ⟨x, hx⟩ := HX.out k hk1
        obtain ⟨b', o', rfl, g0, g1, g2⟩ := (HO.out wr ho.chg).one hq hx
        have hwx := (HK.out k x hx).2
        obtain ⟨xk, xi, xa⟩ := x
        simp only at g0 g1 g2 hwx
        have hkI : (k : Int) < (q : Int) := by omega
        clear HO HK HX hx K0
        by_cases hxi : xi = id
        · have hb : (xi != id) = false := by simp [hxi]
          have HO2 := Lib.hid ho
          clear ho
          go_wp2_with fail
          go_roundw
          case rel => exact ⟨k + 1, by omega, by omega, by go_num, n', vs', ls', M', by omega, HO2.out, hM⟩
          case measure => simp [intOf]; omega
        · have hb : (xi != id) = true := by simp [hxi]
          have o3 := ho.chg0 ((Chg.refl [] wr).drew)
          have F3 := Lib.hid (setO xi xa o3 (by omega) (by omega) (by omega) hwx)
          have hM3 : Hid (due1M (setM M' 0 xi xa) id at_ 0) := Lib.hid (by
            have := hM.out
            unfold due1M at this ⊢
            rw [setM_other (fun e => hxi e.symm)]; exact this)
          clear ho o3 hM hxi
          go_wp2_with fail
          go_still_tail 11, (by kernel_rfl)
          change wpList _ _ _ _ _ wr.drew
          generalize wr.drew = w5 at *
          go_wp2_with fail
          refine F3.out.mono ?_
          rintro e w6 ⟨rfl, n6, vs6, ls6, hn6, o6⟩
          clear F3
          go_wp2_with fail
          go_roundw
          case rel => exact ⟨k + 1, by omega, by omega, by go_num, n6, vs6, ls6, _, by omega, o6, hM3⟩
          case measure => simp [intOf]; omega
      · have hex2 : ∃ (n' : Nat) (vs' : Nat → Value) (ls' : Nat → List TM) (M' : Int → Option Int), n' ≤ 41 ∧ OW W wr b m n' 0 vs' ls' M' ∧ Hid (due1M M' id at_ 0) := ⟨n', vs', ls', M', by omega, ho, hM⟩
        clear HO HK HX ho hM hn'
        obtain ⟨wo, rfl⟩ : ∃ wo, wo = wr := ⟨_, rfl⟩
        rcases (show ¬ k < q ∨ (k < q ∧ ¬ k < 40) by omega) with g1 | ⟨g1, g2⟩
        all_goals
          clear hlt
          go_wp2_with fail
          go_loopw [9] (fun iv wr => ∃ κ : Int, 0 ≤ κ ∧ κ ≤ 100 ∧ iv = .int .i64 (κ + 1) ∧ ∃ (n' : Nat) (vs' : Nat → Value) (ls' : Nat → List TM) (M' : Int → Option Int), OW W wr b m n' κ vs' ls' M' ∧ Hid (due1M M' id at_ κ)) (fun iv _ => (101 - intOf iv).toNat)
          case atStart =>
            obtain ⟨n', vs', ls', M', _, ho, hM⟩ := hex2
            exact ⟨0, by omega, by omega, rfl, n', vs', ls', M', ho, hM⟩
          case round =>
            clear hex2
            obtain ⟨κ, hκ0, hκ1, rfl, n', vs', ls', M', ho, hM⟩ := hrel
            by_cases hlt : κ + 1 ≤ 100
            · have F3 := Lib.hid (advO ho hκ0 (by omega))
              have hcnt := hM.out.count ho.wh.wi
              have hstep := Lib.hid (hM.out.step ho.wh.wi)
              have HCN := Lib.hid hcnt
              have hDle : (dueOf (κ + 1) (ls' ((κ + 1) % 16).toNat)).length ≤ 256 := by
                have h1 := ho.wh.wi.len (s := ((κ + 1) % 16).toNat) (by omega)
                have h2 := List.length_filter_le (fun t : TM => t.at_ == κ + 1) (ls' ((κ + 1) % 16).toNat)
                have h3 : (dueOf (κ + 1) (ls' ((κ + 1) % 16).toNat)).length = ((ls' ((κ + 1) % 16).toNat).filter (fun t : TM => t.at_ == κ + 1)).length := List.length_map _
                omega
              clear hcnt ho hM
              go_wp2_with fail
              refine F3.out.mono ?_
              rintro e w6 ⟨v6, D, rfl, hD, hS, vs6, o6⟩
              rw [← hD] at HCN hstep hDle
              obtain ⟨A6, c6, rfl⟩ := Sl.form hS
              have hSl : (D.mergeSort fun x y => decide (x ≤ y)).length = D.length := List.length_mergeSort _
              have hSc : (D.mergeSort fun x y => decide (x ≤ y)).count id = D.count id := (List.mergeSort_perm D _).count_eq id
              have HSc := Lib.hid hSc
              have HAt := Lib.hid (fun i (hi : i < D.length) => Sl.at_ hS hi (by omega))
              clear F3 hS hD hSc
              generalize hSg : (D.mergeSort fun x y => decide (x ≤ y)) = S at *
              clear hSg
              generalize hL : D.length = L at *
              have O6 := Lib.hid o6
              clear o6
              go_wp2_with fail
              go_loop [11, 12] (fun mv iv => ∃ j : Nat, j ≤ L ∧ iv = .int .i64 j ∧ mv = .int .i64 ((S.take j).count id : Nat)) (fun _ iv => L - (intOf iv).toNat)
              case atStart => exact ⟨0, by omega, rfl, by simp⟩
              case round =>
                obtain ⟨j, hj, rfl, rfl⟩ := hrel
                by_cases hjL : j < L
                · have hx : S[j]? = some (S[j]'(by omega)) := List.getElem?_eq_getElem _
                  generalize S[j]'(by omega) = x at hx
                  obtain ⟨b7, o7, c7, hv7, _, _, hg⟩ := HAt.out j hjL
                  simp only [Value.slice.injEq, true_and] at hv7
                  obtain ⟨rfl, rfl⟩ := hv7
                  have g0 := hg 0 (by omega)
                  simp only [Nat.mul_one, Nat.add_zero, List.getElem?_map, hx, Option.map_some] at g0
                  have hct := count_take id hx
                  have hcl : (S.take j).count id ≤ j := Nat.le_trans (List.count_le_length ..) (by rw [List.length_take]; omega)
                  generalize (S.take j).count id = N at *
                  have HCT := Lib.hid hct
                  clear hg hx hct HAt
                  by_cases hxi : x = id
                  · have hb : (x == id) = true := by simp [hxi]
                    have hE : Hid ((S.take (j + 1)).count id = N + 1) := Lib.hid (by rw [HCT.out, if_pos hxi])
                    go_wp2_with fail
                    go_round
                    case rel => exact ⟨j + 1, by omega, by go_num, by rw [hE.out]; go_num⟩
                    case measure => simp [intOf]; omega
                  · have hb : (x == id) = false := by simp [hxi]
                    have hE : Hid ((S.take (j + 1)).count id = N) := Lib.hid (by rw [HCT.out, if_neg hxi]; rfl)
                    go_wp2_with fail
                    go_round
                    case rel => exact ⟨j + 1, by omega, by go_num, by rw [hE.out]⟩
                    case measure => simp [intOf]; omega
                · obtain rfl : j = L := by omega
                  have htk : (S.take j).count id = if κ + 1 = at_ then 1 else 0 := by
                    rw [← hSl, List.take_length, HSc.out, HCN.out]
                  generalize (S.take j).count id = N at *
                  clear HAt HSc HCN
                  by_cases e : κ + 1 = at_
                  · have hb : (κ + 1 == at_) = true := by simp [e]
                    have hb2 : (κ + 1 != at_) = false := by simp [e]
                    rw [if_pos e] at htk
                    subst htk
                    go_wp2_with fail
                    go_roundw
                    case rel => exact ⟨κ + 1, by omega, by omega, by go_num, n', vs6, _, _, O6.out, hstep⟩
                    case measure => simp [intOf]; omega
                  · have hb : (κ + 1 == at_) = false := by simp [e]
                    have hb2 : (κ + 1 != at_) = true := by simp [e]
                    rw [if_neg e] at htk
                    subst htk
                    go_wp2_with fail
                    go_roundw
                    case rel => exact ⟨κ + 1, by omega, by omega, by go_num, n', vs6, _, _, O6.out, hstep⟩
                    case measure => simp [intOf]; omega
            · obtain rfl : κ = 100 := by omega
              have hnone : M' id = none := by
                have := hM.out
                unfold due1M at this
                rw [this, if_neg (by omega)]
              have F4 := Lib.hid (when_any id ho.wh hid)
              rw [hnone] at F4
              have hcz := ho.chg
              clear ho hM hnone
              go_wp2_with fail
              refine F4.out.mono ?_
              rintro e w6 ⟨rfl, rfl⟩
              clear F4
              go_wp2_with fail
              refine (K0.out _).mono ?_
              rintro e w5 ⟨rfl, hc5⟩
              go_wp2_with fail
              go_ret
              exact ⟨rfl, hcz.trans hc5⟩
  · rcases (show id < 0 ∨ (¬ id < 0 ∧ 255 < id) ∨ (¬ id < 0 ∧ ¬ 255 < id ∧ at_ < 1) ∨ (¬ id < 0 ∧ ¬ 255 < id ∧ ¬ at_ < 1 ∧ 100 < at_) by omega) with t1 | ⟨t1, t2⟩ | ⟨t1, t2, t3⟩ | ⟨t1, t2, t3, t4⟩
    all_goals
      clear hrg HO HK HX
      go_enter Try.func4, Try.ntmps4
      go_wp2_with fail
      refine (new_any W).mono ?_
      rintro e w1 ⟨b, m, rfl, h1, hc1, hf1⟩
      clear h1 hf1
      go_wp2_with fail
      refine (K0.out _).mono ?_
      rintro e w5 ⟨rfl, hc5⟩
      go_wp2_with fail
      go_ret
      exact ⟨rfl, hc1.trans hc5⟩
end Go.Proofs.Ytojkbljpjpifoaa
