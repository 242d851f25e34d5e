/-
  WALK: SlotsReach returns true. Condition: the calls read as records.
-/
import Derived.Test.YtelbaooifmkpkaaPlays21
import Derived.StillTailTactics
set_option linter.unusedVariables false
set_option linter.unusedSimpArgs false
namespace Go.Proofs.Ytelbaooifmkpkaa
open Go.RowKit

theorem cnt_step {cs : Nat → SC} {i : Nat} : (cnt cs (i + 1) : Nat) = cnt cs i + if (cs i).used then 1 else 0 := rfl

set_option maxRecDepth 100000 in
set_option maxHeartbeats 4000000 in
theorem reach21 (n : Int) (A : Option Addr) (cap : Nat) (ops : List OpR) (w : World) (hs : SlO w 0 (.slice A ops.length cap) ops) (hm : ops.length ≤ 9223372036854775807) :
    Calls Try.prog 5 #[.int .i64 n, .slice A ops.length cap] w fun e w' => e = .returned (.bool true) ∧ Chg [] w w' := by
  by_cases hn : 1 ≤ n ∧ n ≤ 256
  · obtain ⟨hn1, hn2⟩ := hn
    obtain ⟨m, rfl⟩ := Int.eq_ofNat_of_zero_le (show 0 ≤ n by omega)
    have hm1 : 1 ≤ m := by omega
    have hm2 : m ≤ 256 := by omega
    clear hn1 hn2
    go_enter Try.func5, Try.ntmps5
    go_wp2_with fail
    refine (new_any m w hm1 hm2).mono ?_
    rintro e w1 ⟨b, c, rfl, hb, hc, ht1, hc1⟩
    have hbc := ht1.lt
    go_wp2_with fail
    go_loopw [6] (fun i wr => ∃ (j : Nat) (l : List PR) (cs : Nat → SC), j ≤ ops.length ∧ j ≤ 100 ∧ i = .int .i64 j ∧ Tab wr b c m cs l.length ∧ TL cs m l ∧ Chg [] w wr ∧ w1.heap.size ≤ wr.heap.size) (fun i _ => 100 - (intOf i).toNat)
    case atStart => exact ⟨0, [], _, by omega, by omega, rfl, ht1, TL.empty hm1, hc1, Nat.le_refl _⟩
    case round =>
      obtain ⟨j, l, cs, hj, hj', rfl, ht, hl, hcg, hsz⟩ := hrel
      have hll := hl.len
      by_cases hlt : j < ops.length ∧ j < 100
      · obtain ⟨h1, h2⟩ := hlt
        have hp : ops[j]? = some ops[j] := List.getElem?_eq_getElem h1
        obtain ⟨q, hq⟩ : ∃ q, q = ops[j] := ⟨_, rfl⟩
        rw [← hq] at hp
        clear hq
        obtain ⟨ab, ao, ac, hav, g0, g1, g2⟩ := SlO.at_ (Sl.chg0 hs hcg) hp
        simp only [Value.slice.injEq, true_and] at hav
        obtain ⟨rfl, rfl⟩ := hav
        clear hp
        by_cases hdel : q.kind.tmod 7 = 4 ∨ q.kind.tmod 7 = 5
        · obtain ⟨p1, p2, p3⟩ := hl.del q.k
          have P1 := Lib.hid p1
          have P3 := Lib.hid p3
          clear p1 p3
          rcases hdel with hk | hk
          all_goals
            go_wp2_with fail
            refine (del_any q.k ht (by omega) (by omega)).mono ?_
            rw [P3.out]
            rintro e w2 ⟨rfl, ht2, hc2⟩
            have hsz2 := hc2.size
            have hcg2 : Chg [] w w2 := hcg.trans' hc2 (by intro x hx; simp at hx; omega)
            clear g0 g1 g2
            generalize (delP l q.k).1 = l' at *
            go_wp2_with fail
            go_roundw
            case rel => exact ⟨j + 1, l', _, by omega, by omega, by go_num, ht2, p2, hcg2, by omega⟩
            case measure => simp [intOf]; omega
        · obtain ⟨p1, p2, p3⟩ := hl.put q.k q.v
          have P3 := Lib.hid p3
          clear p1 p3
          have k4 : (q.kind.tmod 7 == 4) = false := by simp; omega
          have k5 : (q.kind.tmod 7 == 5) = false := by simp; omega
          clear hdel
          go_wp2_with fail
          go_still_tail 11, (by kernel_rfl)
          have ht' := ht.chg0 (Chg.refl [] wr).drew
          change wpList _ _ _ _ _ wr.drew
          go_wp2_with fail
          refine (put_any q.k q.v ht' (by omega) (by omega)).mono ?_
          rw [P3.out]
          rintro e w2 ⟨rfl, ht2, hc2⟩
          have hsz2 := hc2.size
          have hcg2 : Chg [] w w2 := hcg.drew.trans' hc2 (by intro x hx; simp at hx; omega)
          clear g0 g1 g2
          generalize (putP l (↑m) q.k q.v).1 = l' at *
          go_wp2_with fail
          go_roundw
          case rel => exact ⟨j + 1, l', _, by omega, by omega, by go_num, ht2, p2, hcg2, by simp at hsz2; omega⟩
          case measure => simp [intOf]; omega
      · have hex : ¬ j < ops.length ∨ (j < ops.length ∧ ¬ j < 100) := by omega
        clear hlt
        rcases hex with h1 | ⟨h1, h2⟩
        all_goals
          go_wp2_with fail
          obtain ⟨wo, hwo⟩ : ∃ wo : World, wo = wr := ⟨_, rfl⟩
          subst hwo
          go_loopw [8, 9] (fun ma i wr => ∃ (x : Nat), x ≤ m ∧ i = .int .i64 x ∧ ma = .int .i64 (cnt cs x : Nat) ∧ Chg [] wo wr) (fun _ i _ => m - (intOf i).toNat)
          case atStart => exact ⟨0, by omega, rfl, rfl, Chg.refl _ _⟩
          case round =>
            obtain ⟨x, hx, rfl, rfl, hcx⟩ := hrel
            have htx := ht.chg0 hcx
            have hcl := cnt_le cs x
            by_cases hxl : x < m
            · go_wp2_with fail
              refine (cap_any htx).mono ?_
              rintro e w' ⟨rfl, rfl⟩
              go_wp2_with fail
              refine (cell_any x htx hxl).mono ?_
              cases hu : (cs x).used with
              | false =>
                have hcn : (cnt cs (x + 1) : Nat) = cnt cs x := by rw [cnt_step, hu]; rfl
                have HC := Lib.hid hcn
                clear hcn hu
                rw [if_neg (by simp)]
                rintro e w2 ⟨rfl, hc2⟩
                go_wp2_with fail
                go_roundw
                case rel => exact ⟨x + 1, by omega, by go_num, by rw [HC.out], hcx.trans hc2⟩
                case measure => simp [intOf]; omega
              | true =>
                have hcn : (cnt cs (x + 1) : Nat) = cnt cs x + 1 := by rw [cnt_step, hu]; rfl
                have HC := Lib.hid hcn
                have HU := Lib.hid hu
                clear hcn hu
                rw [if_pos rfl]
                rintro e w2 ⟨rfl, hc2⟩
                have htx2 := htx.chg0 hc2
                have hhome := homeOf_lt m (cs x).k hm1
                go_wp2_with fail
                refine (home_any (cs x).k htx2).mono ?_
                rintro e w' ⟨rfl, d, rfl⟩
                have htx3 := htx2.chg0 ((Chg.refl _ _).drewN d)
                have e1 : decide ((homeOf m (cs x).k : Int) < 0) = false := by simp
                have e2 : decide (m ≤ homeOf m (cs x).k) = false := by simp; omega
                go_wp2_with fail
                refine (cap_any htx3).mono ?_
                rintro e w' ⟨rfl, rfl⟩
                go_wp2_with fail
                have hway := hl.inv.way hxl HU.out
                have huniq := hl.inv.uniq
                have HW := Lib.hid hway
                have HQ := Lib.hid huniq
                clear hway huniq
                have hcx2 := hcx.trans (hc2.drewN d)
                generalize w2.drewN d = w3 at *
                clear htx htx2
                obtain ⟨wi, hwi⟩ : ∃ wi : World, wi = w3 := ⟨_, rfl⟩
                subst hwi
                have hfs := farOf_spec hhome hxl
                go_loopw [13] (fun a wr => ∃ (s : Nat), s ≤ farOf m (homeOf m (cs x).k) x ∧ a = .int .i64 (((homeOf m (cs x).k + s) % m : Nat)) ∧ Chg [] wi wr) (fun a _ => farOf m (intOf a).toNat x)
                case atStart => exact ⟨0, by omega, by rw [Nat.add_zero, Nat.mod_eq_of_lt hhome], Chg.refl _ _⟩
                case round =>
                  obtain ⟨s, hsf, rfl, hci⟩ := hrel
                  have hti := htx3.chg0 hci
                  have hps := plus_spec (t := s) hhome (show s < m by omega)
                  by_cases hse : s < farOf m (homeOf m (cs x).k) x
                  · obtain ⟨w1u, w1n⟩ := HW.out s hse
                    generalize hy : (homeOf m (cs x).k + s) % m = y at *
                    have hkne : ((cs y).k == (cs x).k) = false := by
                      simp only [beq_eq_false_iff_ne]
                      intro e
                      exact w1n (HQ.out y x hps.1 hxl w1u HU.out e)
                    have hyx : ((y : Int) == (x : Int)) = false := by simp; omega
                    have hy2 : (homeOf m (cs x).k + (s + 1)) % m = (y + 1) % m := by
                      rw [← hy, Nat.mod_add_mod, Nat.add_assoc]
                    have hmeas : farOf m ((y + 1) % m) x < farOf m y x := by
                      have a1 := next_spec hps.1
                      have a2 := farOf_spec hps.1 hxl
                      have a3 := farOf_spec a1.1 hxl
                      omega
                    have HY := Lib.hid hy2
                    have hym := hps.1
                    clear hy2 hy hps
                    go_wp2_with fail
                    refine (cell_any y hti hym).mono ?_
                    rw [if_pos w1u]
                    rintro e w4 ⟨rfl, hc4⟩
                    have hti4 := hti.chg0 hc4
                    go_wp2_with fail
                    refine (cap_any hti4).mono ?_
                    rintro e w' ⟨rfl, rfl⟩
                    go_wp2_with fail
                    go_roundw
                    case rel => exact ⟨s + 1, by omega, by rw [HY.out]; simp, hci.trans hc4⟩
                    case measure =>
                      have e : (((y : Int) + 1) % (m : Int)).toNat = (y + 1) % m := by
                        rw [show ((y : Int) + 1) % (m : Int) = (((y + 1) % m : Nat) : Int) by simp, Int.toNat_natCast]
                      simp [intOf]
                      rw [e]
                      exact hmeas
                  · have hse' : s = farOf m (homeOf m (cs x).k) x := by omega
                    have hy : (homeOf m (cs x).k + s) % m = x := by omega
                    rw [hy]
                    clear hse' hy hps
                    have hg : getV cs m (cs x).k = some (cs x).v := by
                      rw [(getV_some (hl.inv.find_there hxl HU.out)).1, HU.out]
                      rfl
                    have HG := Lib.hid hg
                    clear hg
                    go_wp2_with fail
                    refine (get_any (cs x).k hti).mono ?_
                    rw [HG.out]
                    rintro e w4 ⟨rfl, hc4⟩
                    go_wp2_with fail
                    go_roundw
                    case rel => exact ⟨x + 1, by omega, by go_num, by rw [HC.out]; go_num, hcx2.trans (hci.trans hc4)⟩
                    case measure => simp [intOf]; omega
            · go_wp2_with fail
              refine (cap_any htx).mono ?_
              rintro e w' ⟨rfl, rfl⟩
              have hend : cnt cs m = l.length := hl.cnt
              have hxm : x = m := by omega
              subst hxm
              rw [hend]
              clear hend hcl
              go_wp2_with fail
              refine (len_any htx).mono ?_
              rintro e w' ⟨rfl, rfl⟩
              go_wp2_with fail
              refine (lives21 _).mono ?_
              rintro e w2 ⟨rfl, hc2⟩
              go_wp2_with fail
              go_ret
              exact ⟨rfl, (hcg.trans hcx).trans hc2⟩
  · have hn' : n < 1 ∨ 256 < n := by omega
    clear hn
    go_enter Try.func5, Try.ntmps5
    go_wp2_with fail
    refine (new_no n w hn').mono ?_
    rintro e w1 ⟨rfl, rfl⟩
    rcases hn' with h | h
    · have d1 : decide (n < 1) = true := by simp; omega
      go_wp2_with fail
      refine (lives21 _).mono ?_
      rintro e w2 ⟨rfl, hc2⟩
      go_wp2_with fail
      go_ret
      exact ⟨rfl, hc2⟩
    · have d1 : decide (n < 1) = false := by simp; omega
      have d2 : decide (256 < n) = true := by simp; omega
      go_wp2_with fail
      refine (lives21 _).mono ?_
      rintro e w2 ⟨rfl, hc2⟩
      go_wp2_with fail
      go_ret
      exact ⟨rfl, hc2⟩
end Go.Proofs.Ytelbaooifmkpkaa
