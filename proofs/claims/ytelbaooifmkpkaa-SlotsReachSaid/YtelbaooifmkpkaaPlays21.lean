/-
  WALK: SlotsPlays returns true. Condition: the calls read as records.
-/
import Derived.Test.YtelbaooifmkpkaaSlotJoin
import Derived.Test.YtelbaooifmkpkaaLives21
set_option linter.unusedVariables false
set_option linter.unusedSimpArgs false
namespace Go.Proofs.Ytelbaooifmkpkaa
open Go.RowKit

structure OpR where
  kind : Int
  k : Int
  v : Int
def encO (o : OpR) : List Value := [.int .i64 o.kind, .int .i64 o.k, .int .i64 o.v]
theorem encO_len (o : OpR) : (encO o).length = 3 := rfl
def SlO (w : World) (B : Nat) (v : Value) (l : List OpR) : Prop := Sl w B 3 v l.length (l.flatMap encO)
theorem SlO.at_ {w : World} {B : Nat} {v : Value} {l : List OpR} (h : SlO w B v l) {i : Nat} {p : OpR} (hi : l[i]? = some p) :
    ∃ b o c, v = .slice (some ⟨b, o, none⟩) l.length c ∧ w.cell? ⟨b, o + i * 3, none⟩ = some (.int .i64 p.kind) ∧ w.cell? ⟨b, o + i * 3 + 1, none⟩ = some (.int .i64 p.k) ∧ w.cell? ⟨b, o + i * 3 + 2, none⟩ = some (.int .i64 p.v) := by
  obtain ⟨b, o, c, hv, hb, hcap, hx⟩ := Sl.rec encO_len (by omega) h hi
  exact ⟨b, o, c, hv, hx 0 (by omega), hx 1 (by omega), hx 2 (by omega)⟩

set_option maxRecDepth 100000 in
set_option maxHeartbeats 4000000 in
theorem plays21 (n : Int) (A : Option Addr) (cap : Nat) (ops : List OpR) (w : World) (hs : SlO w 0 (.slice A ops.length cap) ops) (hm : ops.length ≤ 9223372036854775807) :
    Calls Try.prog 3 #[.int .i64 n, .slice A ops.length cap] w fun e w' => e = .returned (.bool true) ∧ Chg [] w w' := by
  by_cases hn : 1 ≤ n ∧ n ≤ 256
  · obtain ⟨hn1, hn2⟩ := hn
    obtain ⟨m, rfl⟩ := Int.eq_ofNat_of_zero_le (show 0 ≤ n by omega)
    have hm1 : 1 ≤ m := by omega
    have hm2 : m ≤ 256 := by omega
    have d1 : decide (m < 1) = false := by simp; omega
    have d2 : decide (256 < m) = false := by simp; omega
    have d3 : decide ((m : Int) < 1) = false := by simp; omega
    have d4 : decide (256 < (m : Int)) = false := by simp; omega
    clear hn1 hn2
    go_enter Try.func3, Try.ntmps3
    go_wp2_with fail
    refine (new_any m w hm1 hm2).mono ?_
    rintro e w1 ⟨b, c, rfl, hb, hc, ht1, hc1⟩
    have hbc := ht1.lt
    go_wp2_with fail
    go_loopw [6, 7] (fun lv i wr => ∃ (j : Nat) (l : List PR) (cs : Nat → SC), j ≤ ops.length ∧ j ≤ 100 ∧ i = .int .i64 j ∧ SlP wr w1.heap.size lv l ∧ Tab wr b c m cs l.length ∧ TL cs m l ∧ Chg [] w wr ∧ w1.heap.size ≤ wr.heap.size) (fun _ i _ => 100 - (intOf i).toNat)
    case atStart => exact ⟨0, [], _, by omega, by omega, rfl, Sl.nil _ _ _, ht1, TL.empty hm1, hc1, Nat.le_refl _⟩
    case round =>
      obtain ⟨j, l, cs, hj, hj', rfl, hsl, ht, hl, hcg, hsz⟩ := hrel
      obtain ⟨la, lc, hlv⟩ := Sl.form hsl
      subst hlv
      by_cases hlt : j < ops.length ∧ j < 100
      · obtain ⟨h1, h2⟩ := hlt
        have hp : ops[j]? = some ops[j] := List.getElem?_eq_getElem h1
        obtain ⟨q, hq⟩ : ∃ q, q = ops[j] := ⟨_, rfl⟩
        rw [← hq] at hp
        clear hq
        obtain ⟨ab, ao, ac, hav, g0, g1, g2⟩ := SlO.at_ (Sl.chg0 hs hcg) hp
        simp only [Value.slice.injEq, true_and] at hav
        obtain ⟨rfl, rfl⟩ := hav
        clear hp
        have hll := hl.len
        have ht' := ht.chg0 ((Chg.refl [] wr).alloc (.cells #[.int .i64 q.kind, .int .i64 q.k, .int .i64 q.v] 29))
        by_cases hput : 0 ≤ q.kind.tmod 7 ∧ q.kind.tmod 7 ≤ 3
        · obtain ⟨k1, k2⟩ := hput
          obtain ⟨p1, p2, p3⟩ := hl.put q.k q.v
          have P1 := Lib.hid p1
          have P3 := Lib.hid p3
          clear p1 p3
          have hpl := p2.len
          go_wp2_with fail
          refine (put_any q.k q.v ht' (by omega) (by omega)).mono ?_
          rw [P1.out, P3.out]
          rintro e w2 ⟨rfl, ht2, hc2⟩
          have hbx := (Blk.new wr 29 #[.int .i64 q.kind, .int .i64 q.k, .int .i64 q.v]).chg hc2 (by simp; omega)
          have x1 := hbx.cell 1
          have x2 := hbx.cell 2
          have hsl2 := Sl.chg (Sl.chg0 hsl ((Chg.refl [] wr).alloc (.cells #[.int .i64 q.kind, .int .i64 q.k, .int .i64 q.v] 29))) hc2 (by simp; omega)
          have hsz2 := hc2.size
          have hcg2 : Chg [] w w2 := (hcg.alloc _).trans' hc2 (by intro x hx; simp at hx; omega)
          clear g0 g1 g2
          go_wp2_with fail
          refine (put21_any m q.k q.v hsl2 (by omega) (by simp at hsz2; omega)).mono ?_
          rintro e w3 ⟨v', rfl, hsl3, hc3⟩
          have ht3 := ht2.chg0 hc3
          have hsz3 := hc3.size
          generalize (putP l (↑m) q.k q.v).1 = l' at *
          generalize (putP l (↑m) q.k q.v).2 = bo at *
          obtain ⟨la', lc', hlv⟩ := Sl.form hsl3
          subst hlv
          go_wp2_with fail
          refine (len_any ht3).mono ?_
          rintro e w' ⟨rfl, rfl⟩
          go_wp2_with fail
          refine (cap_any ht3).mono ?_
          rintro e w' ⟨rfl, rfl⟩
          go_wp2_with fail
          go_roundw
          case rel => exact ⟨j + 1, l', _, by omega, by omega, by go_num, hsl3, ht3, p2, hcg2.trans hc3, by simp at hsz2; omega⟩
          case measure => simp [intOf]; omega
        · by_cases hdel : q.kind.tmod 7 = 4 ∨ q.kind.tmod 7 = 5
          · obtain ⟨p1, p2, p3⟩ := hl.del q.k
            have P1 := Lib.hid p1
            have P3 := Lib.hid p3
            clear p1 p3 hput
            have hpl := p2.len
            rcases hdel with hk | hk
            all_goals
              go_wp2_with fail
              refine (del_any q.k ht' (by omega) (by omega)).mono ?_
              rw [P1.out] at *
              have P3' := P3.out
              rw [P1.out] at P3'
              rw [P3']
              clear P3'
              rintro e w2 ⟨rfl, ht2, hc2⟩
              have hbx := (Blk.new wr 29 #[.int .i64 q.kind, .int .i64 q.k, .int .i64 q.v]).chg hc2 (by simp; omega)
              have x1 := hbx.cell 1
              have hsl2 := Sl.chg (Sl.chg0 hsl ((Chg.refl [] wr).alloc (.cells #[.int .i64 q.kind, .int .i64 q.k, .int .i64 q.v] 29))) hc2 (by simp; omega)
              have hsz2 := hc2.size
              have hcg2 : Chg [] w w2 := (hcg.alloc _).trans' hc2 (by intro x hx; simp at hx; omega)
              clear g0 g1 g2
              go_wp2_with fail
              refine (del21_any q.k hsl2 (by omega) (by simp at hsz2; omega)).mono ?_
              rintro e w3 ⟨v', rfl, hsl3, hc3⟩
              have ht3 := ht2.chg0 hc3
              have hsz3 := hc3.size
              generalize (delP l q.k).1 = l' at *
              generalize (delP l q.k).2 = bo at *
              obtain ⟨la', lc', hlv⟩ := Sl.form hsl3
              subst hlv
              go_wp2_with fail
              refine (len_any ht3).mono ?_
              rintro e w' ⟨rfl, rfl⟩
              go_wp2_with fail
              refine (cap_any ht3).mono ?_
              rintro e w' ⟨rfl, rfl⟩
              go_wp2_with fail
              go_roundw
              case rel => exact ⟨j + 1, l', _, by omega, by omega, by go_num, hsl3, ht3, p2, hcg2.trans hc3, by simp at hsz2; omega⟩
              case measure => simp [intOf]; omega
          · have k4 : (q.kind.tmod 7 == 4) = false := by simp; omega
            have k5 : (q.kind.tmod 7 == 5) = false := by simp; omega
            have hG := Lib.hid (hl.get q.k)
            have hlow : q.kind.tmod 7 < 0 ∨ 3 < q.kind.tmod 7 := by omega
            clear hdel hput
            rcases hlow with hlow | hlow
            all_goals
              cases hf : findP l q.k with
              | none =>
                have hg := hG.out
                rw [hf] at hg
                have HG := Lib.hid hg
                have HF := Lib.hid hf
                clear hf hg
                go_wp2_with fail
                refine (get_any q.k ht').mono ?_
                rw [HG.out]
                rintro e w2 ⟨rfl, hc2⟩
                have hcg2 := hcg.alloc (.cells #[.int .i64 q.kind, .int .i64 q.k, .int .i64 q.v] 29)
                have hbx := (Blk.new wr 29 #[.int .i64 q.kind, .int .i64 q.k, .int .i64 q.v]).chg hc2 (by simp)
                have x1 := hbx.cell 1
                have hsl2 := Sl.chg0 (Sl.chg0 hsl ((Chg.refl [] wr).alloc (.cells #[.int .i64 q.kind, .int .i64 q.k, .int .i64 q.v] 29))) hc2
                have hsz2 := hc2.size
                have ht2 := ht'.chg0 hc2
                clear g0 g1 g2
                go_wp2_with fail
                refine (find21_any q.k hsl2 (by omega)).mono ?_
                rw [HF.out, idxOr_none]
                rintro e w' ⟨rfl, rfl⟩
                go_wp2_with fail
                refine (len_any ht2).mono ?_
                rintro e w' ⟨rfl, rfl⟩
                go_wp2_with fail
                refine (cap_any ht2).mono ?_
                rintro e w' ⟨rfl, rfl⟩
                go_wp2_with fail
                go_roundw
                case rel => exact ⟨j + 1, l, _, by omega, by omega, by go_num, hsl2, ht2, hl, hcg2.trans hc2, by simp at hsz2; omega⟩
                case measure => simp [intOf]; omega
              | some i =>
                obtain ⟨pp, hp, hk, hlt⟩ := findP_some hf
                have hg := hG.out
                rw [hf] at hg
                simp only [Option.bind_some, hp, Option.map_some] at hg
                have HG := Lib.hid hg
                have HF := Lib.hid hf
                have HP := Lib.hid hp
                clear hf hg hp hk
                go_wp2_with fail
                refine (get_any q.k ht').mono ?_
                rw [HG.out]
                rintro e w2 ⟨rfl, hc2⟩
                have hcg2 := hcg.alloc (.cells #[.int .i64 q.kind, .int .i64 q.k, .int .i64 q.v] 29)
                have hbx := (Blk.new wr 29 #[.int .i64 q.kind, .int .i64 q.k, .int .i64 q.v]).chg hc2 (by simp)
                have x1 := hbx.cell 1
                have hsl2 := Sl.chg0 (Sl.chg0 hsl ((Chg.refl [] wr).alloc (.cells #[.int .i64 q.kind, .int .i64 q.k, .int .i64 q.v] 29))) hc2
                have hsz2 := hc2.size
                have ht2 := ht'.chg0 hc2
                clear g0 g1 g2
                go_wp2_with fail
                refine (find21_any q.k hsl2 (by omega)).mono ?_
                rw [HF.out, idxOr_some]
                rintro e w' ⟨rfl, rfl⟩
                obtain ⟨lb, lo, lc', hlv, _, _, y0, y1⟩ := SlP.at_ hsl2 HP.out
                simp only [Value.slice.injEq, true_and] at hlv
                obtain ⟨rfl, rfl⟩ := hlv
                go_wp2_with fail
                refine (len_any ht2).mono ?_
                rintro e w' ⟨rfl, rfl⟩
                go_wp2_with fail
                refine (cap_any ht2).mono ?_
                rintro e w' ⟨rfl, rfl⟩
                go_wp2_with fail
                go_roundw
                case rel => exact ⟨j + 1, l, _, by omega, by omega, by go_num, hsl2, ht2, hl, hcg2.trans hc2, by simp at hsz2; omega⟩
                case measure => simp [intOf]; omega
      · have hll := hl.len
        have hex : ¬ j < ops.length ∨ (j < ops.length ∧ ¬ j < 100) := by omega
        clear hlt
        rcases hex with h1 | ⟨h1, h2⟩
        all_goals
          go_wp2_with fail
          obtain ⟨wo, hwo⟩ : ∃ wo : World, wo = wr := ⟨_, rfl⟩
          subst hwo
          go_loopw [15] (fun i wr => ∃ (x : Nat), x ≤ l.length ∧ i = .int .i64 x ∧ Chg [] wo wr) (fun i _ => l.length - (intOf i).toNat)
          case atStart => exact ⟨0, by omega, rfl, Chg.refl _ _⟩
          case round =>
            obtain ⟨x, hx, rfl, hcx⟩ := hrel
            have htx := ht.chg0 hcx
            by_cases hxl : x < l.length
            · have hp : l[x]? = some l[x] := List.getElem?_eq_getElem hxl
              obtain ⟨pp, hpp⟩ : ∃ pp, pp = l[x] := ⟨_, rfl⟩
              rw [← hpp] at hp
              clear hpp
              obtain ⟨lb, lo, lc', hlv, _, _, y0, y1⟩ := SlP.at_ (Sl.chg0 hsl hcx) hp
              simp only [Value.slice.injEq, true_and] at hlv
              obtain ⟨rfl, rfl⟩ := hlv
              have hg : getV cs m pp.k = some pp.v := by
                obtain ⟨jj, _, hc', hfi⟩ := hl.there hp
                rw [(getV_some hfi).1, hc']
                rfl
              have HG := Lib.hid hg
              clear hg hp
              go_wp2_with fail
              refine (get_any pp.k htx).mono ?_
              rw [HG.out]
              rintro e w2 ⟨rfl, hc2⟩
              obtain ⟨y0', y1'⟩ := And.intro (hc2.cell y0 (by simp)) (hc2.cell y1 (by simp))
              clear y0 y1
              go_wp2_with fail
              go_roundw
              case rel => exact ⟨x + 1, by omega, by go_num, hcx.trans hc2⟩
              case measure => simp [intOf]; omega
            · go_wp2_with fail
              refine (lives21 _).mono ?_
              rintro e w2 ⟨rfl, hc2⟩
              go_wp2_with fail
              go_ret
              exact ⟨rfl, (hcg.trans hcx).trans hc2⟩
  · have hn' : n < 1 ∨ 256 < n := by omega
    clear hn
    go_enter Try.func3, Try.ntmps3
    go_wp2_with fail
    refine (new_no n w hn').mono ?_
    rintro e w1 ⟨rfl, rfl⟩
    rcases hn' with h | h
    · have d1 : decide (n < 1) = true := by simp; omega
      go_wp2_with fail
      refine (lives21 _).mono ?_
      rintro e w2 ⟨rfl, hc2⟩
      go_wp2_with fail
      go_ret
      exact ⟨rfl, hc2⟩
    · have d1 : decide (n < 1) = false := by simp; omega
      have d2 : decide (256 < n) = true := by simp; omega
      go_wp2_with fail
      refine (lives21 _).mono ?_
      rintro e w2 ⟨rfl, hc2⟩
      go_wp2_with fail
      go_ret
      exact ⟨rfl, hc2⟩
end Go.Proofs.Ytelbaooifmkpkaa
