/-
  WALK: EndpointStream returns true. Conditions: the bytes and the pieces read as data.
-/
import Derived.Test.YtelbaooifmkpkaaEpW5
import Derived.Test.YtelbaooifmkpkaaCut
import Derived.Test.YtelbaooifmkpkaaEpLaw
import Derived.Test.YtelbaooifmkpkaaLives29
set_option linter.unusedVariables false
set_option linter.unusedSimpArgs false
namespace Go.Proofs.Ytelbaooifmkpkaa
open Go.RowKit

structure PC where
  from_ : Int
  long : Int
  last : Bool
def encPc (p : PC) : List Value := [.int .i64 p.from_, .int .i64 p.long, .bool p.last]
theorem encPc_len (p : PC) : (encPc p).length = 3 := rfl
def SlPc (w : World) (B : Nat) (v : Value) (l : List PC) : Prop := Sl w B 3 v l.length (l.flatMap encPc)


set_option maxRecDepth 100000 in
set_option maxHeartbeats 4000000 in
theorem stream29 (f : Int) (hf : 0 ≤ f ∧ f < 4294967296) (A : Option Addr) (ca : Nat) (l : List Int) (hr : ∀ x ∈ l, 0 ≤ x ∧ x ≤ 255) (B : Option Addr) (cb : Nat) (ps : List PC) (w : World)
    (hl : SlB w 0 (.slice A l.length ca) l) (hlm : l.length ≤ 9223372036854775807) (hp : SlPc w 0 (.slice B ps.length cb) ps) (hpm : ps.length ≤ 9223372036854775807) :
    Calls Try.prog 4 #[.int .u32 f, .slice A l.length ca, .slice B ps.length cb] w fun e w' => e = .returned (.bool true) ∧ Chg [] w w' := by
  by_cases hn : l.length ≤ 100
  · have d1 : decide (100 < l.length) = false := by simp; omega
    have d1' : decide ((100 : Int) < (l.length : Int)) = false := by simp; omega
    go_enter Try.func4, Try.ntmps4
    go_wp2_with fail
    refine (start_any f 7 _).mono ?_
    rintro e w1 ⟨rfl, hc1⟩
    unfold enC
    go_wp2_with fail
    generalize hW : w1.alloc (.cells #[.int .i64 (startF f 7).st, .int .u32 (startF f 7).first, .int .u32 (startF f 7).own, .int .u32 (startF f 7).next, .int .u32 (startF f 7).sent, .int .i64 (startF f 7).got, .int .u32 (startF f 7).sum] 46) = W1
    have hb1 : Blk W1 w1.heap.size 46 (enC (startF f 7)) := hW ▸ Blk.new _ _ _
    have hc2 : Chg [] w W1 := hW ▸ hc1.alloc _
    clear hW
    have hsz := hc1.size
    generalize w1.heap.size = g at *
    go_loopw [8] (fun i wr => ∃ (j : Nat) (c : CN), j ≤ ps.length ∧ j ≤ 60 ∧ i = .int .i64 j ∧ Blk wr g 46 (enC c) ∧ Chg [] w wr ∧ ∃ gg, JS f l c gg) (fun i _ => 60 - (intOf i).toNat)
    case atStart => exact ⟨0, _, by omega, by omega, rfl, hb1, hc2, 0, JS.start f l⟩
    case round =>
      obtain ⟨j, c, hj, hj', rfl, hb, hcg, gg, hJ⟩ := hrel
      by_cases hlt : j < ps.length ∧ j < 60
      · obtain ⟨h1, h2⟩ := hlt
        have hpp : ps[j]? = some ps[j] := List.getElem?_eq_getElem h1
        obtain ⟨q, hq⟩ : ∃ q, q = ps[j] := ⟨_, rfl⟩
        rw [← hq] at hpp
        obtain ⟨pb, po, pc, hav, _, _, hpc⟩ := Sl.rec encPc_len (by omega) (Sl.chg0 hp hcg) hpp
        simp only [Value.slice.injEq, true_and] at hav
        obtain ⟨rfl, rfl⟩ := hav
        have g0 : wr.cell? ⟨pb, po + j * 3, none⟩ = some (.int .i64 q.from_) := hpc 0 (by omega)
        have g1 : wr.cell? ⟨pb, po + j * 3 + 1, none⟩ = some (.int .i64 q.long) := hpc 1 (by omega)
        have g2 : wr.cell? ⟨pb, po + j * 3 + 2, none⟩ = some (.bool q.last) := hpc 2 (by omega)
        clear hpp hq hpc
        go_upto_region 7 with fail
        go_cut [9] (fun x wx => (∃ n : Int, x = .int .i64 n ∧ 0 ≤ n ∧ n ≤ l.length) ∧ wr = wx)
        case first =>
          go_wp2_with fail
          all_goals
            go_meet
            exact ⟨⟨_, rfl, by omega, by omega⟩, rfl⟩
        case rest =>
          obtain ⟨⟨fr, rfl, hfr0, hfr⟩, rfl⟩ := hcut
          go_upto_region 8 with fail
          go_cut [10] (fun x wx => (∃ n : Int, x = .int .i64 n ∧ fr ≤ n ∧ n ≤ l.length) ∧ wr = wx)
          case first =>
            go_wp2_with fail
            all_goals
              go_meet
              exact ⟨⟨_, rfl, by omega, by omega⟩, rfl⟩
          case rest =>
            obtain ⟨⟨up, rfl, hto0, hto⟩, rfl⟩ := hcut
            obtain ⟨fr, rfl⟩ := Int.eq_ofNat_of_zero_le hfr0
            obtain ⟨up, rfl⟩ := Int.eq_ofNat_of_zero_le (show 0 ≤ up by omega)
            have hfu : fr ≤ up := by omega
            have hul : up ≤ l.length := by omega
            obtain ⟨X, hcut, hX⟩ := cut_mid elB (Sl.chg0 hl hcg) hfu hul
            have hpb : pb < wr.heap.size := World.block_lt_of_cell? _ _ g0
            have hgl := hb.lt
            have hT : Blk (wr.alloc (.cells (enT ⟨0, 0, u32w (f + 1 + fr), 8, 16, 0, 0, 0⟩ (.slice none 0 0) (.slice X (up - fr) (ca - fr))) 52)) wr.heap.size 52 (enT ⟨0, 0, u32w (f + 1 + fr), 8, 16, 0, 0, 0⟩ (.slice none 0 0) (.slice X (up - fr) (ca - fr))) := Blk.new _ _ _
            have hbA := hb.alloc (.cells (enT ⟨0, 0, u32w (f + 1 + fr), 8, 16, 0, 0, 0⟩ (.slice none 0 0) (.slice X (up - fr) (ca - fr))) 52)
            have hcA := hcg.alloc (.cells (enT ⟨0, 0, u32w (f + 1 + fr), 8, 16, 0, 0, 0⟩ (.slice none 0 0) (.slice X (up - fr) (ca - fr))) 52)
            go_upto_region 9 with fail
            go_cut [11] (fun x wx => x = .pointer (some ⟨wr.heap.size, 0, none⟩) ∧ wr.alloc (.cells (enT ⟨0, 0, u32w (f + 1 + fr), 8, 16, 0, 0, 0⟩ (.slice none 0 0) (.slice X (up - fr) (ca - fr))) 52) = wx)
            case first =>
              go_wp2_with fail
              go_meet
              exact ⟨rfl, rfl⟩
            case rest =>
              obtain ⟨rfl, rfl⟩ := hcut
              have g2' : (wr.alloc (.cells (enT ⟨0, 0, u32w (f + 1 + fr), 8, 16, 0, 0, 0⟩ (.slice none 0 0) (.slice X (up - fr) (ca - fr))) 52)).cell? ⟨pb, po + j * 3 + 2, none⟩ = some (.bool q.last) := (World.cell?_alloc_lt wr _ _ hpb).trans g2
              obtain ⟨tb, htb⟩ : ∃ tb, tb = wr.heap.size := ⟨_, rfl⟩
              rw [← htb] at hT
              rw [← htb]
              have hgt : g < tb := by omega
              have hwt : w.heap.size ≤ tb := by have := hcg.size; omega
              have HCUT := Lib.hid hcut
              clear htb hpb hgl g0 g1 g2 hb hX hcut
              generalize (wr.alloc (.cells (enT ⟨0, 0, u32w (f + 1 + fr), 8, 16, 0, 0, 0⟩ (.slice none 0 0) (.slice X (up - fr) (ca - fr))) 52)) = W2 at *
              go_upto_region 10 with fail
              go_cut [75] (fun x wx => x = .bool (q.last && (up == l.length)) ∧ W2 = wx)
              case first =>
                cases hq : q.last with
                | false =>
                  rw [hq] at g2'
                  go_wp2_with fail
                  go_meet
                  exact ⟨by rw [hq]; rfl, rfl⟩
                | true =>
                  rw [hq] at g2'
                  go_wp2_with fail
                  go_meet
                  exact ⟨by rw [hq, Bool.true_and]; exact congrArg Value.bool (by rw [Bool.eq_iff_iff]; simp; omega), rfl⟩
              case rest =>
                obtain ⟨rfl, rfl⟩ := hcut
                go_upto_if 75 with fail
                go_cut [] (fun wx => (∃ fl, (fl = 16 ∨ (fl = 17 ∧ up = l.length)) ∧ Blk wx tb 52 (enT ⟨0, 0, u32w (f + 1 + fr), 8, fl, 0, 0, 0⟩ (.slice none 0 0) (.slice X (up - fr) (ca - fr)))) ∧ Blk wx g 46 (enC c) ∧ Chg [tb] W2 wx)
                case first =>
                  cases hE : (q.last && (up == l.length)) with
                  | false =>
                    go_wp2_with fail
                    go_meet
                    exact ⟨⟨16, .inl rfl, hT⟩, hbA, Chg.refl _ _⟩
                  | true =>
                    have hup : up = l.length := by simp at hE; exact hE.2
                    have HU := Lib.hid hup
                    clear hup
                    have t4 := hT.cell 4
                    have tf := hT.frozen 4
                    simp only [enT, List.getElem?_toArray, List.getElem?_cons_succ, List.getElem?_cons_zero] at t4
                    go_wp2_with fail
                    go_meet
                    exact ⟨⟨17, .inr ⟨rfl, HU.out⟩, hT.set_ 4 _⟩, hbA.far (by show g ≠ tb; omega) _, (Chg.refl _ _).setCell (.inl (by simp)) _⟩
                case rest =>
                  obtain ⟨⟨fl, hfl, hT3⟩, hb3, hc3⟩ := hcut
                  obtain ⟨wd, rfl⟩ : ∃ wd : World, wd = wc := ⟨_, rfl⟩
                  have HFL := Lib.hid hfl
                  have hcg3 : Chg [] w wd := hcA.trans' hc3 (by simp; omega)
                  clear hfl hT hbA hcA g2'
                  have hb3' := hb3
                  unfold enC at hb3'
                  have x0 := hb3'.cell 0
                  have x1 := hb3'.cell 1
                  have x2 := hb3'.cell 2
                  have x3 := hb3'.cell 3
                  have x4 := hb3'.cell 4
                  have x5 := hb3'.cell 5
                  have x6 := hb3'.cell 6
                  simp only [List.getElem?_toArray, List.getElem?_cons_succ, List.getElem?_cons_zero] at x0 x1 x2 x3 x4 x5 x6
                  have hb3l := hb3.lt
                  have hT3' := hT3
                  unfold enT at hT3'
                  have ht3l := hT3.lt
                  have y0 := hT3'.cell 0
                  have y1 := hT3'.cell 1
                  have y2 := hT3'.cell 2
                  have y3 := hT3'.cell 3
                  have y4 := hT3'.cell 4
                  have y5 := hT3'.cell 5
                  have y6 := hT3'.cell 6
                  have y7 := hT3'.cell 7
                  have y8 := hT3'.cell 8
                  have y9 := hT3'.cell 9
                  simp only [List.getElem?_toArray, List.getElem?_cons_succ, List.getElem?_cons_zero] at y0 y1 y2 y3 y4 y5 y6 y7 y8 y9
                  go_wp2_with fail
                  have hwas : Blk (wd.alloc (.cells (enC c) 46)) wd.heap.size 46 (enC c) := Blk.new _ _ _
                  have hb4 := hb3.alloc (.cells (enC c) 46)
                  have hcg4 := hcg3.alloc (.cells (enC c) 46)
                  clear x0 x1 x2 x3 x4 x5 x6 y0 y1 y2 y3 y4 y5 y6 y7 y8 y9 hb3' hT3'
                  have hlp : ((l.drop fr).take (up - fr)).length = up - fr := by simp; omega
                  have hpay : SlB (wd.alloc (.cells (enC c) 46)) 0 (.slice X (up - fr) (ca - fr)) ((l.drop fr).take (up - fr)) := by
                    obtain ⟨X2, hc2', hX2⟩ := cut_mid elB (Sl.chg0 hl hcg4) hfu hul
                    have e1 := HCUT.out w
                    have e2 := hc2' w
                    rw [e1] at e2
                    injection e2 with e2
                    injection e2 with e2
                    rw [Nat.mul_one, Nat.mul_one, ← List.map_drop, ← List.map_take] at hX2
                    unfold SlB
                    rw [hlp, e2]
                    exact hX2
                  have HLP := Lib.hid hlp
                  clear hlp
                  have hgotb : c.got = gg ∧ gg ≤ l.length := ⟨hJ.got, hJ.le⟩
                  obtain ⟨gg', hJ', hggle, htold⟩ := hJ.step hn hfu hul HFL.out
                  refine (take_any c ⟨0, 0, u32w (f + 1 + fr), 8, fl, 0, 0, 0⟩ (.slice none 0 0) _ _ _ hpay (by rw [HLP.out]; omega) (fun x hx => hr x (List.mem_of_mem_drop (List.mem_of_mem_take hx))) (by omega) (by rw [HLP.out]; omega) hJ.bd).mono ?_
                  have htlen := takeF_len c ⟨0, 0, u32w (f + 1 + fr), 8, fl, 0, 0, 0⟩ ((l.drop fr).take (up - fr))
                  generalize takeF c ⟨0, 0, u32w (f + 1 + fr), 8, fl, 0, 0, 0⟩ ((l.drop fr).take (up - fr)) = R at *
                  obtain ⟨c', tl⟩ := R
                  rintro e w5 ⟨v5, rfl, hs5, hc5⟩
                  have hJ' : JS f l c' gg' := hJ'
                  have htlen : tl.length ≤ 1 := htlen
                  have htold : ∀ t ∈ tl, Told f c' gg' t := htold
                  have hs5 : SlT w5 _ v5 tl := hs5
                  have hwas5 := hwas.chg hc5 (by simp)
                  have hb5 := hb4.chg hc5 (by simp)
                  have hcg5 := hcg4.trans hc5
                  have hl5 := hwas5.lt
                  have hl5' := hb5.lt
                  have hsz4 : (wd.alloc (.cells (enC c) 46)).heap.size = wd.heap.size + 1 := by simp
                  rw [hsz4] at hs5
                  unfold enC
                  go_upto_region 14 with fail
                  go_cut [] (fun wx => Blk wx g 46 (enC c') ∧ Blk wx wd.heap.size 46 (enC c) ∧ SlT wx (wd.heap.size + 1) v5 tl ∧ Chg [] w wx)
                  case first =>
                    go_wp2_with (refine wpList_store_blk rfl 46 (.tmp 7) (.tmp 84) rfl rfl (hb5.alloc _) rfl (vs := enC c') rfl rfl (by kernel_rfl) rfl ?_; intro w7 hb7 hc7)
                    go_meet
                    exact ⟨hb7, (hwas5.alloc _).chg hc7 (by simp; omega), Sl.chg (Sl.chg0 hs5 ((Chg.refl [] w5).alloc (.cells (enC c') 46))) hc7 (by simp; omega), (hcg5.alloc _).trans' hc7 (by simp; omega)⟩
                  case rest =>
                    obtain ⟨hb7, hwas7, hs7, hcg7⟩ := hcut
                    have hle' := hJ'.le
                    have e5 : (enC c')[5]? = some (.int .i64 gg') := by
                      have := hJ'.got
                      simp [enC, this]
                    have e6 : (enC c')[6]? = some (.int .u32 (mixF 0 (l.take gg'))) := by
                      have := hJ'.sum
                      simp [enC, this]
                    have e5' : (enC c)[5]? = some (.int .i64 gg) := by
                      have := hJ.got
                      simp [enC, this]
                    have z5 := (hb7.cell 5).trans e5
                    have z6 := (hb7.cell 6).trans e6
                    have y5 := (hwas7.cell 5).trans e5'
                    have z0 : wc.cell? ⟨g, 0, none⟩ = some (.int .i64 c'.st) := (hb7.cell 0).trans (by simp [enC])
                    obtain ⟨hto1, hto2⟩ := cut_to elB (Sl.chg0 hl hcg7) hle'
                    have hmx : SlB wc 0 (.slice A gg' ca) (l.take gg') := by
                      have hlt : (l.take gg').length = gg' := by simp; omega
                      rw [Nat.mul_one, ← List.map_take] at hto2
                      unfold SlB
                      rw [hlt]
                      exact hto2
                    have HJ := Lib.hid hJ
                    have HJ' := Lib.hid hJ'
                    have HT := Lib.hid htold
                    have HR := Lib.hid hr
                    have HB := Lib.hid hb7
                    clear e5 e6 e5' hJ hJ' htold hb7 hwas7 hwas5 hb5 hwas hto2 hb4 hcg4 hcg5 hb3 hc3 hT3 hcg3 hpay hgotb hr
                    have b1 : decide ((gg' : Int) < (gg : Int)) = false := by simp; omega
                    have b2 : decide ((l.length : Int) < (gg' : Int)) = false := by simp; omega
                    have b1' : decide (gg' < gg) = false := by simp; omega
                    have b2' : decide (l.length < gg') = false := by simp; omega
                    have htl : (l.take gg').length ≤ 9223372036854775807 := by simp; omega
                    go_wp2_with fail
                    go_quiet ((go_at_call 22; exact Calls.quiet_of_same ((mix_any 0 (Sl.chg0 hmx ((Chg.refl [] wc).drewN _)) htl (fun x hx => HR.out x (List.mem_of_mem_take hx))).mono fun _ _ ⟨a, b⟩ => ⟨a, b.symm⟩)))
                    have hcgq := hcg7.drewN nq
                    have hsq := Sl.chg0 hs7 ((Chg.refl [] wc).drewN nq)
                    have z5q := (World.cell?_of_block (w := wc) (w' := wc.drewN nq) (a := ⟨g, 5, none⟩) rfl).trans z5
                    have z0q := (World.cell?_of_block (w := wc) (w' := wc.drewN nq) (a := ⟨g, 0, none⟩) rfl).trans z0
                    have hb8 : Blk (wc.drewN nq) g 46 (enC c') := HB.out
                    clear hcg7 hs7 z5 z6 y5 z0 hmx hto1
                    generalize wc.drewN nq = W8 at *
                    obtain ⟨vA, vc, hv5⟩ := Sl.form hsq
                    subst hv5
                    go_wp2_with fail
                    go_loop [15] (fun k => ∃ n : Nat, n ≤ tl.length ∧ k = .int .i64 n) (fun k => tl.length - (intOf k).toNat)
                    case atStart => exact ⟨0, by omega, rfl⟩
                    case round =>
                      obtain ⟨n, hn0, rfl⟩ := hrel
                      by_cases hnl : n < tl.length
                      · have hp1 : tl[n]? = some tl[n] := List.getElem?_eq_getElem hnl
                        have hto := HT.out _ (List.getElem_mem hnl)
                        generalize tl[n] = tn at hp1 hto
                        obtain ⟨a, ha, hale, hast⟩ := hto
                        obtain ⟨vb, vo, vc', hv5, _, _, hcell⟩ := Sl.rec encT_len (by omega) hsq hp1
                        simp only [Value.slice.injEq, true_and] at hv5
                        obtain ⟨rfl, rfl⟩ := hv5
                        have k3 : W8.cell? ⟨vb, vo + n * 10 + 3, none⟩ = some (.int .u32 tn.ack) := hcell 3 (by omega)
                        have r1 : (tn.ack - f) % 4294967296 = ((a : Int) + 1) := by rw [ha]; unfold u32w; omega
                        generalize tn.ack = x at k3 r1
                        clear ha hcell hp1
                        by_cases hag : a = gg' + 1
                        · have hst := hast hag
                          have c1 : decide (c'.st < 3) = false := by simp; omega
                          have c2 : ((a : Int) == (gg' : Int) + 1) = true := by simp; omega
                          clear hast hag
                          go_wp2_with fail
                          go_round
                          case rel => exact ⟨n + 1, by omega, by go_num⟩
                          case measure => simp [intOf]; omega
                        · have c2 : ((a : Int) == (gg' : Int) + 1) = false := by simp; omega
                          clear hast
                          go_wp2_with fail
                          go_round
                          case rel => exact ⟨n + 1, by omega, by go_num⟩
                          case measure => simp [intOf]; omega
                      · go_wp2_with fail
                        go_roundw
                        case rel => exact ⟨j + 1, c', by omega, by omega, by go_num, hb8, hcgq, gg', HJ'.out⟩
                        case measure => simp [intOf]; omega
      · have hex : ¬ j < ps.length ∨ (j < ps.length ∧ ¬ j < 60) := by omega
        clear hlt
        rcases hex with h1 | ⟨h1, h2⟩
        all_goals
          go_wp2_with fail
          refine (lives29 _).mono ?_
          rintro e w2 ⟨rfl, hc9⟩
          go_wp2_with fail
          go_ret
          exact ⟨rfl, hcg.trans hc9⟩
  · have d1 : decide (100 < l.length) = true := by simp; omega
    have d1' : decide ((100 : Int) < (l.length : Int)) = true := by simp; omega
    go_enter Try.func4, Try.ntmps4
    go_wp2_with fail
    refine (lives29 _).mono ?_
    rintro e w2 ⟨rfl, hc9⟩
    go_wp2_with fail
    go_ret
    exact ⟨rfl, hc9⟩
end Go.Proofs.Ytelbaooifmkpkaa
