/-
  WALK: MaglevShares. Condition: the members read as such.
-/
import Derived.Test.YtecblclpchndiaaMagLaw2
set_option linter.unusedVariables false
set_option linter.unusedSimpArgs false
namespace Go.Proofs.Ytecblclpchndiaa
open Go.RowKit

theorem prod_le {a b M N : Int} (ha : 0 ≤ a ∧ a ≤ M) (hb : 0 ≤ b ∧ b ≤ N) : 0 ≤ a * b ∧ a * b ≤ M * N :=
  ⟨Int.mul_nonneg ha.1 hb.1, Int.mul_le_mul ha.2 hb.2 hb.1 (by omega)⟩

set_option maxRecDepth 100000 in
set_option maxHeartbeats 4000000 in
theorem shares17_any (ka kb m : Int) {w : World} {B : Nat} {v : Value} {L : List Mb} (h : SlM w B v L) :
    Calls Try.prog 6 #[.agg #[.int .u64 ka, .int .u64 kb], .int .i64 m, v] w fun e w' => e = .returned (.bool true) ∧ Chg [] w w' := by
  have hA := (Chg.refl [] w).alloc (.cells #[.int .u64 ka, .int .u64 kb] 24)
  have hB1 : Blk (w.alloc (.cells #[.int .u64 ka, .int .u64 kb] 24)) w.heap.size 24 #[.int .u64 ka, .int .u64 kb] := Blk.new _ _ _
  have HA := Lib.hid (And.intro hA (And.intro hB1 (h.chg0 hA)))
  clear hA hB1
  obtain ⟨A, c, rfl⟩ := Sl.form h
  by_cases hl : 40 < L.length
  · have hli : (40 : Int) < (L.length : Int) := by omega
    clear h
    generalize L.length = n at *
    go_enter Try.func6, Try.ntmps6
    go_wp2_with fail
    refine (lives17_any _).mono ?_
    rintro e w1 ⟨rfl, hc1⟩
    go_wp2_with fail
    go_ret
    exact ⟨rfl, HA.out.1.trans hc1⟩
  have hli : ¬ (40 : Int) < (L.length : Int) := by omega
  have HS := Lib.hid (fun W (hW : Chg [] w W) i x hx => (h.chg0 hW).at_ (i := i) (x := x) hx)
  have HX : Hid (∀ i, i < L.length → ∃ x, L[i]? = some x ∧ x ∈ L) := Lib.hid fun i hi => ⟨_, List.getElem?_eq_getElem hi, List.getElem_mem hi⟩
  have F1 := Lib.hid (build_any ka kb m HA.out.2.2 (by omega))
  have HTT := Lib.hid (fun W (hW : Chg [] w W) => total_any (h.chg0 hW) (by omega))
  have R1 := Lib.hid HA.out.2.1.rangeQ
  clear h
  have hle : L.length ≤ 40 := by omega
  have HLT : Hid (L.take L.length = L) := Lib.hid (List.take_length ..)
  generalize hn : L.length = n at *
  have HN := Lib.hid hn
  clear hn
  go_enter Try.func6, Try.ntmps6
  go_wp2_with (first
    | (refine wpList_row 24 (.tmp 3) rfl rfl w.heap.size 0 rfl _ _ R1.out Try.underlying24 rfl (by kernel_rfl) ?_)
    | fail)
  refine F1.out.mono ?_
  rintro e w2 ⟨v2, c2, rfl, hb2, hc2⟩
  obtain ⟨tl, hst, htb⟩ := hb2.tb
  have HC2 := Lib.hid (HA.out.1.trans hc2)
  have HTL := Lib.hid htb.len
  by_cases hc0 : c2 = 0
  · have hthird : (m ≤ 251 ∧ IsPr m) ∧ rightM L = 0 ∧ ∃ L', L'.Perm L ∧ SrtM L' ∧ tl = tableS ka kb m.toNat L' := by
      rcases htb with ⟨_, h2, _⟩ | ⟨_, h2, h3, _⟩ | ⟨h1, h2, _, h4⟩
      · omega
      · exact absurd (h3.symm.trans hc0) h2
      · exact ⟨h1, h2, h4⟩
    subst hc0
    obtain ⟨hm, hr, L', hp, hsr, rfl⟩ := hthird
    have hok := OkM.of hr
    have F2 := Lib.hid (HTT.out w2 HC2.out)
    have hto : totalM L = sumW L := by unfold totalM; rw [if_pos hr]
    rw [hto] at F2
    by_cases hs0 : sumW L = 0
    · rw [hs0] at F2
      obtain ⟨A2, c2', rfl⟩ := Sl.form hst
      generalize (tableS ka kb m.toNat L').length = n2 at *
      clear hb2 hst htb hc2 F1 R1 HTT hs0 hto HS HX HLT
      go_wp2_with fail
      refine F2.out.mono ?_
      rintro e w3 ⟨rfl, hc3⟩
      go_wp2_with fail
      refine (lives17_any _).mono ?_
      rintro e w4 ⟨rfl, hc4⟩
      go_wp2_with fail
      go_ret
      exact ⟨rfl, (HC2.out.trans hc3).trans hc4⟩
    · obtain ⟨M, rfl⟩ : ∃ M : Nat, m = M := ⟨m.toNat, by have := hm.2.1; omega⟩
      have hM2 : 2 ≤ M ∧ M ≤ 251 := by have := hm.2.1; omega
      rw [Int.toNat_natCast] at hst HTL
      have HSH := Lib.hid (shares_of (ka := ka) (kb := kb) hm.2 hok hp hs0)
      have hb0 : (sumW L == 0) = false := by simp [hs0]
      have HOK := Lib.hid hok
      clear hto hok hsr hr hp hm htb
      generalize htl : tableS ka kb M L' = tl at *
      clear htl
      have hlen := HSH.out.len
      have HCT := Lib.hid (fun W (hW : Chg [] w2 W) x => count_slots (hst.chg0 hW) (by omega) x)
      obtain ⟨A2, c2', rfl⟩ := Sl.form hst
      rw [hlen] at HCT ⊢
      generalize sumW L = sw at *
      clear hlen hst hb2 hc2 F1 R1 HTT HTL
      have HCB : Hid (∀ x : Int, tl.count x ≤ M) := Lib.hid fun x => by have := List.count_le_length (a := x) (l := tl); rw [HSH.out.len] at this; exact this
      go_wp2_with fail
      refine F2.out.mono ?_
      rintro e w3 ⟨rfl, hc3⟩
      have HC3 := Lib.hid hc3
      clear F2 hc3
      go_wp2_with fail
      obtain ⟨S, hSd⟩ : ∃ S : Nat → Nat, S = fun i => ((L.take i).map fun x => tl.count x.node).sum := ⟨_, rfl⟩
      have HSS : Hid (∀ i x, L[i]? = some x → S (i + 1) = S i + tl.count x.node) := Lib.hid fun i x hx => by
        rw [hSd]
        simp only
        rw [List.take_add_one, hx]
        simp
      have HSZ : Hid (S 0 = 0 ∧ S n = M) := Lib.hid ⟨by rw [hSd]; simp, by rw [hSd]; simp only; rw [HLT.out]; exact HSH.out.sum⟩
      have HSB : Hid (∀ i, i ≤ n → S i ≤ 251 * i) := Lib.hid fun i => by
        induction i with
        | zero => intro _; rw [HSZ.out.1]; omega
        | succ i ih =>
          intro hi
          obtain ⟨x, hx, _⟩ := HX.out i (by omega)
          rw [HSS.out i x hx]
          have := ih (by omega)
          have := HCB.out x.node
          omega
      clear hSd
      go_loopw [9, 10] (fun sv iv wr => ∃ i : Nat, i ≤ n ∧ iv = .int .i64 i ∧ sv = .int .i64 (S i : Nat) ∧ Hid (Chg [] w2 wr)) (fun _ iv _ => n - (intOf iv).toNat)
      case atStart => exact ⟨0, by omega, rfl, by rw [HSZ.out.1]; rfl, HC3⟩
      case round =>
        obtain ⟨i, hi, rfl, rfl, HC⟩ := hrel
        by_cases hin : i < n
        · have hii : (i : Int) < (n : Int) := by omega
          obtain ⟨x, hx, hxm⟩ := HX.out i hin
          obtain ⟨b, o, c', hv, hcap, d0, d1⟩ := HS.out wr (HC2.out.trans HC.out) i x hx
          simp only [Value.slice.injEq, true_and] at hv
          obtain ⟨rfl, rfl⟩ := hv
          have HSX : Hid (∀ W, Chg [] w2 W → W.cell? ⟨b, o + i * 2, none⟩ = some (.int .i64 x.node) ∧ W.cell? ⟨b, o + i * 2 + 1, none⟩ = some (.int .i64 x.w)) := Lib.hid fun W hW => by
            obtain ⟨b', o', c', hv, _, d0, d1⟩ := HS.out W (HC2.out.trans hW) i x hx
            simp only [Value.slice.injEq, true_and, Option.some.injEq, Addr.mk.injEq, and_true] at hv
            obtain ⟨⟨rfl, rfl⟩, rfl⟩ := hv
            exact ⟨d0, d1⟩
          have F3 := Lib.hid (HCT.out wr HC.out x.node)
          have HSi := Lib.hid (HSS.out i x hx)
          have hsb := HSB.out i (by omega)
          have hcb := HCB.out x.node
          have hxw := HOK.out.ok x hxm
          have HXM := Lib.hid hxm
          have hww : IntKind.i64.wrap ((S i : Nat) + (tl.count x.node : Nat) : Int) = ((S i + tl.count x.node : Nat) : Int) := by rw [IntKind.wrap_i64]; omega
          clear hx hxm
          go_wp2_with fail
          refine F3.out.mono ?_
          rintro e w4 ⟨rfl, rfl⟩
          clear F3 d0 d1
          have HSH1 : Hid (x.w = 0 → tl.count x.node = 0) := Lib.hid (HSH.out.none x HXM.out)
          have HSH2 : Hid (∀ y ∈ L, (tl.count x.node : Int) * y.w - (tl.count y.node : Int) * x.w ≤ x.w * y.w) := Lib.hid (HSH.out.le x HXM.out)
          obtain ⟨wo, rfl⟩ : ∃ wo, wo = wr := ⟨_, rfl⟩
          generalize hca : tl.count x.node = a at *
          clear hca
          have hmulx : (0 : Int) ≤ x.w ∧ x.w ≤ 4 := hxw.2.2
          go_wp2_with fail
          go_loopw [12] (fun jv wx => ∃ j : Nat, j ≤ n ∧ jv = .int .i64 j ∧ Hid (Chg [] w2 wx)) (fun jv _ => n - (intOf jv).toNat)
          case atStart => exact ⟨0, by omega, rfl, HC⟩
          case round =>
            clear HC
            obtain ⟨j, hj, rfl, HC⟩ := hrel
            by_cases hjn : j < n
            · have hji : (j : Int) < (n : Int) := by omega
              obtain ⟨y, hy, hym⟩ := HX.out j hjn
              obtain ⟨b', o', c', hv, _, d0, d1⟩ := HS.out wr (HC2.out.trans HC.out) j y hy
              simp only [Value.slice.injEq, true_and, Option.some.injEq, Addr.mk.injEq, and_true] at hv
              obtain ⟨⟨rfl, rfl⟩, rfl⟩ := hv
              obtain ⟨e0, e1⟩ := HSX.out wr HC.out
              have hyw : (0 : Int) ≤ y.w ∧ y.w ≤ 4 := (HOK.out.ok y hym).2.2
              have HLE := Lib.hid (HSH2.out y hym)
              have hcy := HCB.out y.node
              have HCY := Lib.hid (fun W hW => HCT.out W hW y.node)
              generalize tl.count y.node = cy at *
              have p1 := prod_le (a := (a : Int)) (b := y.w) (M := 251) (N := 4) (by omega) hyw
              have p2 := prod_le (a := (cy : Int)) (b := x.w) (M := 251) (N := 4) (by omega) hmulx
              have p3 := prod_le (a := x.w) (b := y.w) (M := 4) (N := 4) hmulx hyw
              have q1 : IntKind.i64.wrap ((a : Int) * y.w) = (a : Int) * y.w := by rw [IntKind.wrap_i64]; omega
              have q2 : IntKind.i64.wrap ((cy : Int) * x.w) = (cy : Int) * x.w := by rw [IntKind.wrap_i64]; omega
              have q3 : IntKind.i64.wrap (x.w * y.w) = x.w * y.w := by rw [IntKind.wrap_i64]; omega
              have q4 : IntKind.i64.wrap ((a : Int) * y.w - (cy : Int) * x.w) = (a : Int) * y.w - (cy : Int) * x.w := by rw [IntKind.wrap_i64]; omega
              have q5 : ¬ x.w * y.w < (a : Int) * y.w - (cy : Int) * x.w := by have := HLE.out; omega
              clear hy hym HX HS
              go_upto_region 15 with fail
              go_quiet ((go_at_call 16; exact Calls.quiet_of_same ((HCY.out (wr.drewN _) (HC.out.drewN _)).mono fun _ _ ⟨a, b⟩ => ⟨a, b.symm⟩)))
              have d1' : (wr.drewN nq).cell? ⟨b, o + j * 2 + 1, none⟩ = some (.int .i64 y.w) := d1
              have e1' : (wr.drewN nq).cell? ⟨b, o + i * 2 + 1, none⟩ = some (.int .i64 x.w) := e1
              have HCq := Lib.hid (HC.out.drewN nq)
              generalize wr.drewN nq = w5 at *
              clear HC d0 d1 e0 e1 HLE HCY hcy p1 p2 p3 hxw q1 q2 q4
              generalize (a : Int) * y.w - (cy : Int) * x.w = dd at *
              have hi16 : (i : Int) < (n : Int) := hii
              by_cases hxz : x.w = 0
              · have ha0 : a = 0 := HSH1.out hxz
                rw [hxz] at e1'
                have q5' : ¬ (0 : Int) < dd := by rw [hxz, Int.zero_mul] at q5; exact q5
                clear q5 q3
                have ha0' : ¬ (0 : Int) < (a : Int) := by omega
                clear hxz ha0 HSH1 HSH2 HSX HCT
                go_upto_region 16 with fail
                go_quiet (fail)
                go_wp2_with fail
                go_roundw
                case rel => exact ⟨j + 1, by omega, by go_num, Lib.hid (HCq.out.drewN _)⟩
                case measure => simp [intOf] <;> omega
              · have hxb : (x.w == 0) = false := by simp [hxz]
                generalize x.w = xw at *
                clear HSH1 HSH2 HSX HCT
                go_upto_region 16 with fail
                go_quiet (fail)
                go_wp2_with fail
                go_roundw
                case rel => exact ⟨j + 1, by omega, by go_num, Lib.hid (HCq.out.drewN _)⟩
                case measure => simp [intOf] <;> omega
            · obtain rfl : j = n := by omega
              have hji : ¬ (j : Int) < (j : Int) := by omega
              clear HX HS HSX
              go_wp2_with fail
              go_roundw
              case rel => exact ⟨i + 1, by omega, by go_num, by rw [HSi.out]; push_cast; rfl, HC⟩
              case measure => simp [intOf] <;> omega
        · obtain rfl : i = n := by omega
          have hii : ¬ (i : Int) < (i : Int) := by omega
          rw [HSZ.out.2]
          clear HX HS
          go_wp2_with fail
          refine (lives17_any _).mono ?_
          rintro e w4 ⟨rfl, hc4⟩
          go_wp2_with fail
          go_ret
          exact ⟨rfl, (HC2.out.trans HC.out).trans hc4⟩
  · have hcb : (c2 == 0) = false := by simp [hc0]
    obtain ⟨A2, c2', rfl⟩ := Sl.form hst
    generalize tl.length = n2 at *
    clear hb2 hst htb hc2 F1 R1 HTT HS HX HLT
    go_wp2_with fail
    refine (lives17_any _).mono ?_
    rintro e w4 ⟨rfl, hc4⟩
    go_wp2_with fail
    go_ret
    exact ⟨rfl, HC2.out.trans hc4⟩
end Go.Proofs.Ytecblclpchndiaa
