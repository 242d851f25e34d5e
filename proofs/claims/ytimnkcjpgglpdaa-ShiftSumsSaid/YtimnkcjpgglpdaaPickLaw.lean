/-
  WALKS: the statements of chapter 18, and its example. Condition: the table reads as integers.
-/
import Derived.Test.YtimnkcjpgglpdaaPickHas
set_option linter.unusedVariables false
set_option linter.unusedSimpArgs false
namespace Go.Proofs.Ytimnkcjpgglpdaa
open Go.RowKit

theorem nat_of_u64 {a : Int} (h : (Lit.int .u64 a).wf = true) : ∃ u : Nat, a = (u : Int) ∧ u < 18446744073709551616 := by
  have h' : 0 ≤ a ∧ a < 18446744073709551616 := by simp [Lit.wf, IntKind.min, IntKind.max, IntKind.signed, IntKind.bits] at h; omega
  exact ⟨a.toNat, by omega, by omega⟩
theorem nodes503 : IsNodes t503 [3, 5] := by
  refine ⟨by decide, fun x => ?_⟩
  simp [t503]
  omega
theorem two335 : twoA t335 1 = 3 ∧ twoB t335 1 = 5 := by decide +kernel

set_option maxHeartbeats 1000000 in
theorem lives18 (w : World) : Calls Try.prog 14 #[] w fun e w' => e = .returned (.bool true) ∧ Chg [] w w' := by
  have K1 := Lib.hid (show ∀ w : World, Calls Try.prog 15 #[.slice (some ⟨w.heap.size, 0, none⟩) 3 3, .int .u64 1] (w.alloc (.cells #[.int .i64 3, .int .i64 3, .int .i64 5] 3)) _ from fun w => two_any 1 (lit_Z (w := w) t335 (by decide)) (by decide) (by decide))
  have K2 := Lib.hid (show ∀ w : World, Calls Try.prog 17 #[.slice (some ⟨w.heap.size, 0, none⟩) 3 3] (w.alloc (.cells #[.int .i64 5, .int .i64 0, .int .i64 3] 3)) _ from fun w => nodes_any (lit_Z (w := w) t503 (by decide)) (by decide) (by decide))
  have K3 := Lib.hid (show ∀ w : World, Calls Try.prog 19 #[.slice (some ⟨w.heap.size, 0, none⟩) 3 3, .int .i64 3] (w.alloc (.cells #[.int .i64 5, .int .i64 0, .int .i64 3] 3)) _ from fun w => has_any 3 (lit_Z (w := w) t503 (by decide)) (by decide) (by decide))
  have K4 := Lib.hid (show ∀ w : World, Calls Try.prog 19 #[.slice (some ⟨w.heap.size, 0, none⟩) 1 1, .int .i64 0] (w.alloc (.cells #[.int .i64 0] 3)) _ from fun w => has_any 0 (lit_Z (w := w) t0 (by decide)) (by decide) (by decide))
  rw [two335.1, two335.2] at K1
  rw [show decide (0 < (3 : Int) ∧ (3 : Int) ∈ t503) = true by decide] at K3
  rw [show decide (0 < (0 : Int) ∧ (0 : Int) ∈ t0) = false by decide] at K4
  go_enter Try.func14, Try.ntmps14
  go_wp2_with fail
  with_reducible refine (K1.out w).mono ?_
  rintro e w1 ⟨rfl, hc1⟩
  have hd1 := ((Chg.refl [] w).alloc _).trans hc1
  clear K1 hc1
  go_wp2_with fail
  with_reducible refine (K2.out w1).mono ?_
  rintro e w2 ⟨v', ns, rfl, hN, hs, hB2⟩
  obtain rfl := hN.one nodes503
  obtain ⟨A, c, rfl⟩ := Sl.form hs
  have hd2 := (hd1.alloc _).trans (Chg.of_below hB2 (S := []))
  clear hN hs hB2 K2 hd1
  go_wp2_with fail
  with_reducible refine (K3.out w2).mono ?_
  rintro e w3 ⟨rfl, hc3⟩
  have hd3 := (hd2.alloc _).trans hc3
  clear K3 hc3 hd2
  go_wp2_with fail
  with_reducible refine (K4.out w3).mono ?_
  rintro e w4 ⟨rfl, hc4⟩
  have hd4 := (hd3.alloc _).trans hc4
  clear K4 hc4 hd3
  go_wp2_with fail
  go_ret
  exact ⟨rfl, hd4⟩

set_option maxRecDepth 100000 in
set_option maxHeartbeats 400000 in
theorem pickTwo_any {w : World} {B : Nat} {v : Value} {l : List Int} (u : Nat) (h : SlZ w B v l) (hm : l.length ≤ maxLen) (hu : u < 18446744073709551616) :
    Calls Try.prog 3 #[v, .int .u64 u] w fun e w' => e = .returned (.bool true) ∧ Chg [] w w' := by
  have hm' : (l.length : Int) < 9223372036854775808 := by unfold maxLen at hm; omega
  obtain ⟨A, c, rfl⟩ := Sl.form h
  have K0 := Lib.hid lives18
  by_cases hl : l.length ≤ 300
  · have F1 := Lib.hid (two_any u h hl hu)
    have F2 := Lib.hid (fun w1 (hc : Chg [] w w1) => two18_any (w := w1) u (h.chg0 hc) hl hu)
    clear h hu
    generalize l.length = len at *
    generalize twoA l u = a at *
    generalize twoB l u = b at *
    have hlt : ¬ (300 < len) := by omega
    clear hm hm'
    go_enter Try.func3, Try.ntmps3
    go_wp2_with fail
    refine F1.out.mono ?_
    rintro e w1 ⟨rfl, hc1⟩
    have F3 := Lib.hid (F2.out w1 hc1)
    clear F1 F2
    go_wp2_with fail
    refine F3.out.mono ?_
    rintro e w2 ⟨rfl, rfl⟩
    go_wp2_with fail
    refine (K0.out _).mono ?_
    rintro e w3 ⟨rfl, hc3⟩
    go_wp2_with fail
    go_ret
    exact ⟨rfl, hc1.trans hc3⟩
  · clear h
    generalize l.length = len at *
    have hlt : 300 < len := by omega
    clear hm hm' hl
    go_enter Try.func3, Try.ntmps3
    go_wp2_with fail
    refine (K0.out _).mono ?_
    rintro e w3 ⟨rfl, hc3⟩
    go_wp2_with fail
    go_ret
    exact ⟨rfl, hc3⟩

theorem mem_snoc_dec (x y : Int) (l : List Int) : (decide (x ∈ l) || (y == x)) = decide (x ∈ l ++ [y]) := by
  by_cases h1 : x ∈ l
  · simp [h1]
  · by_cases h2 : y = x
    · subst h2; simp
    · have : ¬ x = y := fun e => h2 e.symm
      simp [h1, h2, this]

set_option maxRecDepth 100000 in
set_option maxHeartbeats 1000000 in
theorem pickNodes_any {w : World} {B : Nat} {v : Value} {l : List Int} (x : Int) (h : SlZ w B v l) (hm : l.length ≤ maxLen) (hwz : ∀ x ∈ l, (Lit.int .i64 x).wf = true) :
    Calls Try.prog 4 #[v, .int .i64 x] w fun e w' => e = .returned (.bool true) ∧ Chg [] w w' := by
  have hm' : (l.length : Int) < 9223372036854775808 := by unfold maxLen at hm; omega
  obtain ⟨A, c, rfl⟩ := Sl.form h
  have K0 := Lib.hid lives18
  by_cases hl : l.length ≤ 300
  · have F1 := Lib.hid (fun w1 (hc : Chg [] w w1) => nodes_any (w := w1) (h.chg0 hc) (by omega) hwz)
    have F2 := Lib.hid (fun w1 (hc : Chg [] w w1) => nodes18_any (w := w1) (h.chg0 hc) (by omega))
    have F3 := Lib.hid (fun w1 (hc : Chg [] w w1) => has_any (w := w1) x (h.chg0 hc) (by omega) hwz)
    have hll : Hid (∀ ns, IsNodes l ns → ns.length ≤ l.length) := Lib.hid fun ns hN => hN.length_le
    have hin : Hid (∀ ns, IsNodes l ns → decide (x ∈ ns) = decide (0 < x ∧ x ∈ l)) := Lib.hid fun ns hN => by simp [hN.2 x]
    clear h hwz
    generalize l.length = len at *
    have hlt : ¬ (300 < len) := by omega
    clear hm hm'
    go_enter Try.func4, Try.ntmps4
    go_wp2_with fail
    refine (F1.out w (Chg.refl _ _)).mono ?_
    rintro e w1 ⟨v1, ns, rfl, hN, hs1, hB1⟩
    have hc1 : Chg [] w w1 := Chg.of_below hB1
    clear hB1 F1
    go_wp2_with fail
    refine (F2.out w1 hc1).mono ?_
    rintro e w2 ⟨v2, ns', rfl, hN', hs2, hB2⟩
    obtain rfl := hN.one hN'
    have hc2 : Chg [] w1 w2 := Chg.of_below hB2
    have hs1' := hs1.chg0 hc2
    have hcw := hc1.trans hc2
    have hln := hll.out ns hN
    have HIN := Lib.hid (hin.out ns hN)
    clear hB2 F2 hs1 hc2 hc1 hN hN' hll hin
    obtain ⟨A1, c1, hv1⟩ := Sl.form hs1'
    obtain ⟨A2, c2, hv2⟩ := Sl.form hs2
    have HV1 := Lib.hid hv1
    have HV2 := Lib.hid hv2
    have HS1 := Lib.hid hs1'
    have HS2 := Lib.hid hs2
    rw [hv1, hv2]
    clear hv1 hv2 hs1' hs2
    generalize hn : ns.length = n at *
    go_wp2_with fail
    go_loopw [7, 8] (fun hv iv wr => ∃ k : Nat, k ≤ n ∧ iv = .int .i64 k ∧ hv = .bool (decide (x ∈ ns.take k)) ∧ ∃ d, wr = w2.drewN d) (fun _ iv _ => n - (intOf iv).toNat)
    case atStart => exact ⟨0, by omega, rfl, by simp, 0, rfl⟩
    case round =>
      obtain ⟨k, hk, rfl, rfl, d, rfl⟩ := hrel
      by_cases hlt : k < n
      · obtain ⟨b, o, c', hv, _, _, _, hx⟩ := HS1.out.all (by omega)
        obtain ⟨b', o', c'', hv', _, _, _, hx'⟩ := HS2.out.all (by omega)
        have hv := HV1.out.symm.trans hv
        have hv' := HV2.out.symm.trans hv'
        rw [hn] at hv hv'
        simp only [Value.slice.injEq, true_and] at hv hv'
        obtain ⟨rfl, rfl⟩ := hv
        obtain ⟨rfl, rfl⟩ := hv'
        have hcA := ((Chg.refl [] w2).drewN d).cell (p := ⟨b, o + k, none⟩) (hx k (by omega)) (by simp)
        have hcC := ((Chg.refl [] w2).drewN d).cell (p := ⟨b', o' + k, none⟩) (hx' k (by omega)) (by simp)
        have ht : ns.take (k + 1) = ns.take k ++ [ns[k]?.getD 0] := by rw [List.take_add_one, List.getElem?_eq_getElem (by omega)]; rfl
        generalize ns[k]?.getD 0 = y at *
        have HT := Lib.hid ht
        have HM := Lib.hid (mem_snoc_dec x y (ns.take k))
        clear ht hx hx'
        have hkn : (k : Int) < (n : Int) := by omega
        have hdd : Hid (∀ q, (w2.drewN d).drewN q = w2.drewN (d + q)) := Lib.hid fun q => World.drewN_drewN _ _ _
        have hcq : Hid (∀ q, ((w2.drewN d).drewN q).cell? ⟨b', o' + k, none⟩ = some (.int .i64 y)) := Lib.hid fun q => ((Chg.refl [] (w2.drewN d)).drewN q).cell hcC (by simp)
        generalize hwd : w2.drewN d = wd at *
        generalize hqe : decide (x ∈ ns.take k) = q at *
        have HQE := Lib.hid hqe
        clear hqe hwd
        have hyy : (y != y) = false := by simp
        cases q with
        | true =>
          have HN : Hid (decide (x ∈ ns.take (k + 1)) = true) := Lib.hid (by rw [HT.out, ← HM.out]; rfl)
          go_wp2_with fail
          go_quiet (fail)
          go_wp2_with fail
          go_roundw
          case rel => exact ⟨k + 1, by omega, by go_num, by rw [HN.out], _, hdd.out _⟩
          case measure => simp [intOf]; omega
        | false =>
          by_cases hyx : y = x
          · have hyb : (y == x) = true := by simp [hyx]
            have HN : Hid (decide (x ∈ ns.take (k + 1)) = true) := Lib.hid (by rw [HT.out, ← HM.out, hyb]; rfl)
            go_wp2_with fail
            go_quiet (fail)
            have hcD := hcq.out nq
            go_wp2_with fail
            go_roundw
            case rel => exact ⟨k + 1, by omega, by go_num, by rw [HN.out], _, hdd.out _⟩
            case measure => simp [intOf]; omega
          · have hyb : (y == x) = false := by simp [hyx]
            have HN : Hid (decide (x ∈ ns.take (k + 1)) = false) := Lib.hid (by rw [HT.out, ← HM.out, hyb]; rfl)
            go_wp2_with fail
            go_quiet (fail)
            have hcD := hcq.out nq
            go_wp2_with fail
            go_roundw
            case rel => exact ⟨k + 1, by omega, by go_num, by rw [HN.out], _, hdd.out _⟩
            case measure => simp [intOf]; omega
      · obtain rfl : k = n := by omega
        have HQ : Hid (decide (x ∈ ns.take k) = decide (0 < x ∧ x ∈ l)) := Lib.hid (by rw [← hn, List.take_length]; exact HIN.out)
        have hcd := hcw.drewN d
        have F4 := Lib.hid (F3.out _ (hcw.drewN d))
        generalize hqe : decide (x ∈ ns.take k) = q at *
        rw [← HQ.out] at F4
        clear hqe HQ HIN F3
        generalize w2.drewN d = wd at *
        go_wp2_with fail
        refine F4.out.mono ?_
        rintro e w4 ⟨rfl, hc4⟩
        have hcd4 := hcd.trans hc4
        clear hc4 F4
        go_wp2_with fail
        refine (K0.out _).mono ?_
        rintro e w5 ⟨rfl, hc5⟩
        go_wp2_with fail
        go_ret
        exact ⟨rfl, hcd4.trans hc5⟩
  · clear h hwz
    generalize l.length = len at *
    have hlt : 300 < len := by omega
    clear hm hm' hl
    go_enter Try.func4, Try.ntmps4
    go_wp2_with fail
    refine (K0.out _).mono ?_
    rintro e w3 ⟨rfl, hc3⟩
    go_wp2_with fail
    go_ret
    exact ⟨rfl, hc3⟩

/-- Chapter 18's APART, of plain lists. -/
theorem apart {l ns : List Int} (u : Nat) (hN : IsNodes l ns) :
    (ns.length = 0 → twoA l u = 0 ∧ twoB l u = 0) ∧ (ns.length = 1 → (0 < twoA l u ∧ twoA l u ∈ l) ∧ twoB l u = 0) ∧
      (¬ ns.length = 0 → ¬ ns.length = 1 → (0 < twoA l u ∧ twoA l u ∈ l) ∧ (0 < twoB l u ∧ twoB l u ∈ l) ∧ ¬ twoA l u = twoB l u) := by
  obtain ⟨hp, hm⟩ := hN
  rcases Nat.eq_zero_or_pos l.length with h0 | h0
  · obtain rfl : l = [] := List.eq_nil_of_length_eq_zero h0
    have : ns = [] := List.eq_nil_iff_forall_not_mem.2 fun x hx => by have := ((hm x).1 hx).2; simp at this
    subst this
    exact ⟨fun _ => ⟨rfl, rfl⟩, fun h => by simp at h, fun h => absurd rfl h⟩
  have A := firstF_cases l (at_ := u % l.length) 0 (Nat.mod_lt _ h0)
  have B := firstF_cases l (at_ := u / 4294967296 % l.length) (twoA l u) (Nat.mod_lt _ h0)
  have hA : firstF l (u % l.length) 0 = twoA l u := rfl
  have hB : twoB l u = if twoA l u = 0 then 0 else firstF l (u / 4294967296 % l.length) (twoA l u) := rfl
  rw [hA] at A
  generalize twoA l u = a at *
  generalize firstF l (u / 4294967296 % l.length) a = f at *
  generalize twoB l u = b at *
  have mem : ∀ x, 0 < x → x ∈ l → x ∈ ns := fun x h1 h2 => (hm x).2 ⟨h1, h2⟩
  refine ⟨fun hn => ?_, fun hn => ?_, fun hn1 hn2 => ?_⟩
  · obtain rfl : ns = [] := List.eq_nil_of_length_eq_zero hn
    rcases A with ⟨h1, h2, _⟩ | ⟨h1, _⟩
    · have := mem a h2 h1; simp at this
    · subst h1; exact ⟨rfl, by simp [hB]⟩
  · obtain ⟨p, rfl⟩ : ∃ p, ns = [p] := List.length_eq_one_iff.1 hn
    have hp' := (hm p).1 (by simp)
    rcases A with ⟨h1, h2, _⟩ | ⟨_, h1⟩
    · refine ⟨⟨h2, h1⟩, ?_⟩
      have ha : a = p := by simpa using mem a h2 h1
      rw [hB, if_neg (by omega)]
      rcases B with ⟨h3, h4, h5⟩ | ⟨h3, _⟩
      · have : f = p := by simpa using mem f h4 h3
        omega
      · exact h3
    · exact absurd ⟨hp'.1, by omega⟩ (h1 p hp'.2)
  · match ns, hn1, hn2 with
    | p :: q :: r, _, _ =>
      have hpq : p < q := by simp at hp; exact hp.1.1
      have hp' := (hm p).1 (by simp)
      have hq' := (hm q).1 (by simp)
      rcases A with ⟨h1, h2, _⟩ | ⟨_, h1⟩
      · refine ⟨⟨h2, h1⟩, ?_⟩
        rw [hB, if_neg (by omega)]
        rcases B with ⟨h3, h4, h5⟩ | ⟨_, h3⟩
        · exact ⟨⟨h4, h3⟩, fun e => h5 e.symm⟩
        · by_cases hap : p = a
          · exact absurd ⟨hq'.1, by omega⟩ (h3 q hq'.2)
          · exact absurd ⟨hp'.1, hap⟩ (h3 p hp'.2)
      · exact absurd ⟨hp'.1, by omega⟩ (h1 p hp'.2)
    | [p], _, h => exact absurd rfl h
    | [], h, _ => exact absurd rfl h

set_option maxRecDepth 100000 in
set_option maxHeartbeats 1000000 in
theorem pickApart_any {w : World} {B : Nat} {v : Value} {l : List Int} (u : Nat) (h : SlZ w B v l) (hm : l.length ≤ maxLen) (hwz : ∀ x ∈ l, (Lit.int .i64 x).wf = true) (hu : u < 18446744073709551616) :
    Calls Try.prog 5 #[v, .int .u64 u] w fun e w' => e = .returned (.bool true) ∧ Chg [] w w' := by
  have hm' : (l.length : Int) < 9223372036854775808 := by unfold maxLen at hm; omega
  obtain ⟨A, c, rfl⟩ := Sl.form h
  have K0 := Lib.hid lives18
  by_cases hl : l.length ≤ 300
  · have F0 := Lib.hid (two_any u h hl hu)
    have F1 := Lib.hid (fun w1 (hc : Chg [] w w1) => nodes_any (w := w1) (h.chg0 hc) (by omega) hwz)
    have F3 : Hid (∀ x w1 (hc : Chg [] w w1), _) := Lib.hid (fun x w1 (hc : Chg [] w w1) => has_any (w := w1) x (h.chg0 hc) (by omega) hwz)
    have hll : Hid (∀ ns, IsNodes l ns → ns.length ≤ l.length) := Lib.hid fun ns hN => hN.length_le
    have hin := Lib.hid (fun ns (hN : IsNodes l ns) => apart u hN)
    clear h hwz hu
    generalize l.length = len at *
    generalize twoA l u = a at *
    generalize twoB l u = b at *
    have hlt : ¬ (300 < len) := by omega
    clear hm hm'
    go_enter Try.func5, Try.ntmps5
    go_wp2_with fail
    refine F0.out.mono ?_
    rintro e w0 ⟨rfl, hc0⟩
    clear F0
    go_wp2_with fail
    refine (F1.out w0 hc0).mono ?_
    rintro e w1 ⟨v1, ns, rfl, hN, hs1, hB1⟩
    have hc1 : Chg [] w w1 := hc0.trans (Chg.of_below hB1)
    have hln := hll.out ns hN
    have HA := Lib.hid (hin.out ns hN)
    obtain ⟨A1, c1, rfl⟩ := Sl.form hs1
    clear hB1 F1 hll hin hN hs1 hc0
    generalize ns.length = n at *
    by_cases h0 : n = 0
    · obtain ⟨rfl, rfl⟩ := HA.out.1 h0
      subst h0
      clear HA F3
      go_wp2_with fail
      refine (K0.out _).mono ?_
      rintro e w5 ⟨rfl, hc5⟩
      go_wp2_with fail
      go_ret
      exact ⟨rfl, hc1.trans hc5⟩
    · have hn0 : ((n : Int) == 0) = false := by simp; omega
      by_cases h1 : n = 1
      · obtain ⟨hh, rfl⟩ := HA.out.2.1 h1
        have F4 := Lib.hid (F3.out a w1 hc1)
        rw [show decide (0 < a ∧ a ∈ l) = true by simpa using hh] at F4
        subst h1
        clear HA F3 hh
        go_wp2_with fail
        refine F4.out.mono ?_
        rintro e w2 ⟨rfl, hc2⟩
        have hd2 := hc1.trans hc2
        clear hc2 F4
        go_wp2_with fail
        refine (K0.out _).mono ?_
        rintro e w5 ⟨rfl, hc5⟩
        go_wp2_with fail
        go_ret
        exact ⟨rfl, hd2.trans hc5⟩
      · have hn1 : ((n : Int) == 1) = false := by simp; omega
        obtain ⟨hh, hh2, hne⟩ := HA.out.2.2 h0 h1
        have F4 := Lib.hid (F3.out a w1 hc1)
        rw [show decide (0 < a ∧ a ∈ l) = true by simpa using hh] at F4
        have F5 := Lib.hid (fun w2 (hc : Chg [] w w2) => F3.out b w2 hc)
        rw [show decide (0 < b ∧ b ∈ l) = true by simpa using hh2] at F5
        have hab : (a != b) = true := by simpa using hne
        clear HA F3 hh hh2 hne
        go_wp2_with fail
        refine F4.out.mono ?_
        rintro e w2 ⟨rfl, hc2⟩
        have hd2 := hc1.trans hc2
        clear hc2 F4
        go_wp2_with fail
        refine (F5.out w2 hd2).mono ?_
        rintro e w3 ⟨rfl, hc3⟩
        have hd3 := hd2.trans hc3
        clear hc3 F5
        go_wp2_with fail
        refine (K0.out _).mono ?_
        rintro e w5 ⟨rfl, hc5⟩
        go_wp2_with fail
        go_ret
        exact ⟨rfl, hd3.trans hc5⟩
  · clear h hwz hu
    generalize l.length = len at *
    have hlt : 300 < len := by omega
    clear hm hm' hl
    go_enter Try.func5, Try.ntmps5
    go_wp2_with fail
    refine (K0.out _).mono ?_
    rintro e w3 ⟨rfl, hc3⟩
    go_wp2_with fail
    go_ret
    exact ⟨rfl, hc3⟩
end Go.Proofs.Ytimnkcjpgglpdaa
