/-
  WALK: ShiftSums. Condition: the tables read as integers.
-/
import Derived.Test.YtimnkcjpgglpdaaShiftLaw
import Derived.Test.YtimnkcjpgglpdaaShiftSumP
set_option linter.unusedVariables false
set_option linter.unusedSimpArgs false
namespace Go.Proofs.Ytimnkcjpgglpdaa
open Go.RowKit

theorem lit_U1 (w : World) (u : Nat) : SlU (w.alloc (.cells #[.int .u64 (u : Int)] 23)) w.heap.size (.slice (some ⟨w.heap.size, 0, none⟩) 1 1) [u] := lit_U w [u] (by simp)
theorem turn_same (l : List Int) (u : Nat) : turnK l l [u] [u].length = 0 := by
  simp [turnK, cnt, tdiff]

set_option maxRecDepth 100000 in
set_option maxHeartbeats 2000000 in
theorem shiftSums_any {w : World} {B B' : Nat} {v v' : Value} {l l' : List Int} (u : Nat) (h : SlZ w B v l) (h' : SlZ w B' v' l') (hwz : ∀ x ∈ l, (Lit.int .i64 x).wf = true) (hwz' : ∀ x ∈ l', (Lit.int .i64 x).wf = true) (hu : u < 18446744073709551616) :
    Calls Try.prog 8 #[v, v', .int .u64 u] w fun e w' => e = .returned (.bool true) ∧ Chg [] w w' := by
  have K0 := Lib.hid lives19
  obtain ⟨A1, c1, rfl⟩ := Sl.form h
  obtain ⟨A2, c2, rfl⟩ := Sl.form h'
  by_cases hb : l.length ≤ 200 ∧ l.length = l'.length
  · obtain ⟨hl, he⟩ := hb
    have F1 := Lib.hid (fun w1 (hc : Chg [] w w1) => rows_any (w := w1) (h.chg0 hc) (h'.chg0 hc) hl (by omega) hwz hwz')
    have F2 := Lib.hid (fun w1 (hc : Chg [] w w1) => moved_any (w := w1) (h.chg0 hc) (h'.chg0 hc) hl (by omega))
    have F3 := Lib.hid (fun w1 (hc : Chg [] w w1) => turned_any (w := w1.alloc (.cells #[.int .u64 (u : Int)] 23)) (h.chg0 (hc.alloc _)) (h.chg0 (hc.alloc _)) (lit_U1 w1 u) hl hl (by simp) (by simpa using hu))
    rw [turn_same] at F3
    have H1 := Lib.hid (fun w1 (hc : Chg [] w w1) => h.chg0 hc)
    have H2 := Lib.hid (fun w1 (hc : Chg [] w w1) => h'.chg0 hc)
    have hmx : max l.length l'.length = l.length := by omega
    rw [hmx] at F1
    have HLen := Lib.hid (fun L (hL : IsRows (Mk l l' l.length) L) => rows_len hL (by omega) (by omega))
    have HMv : Hid (((cnt (fun i => aAt l i == aAt l' i) l.length : Nat) : Int) + ((movedF l l' : Nat) : Int) = (l.length : Int)) := Lib.hid (by
      unfold movedF
      rw [show min l.length l'.length = l.length by omega, hmx]
      have := cnt_split (fun i => aAt l i == aAt l' i) l.length
      have e : cnt (diff l l') l.length = cnt (fun i => !(aAt l i == aAt l' i)) l.length := rfl
      rw [e]; omega)
    have HSum := Lib.hid (fun L (hL : IsRows (Mk l l' l.length) L) hp => sums hL hp)
    rw [← he] at H2 F1 F2
    clear h h' hwz hwz' hmx hu
    rw [← he]
    have HB := Lib.hid (fun L (hL : IsRows (Mk l l' l.length) L) (r : R4) (hr : r ∈ L) => row_le hL hr)
    generalize hn : l.length = n at *
    have hn' : l'.length = n := he.symm
    clear he
    have hn1 : ¬ (200 < n) := by omega
    have hnn : ((n : Int) != (n : Int)) = false := by simp
    go_enter Try.func8, Try.ntmps8
    go_wp2_with fail
    go_loopw [7] (fun iv wr => ∃ k : Nat, k ≤ n ∧ iv = .int .i64 k ∧ w = wr ∧ Hid (∀ i, i < k → 0 < aAt l i ∧ 0 < aAt l' i)) (fun iv _ => n - (intOf iv).toNat)
    case atStart => exact ⟨0, by omega, rfl, rfl, Lib.hid (fun i hi => by omega)⟩
    case round =>
      obtain ⟨k, hk, rfl, rfl, HP⟩ := hrel
      by_cases hlt : k < n
      · obtain ⟨b, o, rfl, hca⟩ := (H1.out w (Chg.refl _ _)).one hn (i := k) (by omega)
        obtain ⟨b', o', rfl, hcb⟩ := (H2.out w (Chg.refl _ _)).one hn' (i := k) (by omega)
        have hnx : Hid (0 < aAt l k → 0 < aAt l' k → ∀ i, i < k + 1 → 0 < aAt l i ∧ 0 < aAt l' i) := Lib.hid fun h1 h2 i hi => by
          rcases Nat.lt_or_ge i k with h | h
          · exact HP.out i h
          · rw [show i = k by omega]; exact ⟨h1, h2⟩
        generalize aAt l k = a at *
        generalize aAt l' k = a' at *
        clear H1 H2 F1 F2 F3 HLen HMv HSum HB HP
        by_cases h1 : a ≤ 0
        · clear hnx
          go_wp2_with fail
          refine (K0.out _).mono ?_
          rintro e w5 ⟨rfl, hc5⟩
          go_wp2_with fail
          go_ret
          exact ⟨rfl, hc5⟩
        · by_cases h2 : a' ≤ 0
          · clear hnx
            go_wp2_with fail
            refine (K0.out _).mono ?_
            rintro e w5 ⟨rfl, hc5⟩
            go_wp2_with fail
            go_ret
            exact ⟨rfl, hc5⟩
          · have HN := Lib.hid (hnx.out (by omega) (by omega))
            clear K0
            go_wp2_with fail
            go_roundw
            case rel => exact ⟨k + 1, by omega, by go_num, trivial, HN⟩
            case measure => simp [intOf]; omega
      · obtain rfl : k = n := by omega
        have G1 := Lib.hid (F1.out w (Chg.refl _ _))
        clear H1 H2 F1
        go_wp2_with fail
        refine G1.out.mono ?_
        rintro e w1 ⟨v1, L, rfl, hL, hS1, hB1⟩
        have hd1 : Chg [] w w1 := Chg.of_below hB1
        have hlen := HLen.out L hL
        obtain ⟨e1, e2, e3⟩ := HSum.out L hL HP.out
        rw [← e3] at HMv
        have HE := Lib.hid (And.intro e1 e2)
        have hBL := Lib.hid (HB.out L hL)
        have hRs := Lib.hid hL.1
        clear G1 HLen HSum HB HP hL hB1 e1 e2 e3
        obtain ⟨A3, c3, rfl⟩ := Sl.form hS1
        have HX := Lib.hid (fun i x (hx : L[i]? = some x) => Sl.rec encR_len (by omega) hS1 hx)
        clear hS1
        generalize hq : L.length = q at *
        go_wp2_with fail
        go_loopw [9, 10, 11, 12] (fun kv hv sv iv wr => ∃ j : Nat, j ≤ q ∧ iv = .int .i64 j ∧ kv = .int .i64 (sumB R4.kept (L.take j)) ∧ hv = .int .i64 (sumB R4.had (L.take j)) ∧ sv = .int .i64 (sumB R4.has (L.take j)) ∧ ∃ d, wr = w1.drewN d) (fun _ _ _ iv _ => q - (intOf iv).toNat)
        case atStart => exact ⟨0, by omega, rfl, by simp [sumB], by simp [sumB], by simp [sumB], 0, rfl⟩
        case round =>
          obtain ⟨j, hj, rfl, rfl, rfl, rfl, d, rfl⟩ := hrel
          by_cases hjq : j < q
          · have hx : L[j]? = some (L[j]'(by omega)) := List.getElem?_eq_getElem _
            generalize L[j]'(by omega) = x at hx
            have ht : L.take (j + 1) = L.take j ++ [x] := by rw [List.take_add_one, hx]; rfl
            have hxm := List.mem_of_getElem? hx
            have hbx := hBL.out x hxm
            have hsub : ∀ (g : R4 → Int), (∀ r ∈ L, 0 ≤ g r ∧ g r ≤ 200) → 0 ≤ sumB g (L.take j) ∧ sumB g (L.take j) ≤ 80000 := fun g hg => by
              have h1 := sumB_bound g 200 (L.take j) (fun r hr => hg r (List.mem_of_mem_take hr))
              have h2 : (L.take j).length ≤ 400 := by rw [List.length_take]; omega
              refine ⟨h1.1, Int.le_trans h1.2 ?_⟩
              have : ((L.take j).length : Int) ≤ 400 := by omega
              omega
            have s1 := hsub R4.kept (fun r hr => by have := hBL.out r hr; omega)
            have s2 := hsub R4.had (fun r hr => by have := hBL.out r hr; omega)
            have s3 := hsub R4.has (fun r hr => by have := hBL.out r hr; omega)
            have t1 : sumB R4.kept (L.take (j + 1)) = sumB R4.kept (L.take j) + x.kept := by rw [ht, sumB_snoc]
            have t2 : sumB R4.had (L.take (j + 1)) = sumB R4.had (L.take j) + x.had := by rw [ht, sumB_snoc]
            have t3 : sumB R4.has (L.take (j + 1)) = sumB R4.has (L.take j) + x.has := by rw [ht, sumB_snoc]
            have T := Lib.hid (And.intro t1 (And.intro t2 t3))
            clear t1 t2 t3 hsub ht
            generalize sumB R4.kept (L.take j) = sk at *
            generalize sumB R4.had (L.take j) = sh at *
            generalize sumB R4.has (L.take j) = ss at *
            obtain ⟨b, o, c', hv, _, _, hg⟩ := HX.out j x hx
            simp only [Value.slice.injEq, true_and] at hv
            obtain ⟨rfl, rfl⟩ := hv
            have hprev : Hid (0 < j → ∃ p : Nat, (j : Int) - 1 = (p : Int) ∧ p < q ∧ ∃ yn : Int, yn < x.node ∧ w1.cell? ⟨b, o + p * 4, none⟩ = some (.int .i64 yn)) := Lib.hid fun h0 => by
              have hy : L[j - 1]? = some (L[j - 1]'(by omega)) := List.getElem?_eq_getElem _
              generalize L[j - 1]'(by omega) = y at hy
              obtain ⟨b2, o2, c2', hv2, _, _, hg2⟩ := HX.out (j - 1) y hy
              simp only [Value.slice.injEq, true_and] at hv2
              obtain ⟨hbo, rfl⟩ := hv2
              simp only [Option.some.injEq, Addr.mk.injEq, and_true] at hbo
              obtain ⟨rfl, rfl⟩ := hbo
              exact ⟨j - 1, by omega, by omega, y.node, rows_rise hRs.out hy (by rw [show j - 1 + 1 = j by omega]; exact hx), hg2 0 (by omega)⟩
            obtain ⟨xn, xh, xs, xk⟩ := x
            simp only at hbx hprev T
            have hcell : Hid (∀ wz, Chg [] w1 wz → wz.cell? ⟨b, o + j * 4, none⟩ = some (.int .i64 xn) ∧ wz.cell? ⟨b, o + j * 4 + 1, none⟩ = some (.int .i64 xh) ∧ wz.cell? ⟨b, o + j * 4 + 2, none⟩ = some (.int .i64 xs) ∧ wz.cell? ⟨b, o + j * 4 + 3, none⟩ = some (.int .i64 xk)) :=
              Lib.hid fun wz hc => ⟨hc.cell (hg 0 (by omega)) (by simp), hc.cell (hg 1 (by omega)) (by simp), hc.cell (hg 2 (by omega)) (by simp), hc.cell (hg 3 (by omega)) (by simp)⟩
            have hcd := (Chg.refl [] w1).drewN d
            obtain ⟨a0, a1, a2, a3⟩ := hcell.out _ hcd
            have hdd : Hid (∀ q, (w1.drewN d).drewN q = w1.drewN (d + q)) := Lib.hid fun q => World.drewN_drewN _ _ _
            have hcq : Hid (∀ q, ((w1.drewN d).drewN q).cell? ⟨b, o + j * 4 + 1, none⟩ = some (.int .i64 xh) ∧ ((w1.drewN d).drewN q).cell? ⟨b, o + j * 4 + 2, none⟩ = some (.int .i64 xs) ∧ ((w1.drewN d).drewN q).cell? ⟨b, o + j * 4 + 3, none⟩ = some (.int .i64 xk)) := Lib.hid fun q => (hcell.out _ (hcd.drewN q)).2
            obtain ⟨x1, x2, x3, x4, x5, x6⟩ := hbx
            have d1 : decide (xh < xk) = false := by simp; omega
            have d2 : decide (xs < xk) = false := by simp; omega
            have d3 : decide (xk < 0) = false := by simp; omega
            have hji : (j : Int) < (q : Int) := by omega
            have w1k : IntKind.i64.wrap (sk + xk) = sk + xk := by rw [IntKind.wrap_i64]; omega
            have w1h : IntKind.i64.wrap (sh + xh) = sh + xh := by rw [IntKind.wrap_i64]; omega
            have w1s : IntKind.i64.wrap (ss + xs) = ss + xs := by rw [IntKind.wrap_i64]; omega
            clear HX hg hcell F2 F3 HMv HE hBL hRs hxm hx K0
            by_cases hj0 : 0 < j
            · obtain ⟨p, hjp, hpq, yn, hyx, hcy⟩ := hprev.out hj0
              have hcy' := hcd.cell hcy (by simp)
              have d4 : decide ((0 : Int) < (j : Int)) = true := by simp; omega
              have d5 : decide (xn ≤ yn) = false := by simp; omega
              have hpi : (p : Int) < (q : Int) := by omega
              have wp : IntKind.i64.wrap (p : Int) = (p : Int) := by rw [IntKind.wrap_i64]; omega
              clear hprev hcd hcy
              generalize w1.drewN d = wd at *
              go_wp2_with fail
              go_quiet (fail)
              obtain ⟨b1, b2, b3⟩ := hcq.out nq
              have hdd2 := Lib.hid (fun q => (World.drewN_drewN wd nq q).trans (hdd.out (nq + q)))
              generalize wd.drewN nq = we at *
              go_wp2_with fail
              go_quiet (fail)
              go_wp2_with fail
              go_roundw
              case rel => exact ⟨j + 1, by omega, by go_num, by rw [T.out.1], by rw [T.out.2.1], by rw [T.out.2.2], _, hdd2.out _⟩
              case measure => simp [intOf]; omega
            · have d4 : decide ((0 : Int) < (j : Int)) = false := by simp; omega
              clear hprev hcd
              generalize w1.drewN d = wd at *
              go_wp2_with fail
              go_quiet (fail)
              obtain ⟨b1, b2, b3⟩ := hcq.out nq
              have hdd2 := Lib.hid (fun q => (World.drewN_drewN wd nq q).trans (hdd.out (nq + q)))
              generalize wd.drewN nq = we at *
              go_wp2_with fail
              go_quiet (fail)
              go_wp2_with fail
              go_roundw
              case rel => exact ⟨j + 1, by omega, by go_num, by rw [T.out.1], by rw [T.out.2.1], by rw [T.out.2.2], _, hdd2.out _⟩
              case measure => simp [intOf]; omega
          · obtain rfl : j = q := by omega
            have htk : L.take j = L := by rw [← hq, List.take_length]
            rw [htk]
            have hd2 := hd1.drewN d
            have G2 := Lib.hid (F2.out _ hd2)
            rw [HE.out.1, HE.out.2]
            have HMv2 := HMv.out
            generalize sumB R4.kept L = sk at *
            generalize movedF l l' = mv at *
            have hw9 : IntKind.i64.wrap (sk + (mv : Int)) = (k : Int) := by rw [HMv2, IntKind.wrap_i64]; omega
            have hw8 : sk + (mv : Int) = (k : Int) := HMv2
            have hw7 : IntKind.i64.wrap (k : Int) = (k : Int) := by rw [IntKind.wrap_i64]; omega
            clear F2 HMv HE hBL hRs HX HMv2
            generalize w1.drewN d = wd at *
            go_wp2_with fail
            refine G2.out.mono ?_
            rintro e w3 ⟨rfl, d2, rfl⟩
            have hd3 := hd2.drewN d2
            have G3 := Lib.hid (F3.out _ hd3)
            clear G2 F3 hd2
            generalize wd.drewN d2 = w3 at *
            go_wp2_with fail
            refine G3.out.mono ?_
            rintro e w4 ⟨rfl, hc4⟩
            have hd4 := (hd3.alloc _).trans hc4
            clear G3 hd3 hc4
            go_wp2_with fail
            refine (K0.out _).mono ?_
            rintro e w5 ⟨rfl, hc5⟩
            go_wp2_with fail
            go_ret
            exact ⟨rfl, hd4.trans hc5⟩
  · clear h h' hwz hwz' hu
    generalize l.length = n at *
    generalize l'.length = m at *
    rcases (show 200 < n ∨ (¬ 200 < n ∧ ¬ n = m) by omega) with h1 | ⟨h1, h2⟩
    · go_enter Try.func8, Try.ntmps8
      go_wp2_with fail
      refine (K0.out _).mono ?_
      rintro e w5 ⟨rfl, hc5⟩
      go_wp2_with fail
      go_ret
      exact ⟨rfl, hc5⟩
    · have h3 : ((n : Int) != (m : Int)) = true := by simp; omega
      clear hb
      go_enter Try.func8, Try.ntmps8
      go_wp2_with fail
      refine (K0.out _).mono ?_
      rintro e w5 ⟨rfl, hc5⟩
      go_wp2_with fail
      go_ret
      exact ⟨rfl, hc5⟩
end Go.Proofs.Ytimnkcjpgglpdaa
