/-
  WALKS: the library's heap functions at the queue's items: one sifted down. Condition: a row is at most 3000 items.
-/
import Derived.Test.YtgbdbeaflilmlaaDueH
set_option linter.unusedVariables false
set_option linter.unusedSimpArgs false
namespace Go.Proofs.Ytgbdbeaflilmlaa
open Go.RowKit

set_option maxRecDepth 100000 in
set_option maxHeartbeats 2000000 in
theorem down_any {w : World} {q g c cap n i0 : Nat} {sq : Int} {l : List It} (h : HQ w q g c cap sq l) (hd : Heap.HeapFrom ltI n (i0 + 1) l) (hn : n ≤ l.length) (hi0 : i0 ≤ n) (hl : l.length ≤ 3000) :
    Calls Try.prog 99 #[.iface 160 (.pointer (some ⟨q, 1, none⟩)), .int .i64 i0, .int .i64 n] w fun e w' => ∃ b, e = .returned (.bool b) ∧ ∃ l', HQ w' q g c cap sq l' ∧ Heap.HeapFrom ltI n i0 l' ∧ l'.Perm l ∧ Chg [g] w w' ∧ ∀ k, n ≤ k → l'[k]? = l[k]? := by
  have H0 := Lib.hid h
  have HD0 := Lib.hid (Heap.Down.start hd)
  have hn3 : n ≤ 3000 := by omega
  generalize hN : l.length = N at *
  have HN0 := Lib.hid hN
  clear h hd hN
  go_enter Try.func99, Try.ntmps99
  go_wp2_with fail
  go_loopw [7] (fun iv wr => ∃ (i : Nat) (l' : List It), iv = .int .i64 i ∧ Hid (HQ wr q g c cap sq l') ∧ Hid (Heap.Down ltI n i0 l' i) ∧ i ≤ n ∧ l'.length = N ∧ Hid (l'.Perm l) ∧ Hid (Chg [g] w wr) ∧ Hid (∀ k, n ≤ k → l'[k]? = l[k]?)) (fun iv _ => n - (intOf iv).toNat)
  case atStart => exact ⟨i0, l, rfl, H0, HD0, hi0, HN0.out, Lib.hid (List.Perm.refl _), Lib.hid (Chg.refl _ _), Lib.hid (fun _ _ => rfl)⟩
  case round =>
    clear H0 HD0 hi0 HN0
    obtain ⟨i, l', rfl, H, HD, hi, hN', HP, HC, HT⟩ := hrel
    have HN := Lib.hid hN'
    clear hN'
    obtain ⟨j1, hj1⟩ : ∃ j1, j1 = 2 * i + 1 := ⟨_, rfl⟩
    obtain ⟨j2, hj2⟩ : ∃ j2, j2 = 2 * i + 2 := ⟨_, rfl⟩
    have hq1 : 2 * (i : Int) + 1 = (j1 : Int) := by omega
    have hq2 : (j1 : Int) + 1 = (j2 : Int) := by omega
    have hb1 : (0 : Int) ≤ (j1 : Int) := by omega
    by_cases hA : n ≤ 2 * i + 1
    · have HO := Lib.hid (HD.out.leaf hA)
      have hge : (n : Int) ≤ (j1 : Int) := by omega
      clear HD hj1 hj2 hA
      go_wp2_with fail
      go_ret
      exact ⟨_, rfl, l', H.out, HO.out, HP.out, HC.out, HT.out⟩
    · have hlt1 : (j1 : Int) < (n : Int) := by omega
      have hjj1 : j1 < n := by omega
      have hpj1 : Hid ((j1 - 1) / 2 = i) := Lib.hid (by omega)
      have hzj1 : 0 < j1 := by omega
      have hlen := HN.out
      have hx : l'[i]? = some (l'[i]'(by omega)) := List.getElem?_eq_getElem _
      have hy1 : l'[j1]? = some (l'[j1]'(by omega)) := List.getElem?_eq_getElem _
      generalize l'[i]'(by omega) = x at hx
      generalize l'[j1]'(by omega) = yj1 at hy1
      have HX := Lib.hid hx
      have HYj1 := Lib.hid hy1
      have c1 : wr.cell? ⟨q, 1, none⟩ = some (.slice (some ⟨g, 0, none⟩) N cap) := by have := H.out.blk.cell 1; rw [HN.out] at this; exact this
      have HJ := Lib.hid (And.intro hj1 hj2)
      clear hx hy1 hA
      by_cases hB : j2 < n
      · have hlt2 : (j2 : Int) < (n : Int) := by omega
        have hjj2 : j2 < n := hB
        have hpj2 : Hid ((j2 - 1) / 2 = i) := Lib.hid (by omega)
        have hzj2 : 0 < j2 := by omega
        have hy2 : l'[j2]? = some (l'[j2]'(by omega)) := List.getElem?_eq_getElem _
        generalize l'[j2]'(by omega) = yj2 at hy2
        have HYj2 := Lib.hid hy2
        clear hlen hy2 hj1 hj2 hB
        have F1 := Lib.hid (iLess_any (cap := cap) H.out.row HN.out HYj2.out HYj1.out)
        have m1 := mLess c1
        cases hs : ltI yj2 yj1 with
        | false =>
          have HMj1 : Hid (∀ c, 0 < c → c < n → (c - 1) / 2 = i → Heap.Ord ltI l' c j1) := Lib.hid (fun c h1 h2 h3 a b ha hb => by
            rw [HYj1.out] at hb; cases hb
            have hj := HJ.out
            rcases (show c = j1 ∨ c = j2 by omega) with rfl | rfl
            · rw [HYj1.out] at ha; cases ha
              exact ltI_lt.irrefl _
            · rw [HYj2.out] at ha; cases ha; exact hs)
          rw [hs] at F1
          clear hs
          go_wp2_with fail
          refine F1.out.mono ?_
          rintro e w4 ⟨rfl, hcw⟩
          clear F1 m1
          have FL := Lib.hid (iLess_any (cap := cap) (H.out.row.chg hcw (by simp)) HN.out HYj1.out HX.out)
          have FS := Lib.hid (fun W2 (hc : Chg [] wr W2) => iSwap_any (cap := cap) (H.out.row.chg hc (by simp)) HN.out (by have := H.out.hc; have := H.out.hl; have := HN.out; omega) HX.out HYj1.out)
          have cw := hcw.cell c1 (by simp)
          have mw := mLess cw
          cases hr : ltI yj1 x with
          | false =>
            have HO := Lib.hid (HD.out.stop ltI_lt HX.out HYj1.out hr HMj1.out)
            rw [hr] at FL
            clear hr FS HD
            go_wp2_with fail
            refine FL.out.mono ?_
            rintro e w5 ⟨rfl, hc5⟩
            have HC5 := Lib.hid (hcw.trans hc5)
            clear FL hc5 hcw cw mw
            go_wp2_with fail
            go_ret
            exact ⟨_, rfl, l', H.out.chg0 HC5.out, HO.out, HP.out, HC.out.trans (HC5.out.more (by simp)), HT.out⟩
          | true =>
            have HO := Lib.hid (HD.out.step ltI_lt (by have := HN.out; omega) hjj1 hpj1.out hzj1 HX.out HYj1.out hr HMj1.out)
            have HPm := Lib.hid ((Heap.swap_perm HX.out HYj1.out).trans HP.out)
            have HLn := Lib.hid ((Heap.swap_len l' i j1 x yj1).trans HN.out)
            have HT2 : Hid (∀ k, n ≤ k → (Heap.swap l' i j1 x yj1)[k]? = l[k]?) := Lib.hid fun k hk => by rw [Heap.swap_at HX.out HYj1.out, if_neg (by omega), if_neg (by omega)]; exact HT.out k hk
            rw [hr] at FL
            clear hr HD HP HT
            go_wp2_with fail
            refine FL.out.mono ?_
            rintro e w5 ⟨rfl, hc5⟩
            have hcx := hcw.trans hc5
            have cx := hcx.cell c1 (by simp)
            have mx := mSwap cx
            have F3 := Lib.hid (FS.out w5 hcx)
            have H2 := Lib.hid (H.out.chg0 hcx)
            have HC2 := Lib.hid (HC.out.trans (hcx.more (T := [g]) (by simp)))
            clear FS FL H HC hc5 hcw cw mw hcx c1
            go_wp2_with fail
            refine F3.out.mono ?_
            rintro e w6 ⟨rfl, hr6, hc6⟩
            have H3 := Lib.hid (H2.out.swap hr6 hc6)
            have HC3 := Lib.hid (HC2.out.trans hc6)
            clear F3 H2 HC2 hr6 hc6 mx cx
            go_wp2_with fail
            go_roundw
            case rel => exact ⟨j1, _, rfl, H3, HO, by omega, HLn.out, HPm, HC3, HT2⟩
            case measure => have := HJ.out; simp [intOf]; omega
        | true =>
          have HMj2 : Hid (∀ c, 0 < c → c < n → (c - 1) / 2 = i → Heap.Ord ltI l' c j2) := Lib.hid (fun c h1 h2 h3 a b ha hb => by
            rw [HYj2.out] at hb; cases hb
            have hj := HJ.out
            rcases (show c = j1 ∨ c = j2 by omega) with rfl | rfl
            · rw [HYj1.out] at ha; cases ha; exact ltI_lt.asymm hs
            · rw [HYj2.out] at ha; cases ha
              exact ltI_lt.irrefl _)
          rw [hs] at F1
          clear hs
          go_wp2_with fail
          refine F1.out.mono ?_
          rintro e w4 ⟨rfl, hcw⟩
          clear F1 m1
          have FL := Lib.hid (iLess_any (cap := cap) (H.out.row.chg hcw (by simp)) HN.out HYj2.out HX.out)
          have FS := Lib.hid (fun W2 (hc : Chg [] wr W2) => iSwap_any (cap := cap) (H.out.row.chg hc (by simp)) HN.out (by have := H.out.hc; have := H.out.hl; have := HN.out; omega) HX.out HYj2.out)
          have cw := hcw.cell c1 (by simp)
          have mw := mLess cw
          cases hr : ltI yj2 x with
          | false =>
            have HO := Lib.hid (HD.out.stop ltI_lt HX.out HYj2.out hr HMj2.out)
            rw [hr] at FL
            clear hr FS HD
            go_wp2_with fail
            refine FL.out.mono ?_
            rintro e w5 ⟨rfl, hc5⟩
            have HC5 := Lib.hid (hcw.trans hc5)
            clear FL hc5 hcw cw mw
            go_wp2_with fail
            go_ret
            exact ⟨_, rfl, l', H.out.chg0 HC5.out, HO.out, HP.out, HC.out.trans (HC5.out.more (by simp)), HT.out⟩
          | true =>
            have HO := Lib.hid (HD.out.step ltI_lt (by have := HN.out; omega) hjj2 hpj2.out hzj2 HX.out HYj2.out hr HMj2.out)
            have HPm := Lib.hid ((Heap.swap_perm HX.out HYj2.out).trans HP.out)
            have HLn := Lib.hid ((Heap.swap_len l' i j2 x yj2).trans HN.out)
            have HT2 : Hid (∀ k, n ≤ k → (Heap.swap l' i j2 x yj2)[k]? = l[k]?) := Lib.hid fun k hk => by rw [Heap.swap_at HX.out HYj2.out, if_neg (by omega), if_neg (by omega)]; exact HT.out k hk
            rw [hr] at FL
            clear hr HD HP HT
            go_wp2_with fail
            refine FL.out.mono ?_
            rintro e w5 ⟨rfl, hc5⟩
            have hcx := hcw.trans hc5
            have cx := hcx.cell c1 (by simp)
            have mx := mSwap cx
            have F3 := Lib.hid (FS.out w5 hcx)
            have H2 := Lib.hid (H.out.chg0 hcx)
            have HC2 := Lib.hid (HC.out.trans (hcx.more (T := [g]) (by simp)))
            clear FS FL H HC hc5 hcw cw mw hcx c1
            go_wp2_with fail
            refine F3.out.mono ?_
            rintro e w6 ⟨rfl, hr6, hc6⟩
            have H3 := Lib.hid (H2.out.swap hr6 hc6)
            have HC3 := Lib.hid (HC2.out.trans hc6)
            clear F3 H2 HC2 hr6 hc6 mx cx
            go_wp2_with fail
            go_roundw
            case rel => exact ⟨j2, _, rfl, H3, HO, by omega, HLn.out, HPm, HC3, HT2⟩
            case measure => have := HJ.out; simp [intOf]; omega
      · have hge2 : (n : Int) ≤ (j2 : Int) := by omega
        have HMj1 : Hid (∀ c, 0 < c → c < n → (c - 1) / 2 = i → Heap.Ord ltI l' c j1) := Lib.hid (fun c h1 h2 h3 a b ha hb => by
          obtain rfl : c = j1 := by omega
          rw [HYj1.out] at ha hb; cases ha; cases hb
          exact ltI_lt.irrefl _)
        have hcw := Chg.refl [] wr
        clear hB hlen hj1 hj2
        have FL := Lib.hid (iLess_any (cap := cap) (H.out.row.chg hcw (by simp)) HN.out HYj1.out HX.out)
        have FS := Lib.hid (fun W2 (hc : Chg [] wr W2) => iSwap_any (cap := cap) (H.out.row.chg hc (by simp)) HN.out (by have := H.out.hc; have := H.out.hl; have := HN.out; omega) HX.out HYj1.out)
        have cw := hcw.cell c1 (by simp)
        have mw := mLess cw
        cases hr : ltI yj1 x with
        | false =>
          have HO := Lib.hid (HD.out.stop ltI_lt HX.out HYj1.out hr HMj1.out)
          rw [hr] at FL
          clear hr FS HD
          go_wp2_with fail
          refine FL.out.mono ?_
          rintro e w5 ⟨rfl, hc5⟩
          have HC5 := Lib.hid (hcw.trans hc5)
          clear FL hc5 hcw cw mw
          go_wp2_with fail
          go_ret
          exact ⟨_, rfl, l', H.out.chg0 HC5.out, HO.out, HP.out, HC.out.trans (HC5.out.more (by simp)), HT.out⟩
        | true =>
          have HO := Lib.hid (HD.out.step ltI_lt (by have := HN.out; omega) hjj1 hpj1.out hzj1 HX.out HYj1.out hr HMj1.out)
          have HPm := Lib.hid ((Heap.swap_perm HX.out HYj1.out).trans HP.out)
          have HLn := Lib.hid ((Heap.swap_len l' i j1 x yj1).trans HN.out)
          have HT2 : Hid (∀ k, n ≤ k → (Heap.swap l' i j1 x yj1)[k]? = l[k]?) := Lib.hid fun k hk => by rw [Heap.swap_at HX.out HYj1.out, if_neg (by omega), if_neg (by omega)]; exact HT.out k hk
          rw [hr] at FL
          clear hr HD HP HT
          go_wp2_with fail
          refine FL.out.mono ?_
          rintro e w5 ⟨rfl, hc5⟩
          have hcx := hcw.trans hc5
          have cx := hcx.cell c1 (by simp)
          have mx := mSwap cx
          have F3 := Lib.hid (FS.out w5 hcx)
          have H2 := Lib.hid (H.out.chg0 hcx)
          have HC2 := Lib.hid (HC.out.trans (hcx.more (T := [g]) (by simp)))
          clear FS FL H HC hc5 hcw cw mw hcx c1
          go_wp2_with fail
          refine F3.out.mono ?_
          rintro e w6 ⟨rfl, hr6, hc6⟩
          have H3 := Lib.hid (H2.out.swap hr6 hc6)
          have HC3 := Lib.hid (HC2.out.trans hc6)
          clear F3 H2 HC2 hr6 hc6 mx cx
          go_wp2_with fail
          go_roundw
          case rel => exact ⟨j1, _, rfl, H3, HO, by omega, HLn.out, HPm, HC3, HT2⟩
          case measure => have := HJ.out; simp [intOf]; omega
end Go.Proofs.Ytgbdbeaflilmlaa
