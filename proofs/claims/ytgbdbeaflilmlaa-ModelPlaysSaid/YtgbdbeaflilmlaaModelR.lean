/-
  WALKS over the document's answer of chapter 44: in, list, Find. Condition: at most 1000 nodes in a row, 300 flows.
-/
import Derived.Test.YtgbdbeaflilmlaaModelL
import Derived.Test.YtgbdbeaflilmlaaRowQ
import Derived.Test.YtgbdbeaflilmlaaCut
import Derived.Deep.CutBlock
import Derived.Deep.DeepCutAuto
set_option linter.unusedVariables false
set_option linter.unusedSimpArgs false
namespace Go.Proofs.Ytgbdbeaflilmlaa
open Go.RowKit Go.Maps

theorem SlZ.one {w : World} {B n c : Nat} {A : Option Addr} {l : List Int} (h : SlZ w B (.slice A n c) l) {i : Nat} {y : Int} (hy : l[i]? = some y) : ∃ b o, A = some ⟨b, o, none⟩ ∧ w.cell? ⟨b, o + i, none⟩ = some (.int .i64 y) := by
  have hi : i < l.length := (List.getElem?_eq_some_iff.1 hy).1
  obtain ⟨b, o, c', hv, _, _, hc⟩ := Sl.at_ h hi (by omega)
  simp only [Value.slice.injEq] at hv
  obtain ⟨rfl, _, _⟩ := hv
  refine ⟨b, o, rfl, ?_⟩
  have := hc 0 (by omega)
  simpa [hy] using this
set_option maxRecDepth 100000 in
set_option maxHeartbeats 1000000 in
theorem rin_any {w : World} {B : Nat} {v : Value} {l : List Int} (h : SlZ w B v l) (hl : l.length ≤ 1000) (x : Int) :
    Calls Try.prog 64 #[v, .int .i64 x] w fun e w' => e = .returned (.bool (decide (x ∈ l))) ∧ w = w' := by
  obtain ⟨A, c, rfl⟩ := Sl.form h
  have HX : Hid (∀ i, i < l.length → ∃ b o y, A = some ⟨b, o, none⟩ ∧ l[i]? = some y ∧ w.cell? ⟨b, o + i, none⟩ = some (.int .i64 y)) := Lib.hid fun i hi => by
    obtain ⟨b, o, hA, hc⟩ := SlZ.one h (List.getElem?_eq_getElem hi)
    exact ⟨b, o, _, hA, List.getElem?_eq_getElem hi, hc⟩
  clear h
  generalize hN : l.length = N at *
  go_enter Try.func64, Try.ntmps64
  go_wp2_with fail
  go_loopw [5] (fun iv wr => ∃ k : Nat, k ≤ N ∧ iv = .int .i64 k ∧ w = wr ∧ Hid (∀ i y, i < k → l[i]? = some y → ¬ x = y)) (fun iv _ => N - (intOf iv).toNat)
  case atStart => exact ⟨0, by omega, rfl, rfl, Lib.hid (fun i t hi => by omega)⟩
  case round =>
    obtain ⟨k, hk, rfl, rfl, HN⟩ := hrel
    by_cases hlt : k < N
    · obtain ⟨b, o, y, rfl, hy, hcell⟩ := HX.out k hlt
      have HY := Lib.hid hy
      clear hy
      by_cases hid : x = y
      · have hb : (y == x) = true := by simp [hid]
        have hr : Hid (decide (x ∈ l) = true) := Lib.hid (by rw [decide_eq_true (hid ▸ List.mem_of_getElem? HY.out)])
        go_wp2_with fail
        go_ret
        exact ⟨by rw [hr.out]; rfl, rfl⟩
      · have hb : (y == x) = false := by simp; exact fun e => hid e.symm
        go_wp2_with fail
        go_roundw
        case rel =>
          refine ⟨k + 1, by omega, by go_num, by first | trivial | rfl, Lib.hid fun i t hi ht => ?_⟩
          rcases Nat.lt_or_ge i k with h1 | h1
          · exact HN.out i t h1 ht
          · rw [show i = k by omega, HY.out] at ht
            injection ht with ht; subst ht; exact hid
        case measure => simp [intOf]; omega
    · obtain rfl : k = N := by omega
      have hr : Hid (decide (x ∈ l) = false) := Lib.hid (decide_eq_false (fun hm => by
          obtain ⟨i, hi, rfl⟩ := List.mem_iff_getElem.1 hm
          exact HN.out i _ (by omega) (List.getElem?_eq_getElem hi) rfl))
      go_wp2_with fail
      go_ret
      exact ⟨by rw [hr.out]; rfl, rfl⟩

/-- How far the document's loop goes. -/
theorem count_at {l : List Int} (h : l.Pairwise (· < ·)) (x : Int) (k : Nat) (hk : k ≤ l.length) (h1 : ∀ i y, i < k → l[i]? = some y → y < x) (h2 : ∀ y, l[k]? = some y → ¬ y < x) : l.countP (· < x) = k := by
  have hs := count_split h x
  have hcl := List.countP_le_length (p := (fun y => decide (y < x))) (l := l)
  generalize l.countP (· < x) = c at *
  rcases Nat.lt_trichotomy c k with hlt | rfl | hlt
  · have e := List.getElem?_eq_getElem (l := l) (i := c) (by omega)
    have a1 := h1 c _ hlt e
    have a2 := hs.2 (l[c]'(by omega)) (List.mem_iff_getElem?.2 ⟨0, by rw [List.getElem?_drop]; exact e⟩)
    omega
  · rfl
  · have e := List.getElem?_eq_getElem (l := l) (i := k) (by omega)
    have a1 := h2 _ e
    have a2 := hs.1 (l[k]'(by omega)) (List.mem_iff_getElem?.2 ⟨k, by rw [List.getElem?_take, if_pos hlt]; exact e⟩)
    omega
set_option maxRecDepth 100000 in
set_option maxHeartbeats 2000000 in
theorem rlist_any {w : World} {B : Nat} {v : Value} {l : List Int} (h : SlZ w B v l) (hl : l.length ≤ 1000) (hs : l.Pairwise (· < ·)) (hB : B ≤ w.heap.size) (x : Int) :
    Calls Try.prog 62 #[v, .int .i64 x] w fun e w' => ∃ v', e = .returned v' ∧ SlZ w' B v' (insZ l x) ∧ ((v' = v ∧ insZ l x = l) ∨ SlZ w' w.heap.size v' (insZ l x)) ∧ Chg [] w w' := by
  have F1 := Lib.hid (rin_any h hl x)
  have HSL := Lib.hid h
  have HV : Hid (insZ l x = if x ≤ 0 ∨ x ∈ l then l else l.take (l.countP (· < x)) ++ x :: l.drop (l.countP (· < x))) := Lib.hid rfl
  by_cases h0 : x ≤ 0
  · have hb : decide (x < 1) = true := by simp; omega
    have HV2 : Hid (insZ l x = l) := Lib.hid (by rw [HV.out, if_pos (.inl h0)])
    clear h
    go_enter Try.func62, Try.ntmps62
    go_wp2_with fail
    go_ret
    exact ⟨_, rfl, by rw [HV2.out]; exact HSL.out, .inl ⟨rfl, HV2.out⟩, Chg.refl _ _⟩
  · have hb : decide (x < 1) = false := by simp; omega
    by_cases hm : x ∈ l
    · have HV2 : Hid (insZ l x = l) := Lib.hid (by rw [HV.out, if_pos (.inr hm)])
      rw [decide_eq_true hm] at F1
      clear h
      go_enter Try.func62, Try.ntmps62
      go_wp2_with fail
      refine F1.out.mono ?_
      rintro e w1 ⟨rfl, rfl⟩
      go_wp2_with fail
      go_ret
      exact ⟨_, rfl, by rw [HV2.out]; exact HSL.out, .inl ⟨rfl, HV2.out⟩, Chg.refl _ _⟩
    · rw [decide_eq_false hm] at F1
      have HV2 : Hid (insZ l x = l.take (l.countP (· < x)) ++ x :: l.drop (l.countP (· < x))) := Lib.hid (by rw [HV.out, if_neg (by simp [hm]; omega)])
      have HCA : Hid (∀ k, k ≤ l.length → (∀ i y, i < k → l[i]? = some y → y < x) → (∀ y, l[k]? = some y → y < x → False) → l.countP (· < x) = k) := Lib.hid (count_at hs x)
      obtain ⟨A, c, rfl⟩ := Sl.form h
      have HX : Hid (∀ i, i < l.length → ∃ b o y, A = some ⟨b, o, none⟩ ∧ l[i]? = some y ∧ w.cell? ⟨b, o + i, none⟩ = some (.int .i64 y)) := Lib.hid fun i hi => by
        obtain ⟨b, o, hA, hc⟩ := SlZ.one h (List.getElem?_eq_getElem hi)
        exact ⟨b, o, _, hA, List.getElem?_eq_getElem hi, hc⟩
      have hcap : l.length ≤ c := by
        obtain ⟨_, A', c', hv, hcap, _⟩ := h
        simp only [Value.slice.injEq] at hv
        omega
      clear h hm HV
      have HCB := HCA
      clear HCA
      generalize hN : l.length = N at *
      have HNN : Hid (l.length = N) := Lib.hid hN
      have HCA := HCB
      clear hN HCB
      go_enter Try.func62, Try.ntmps62
      go_wp2_with fail
      refine F1.out.mono ?_
      rintro e w1 ⟨rfl, rfl⟩
      clear F1
      go_upto_block 0 with fail
      go_cut [5] (fun xv wx => ∃ k : Nat, k ≤ N ∧ xv = .int .i64 k ∧ Hid (l.countP (· < x) = k) ∧ wx = w)
      case first =>
        go_wp2_with fail
        go_loopw [5] (fun iv wr => ∃ k : Nat, k ≤ N ∧ iv = .int .i64 k ∧ w = wr ∧ Hid (∀ i y, i < k → l[i]? = some y → y < x)) (fun iv _ => N - (intOf iv).toNat)
        case atStart => exact ⟨0, by omega, rfl, rfl, Lib.hid (fun i t hi => by omega)⟩
        case round =>
          obtain ⟨k, hk, rfl, rfl, HK⟩ := hrel
          by_cases hlt : k < N
          · obtain ⟨b, o, y, rfl, hy, hcell⟩ := HX.out k hlt
            have HY := Lib.hid hy
            clear hy
            by_cases hyx : y < x
            · have hbb : decide (y < x) = true := by simp [hyx]
              have HYX := Lib.hid hyx
              clear hyx
              go_wp2_with fail
              go_roundw
              case rel =>
                refine ⟨k + 1, by omega, by go_num, by first | trivial | rfl, Lib.hid fun i t hi ht => ?_⟩
                rcases Nat.lt_or_ge i k with h1 | h1
                · exact HK.out i t h1 ht
                · rw [show i = k by omega, HY.out] at ht
                  injection ht with ht; subst ht; exact HYX.out
              case measure => simp [intOf]; omega
            · have hbb : decide (y < x) = false := by simp; omega
              have HCK := Lib.hid (HCA.out k hk HK.out (fun z hz hzx => by rw [HY.out] at hz; injection hz with hz; subst hz; exact hyx hzx))
              clear hyx
              go_wp2_with fail
              go_meet
              exact ⟨k, hk, rfl, HCK, rfl⟩
          · obtain rfl : k = N := by omega
            have HCK := Lib.hid (HCA.out k hk HK.out (fun z hz hzx => by have := (List.getElem?_eq_some_iff.1 hz).1; have := HNN.out; omega))
            go_wp2_with fail
            go_meet
            exact ⟨k, hk, rfl, HCK, rfl⟩
      case rest =>
        obtain ⟨k, hk, rfl, HCK, rfl⟩ := hcut
        have hsl : Sl wc B 1 (.slice A N c) N (zI l) := by have := HSL.out; unfold SlZ at this; rw [HNN.out] at this; exact this
        obtain ⟨hct, hst⟩ := cut_to elZ (hi := k) hsl hk
        obtain ⟨X, hcf, hsf⟩ := cut_from elZ (lo := k) hsl hk
        rw [Nat.mul_one] at hst hsf
        have hc1 := (Chg.refl [] wc).alloc (.cells #[] 3)
        have ho1 : (wc.alloc (.cells #[] 3)).ownsRow wc.heap.size 3 1 (.slice (some ⟨wc.heap.size, 0, none⟩) 0 0) 0 [] := own_lit wc 3 1 0 #[] (Nat.le_refl _) (by simp [maxLen]) rfl
        have hs1 := Sl.chg0 hst hc1
        have hone1 : Hid (∀ u ∈ (zI l).take k, u.oneCell' = true) := Lib.hid fun u hu => zI_one l u (List.mem_of_mem_take hu)
        have hone3 : Hid (∀ u ∈ (zI l).drop k, u.oneCell' = true) := Lib.hid fun u hu => zI_one l u (List.mem_of_mem_drop hu)
        have HSF := Lib.hid hsf
        clear HX HCA hsl hst hsf
        go_upto_region 7 with (first
          | (at_builtin; refine wpList_app elZ rfl (.tmp 29) (.tmp 32) rfl wc.heap.size rfl ho1 rfl hs1 hone1.out (by unfold maxLen; omega) (by omega) (by simp) ?_; intro v2 w2 ho2 hc2 hb2)
          | fail)
        have hlt1 := own_lt ho1
        have HC2 : Hid (Chg [] wc w2) := Lib.hid (hc1.trans' hc2 (fun y hy => .inr (hlt1 y hy).1))
        clear ho1 hs1 hc1 hc2 hb2 hlt1
        have hz2 := HC2.out.size
        have hc3 := (Chg.refl [] w2).alloc (.cells #[.int .i64 x] 3)
        have ho3 := own_chg ho2 hc3 (by simp)
        have hl3 : Sl (w2.alloc (.cells #[.int .i64 x] 3)) 0 1 (.slice (some ⟨w2.heap.size, 0, none⟩) 1 1) 1 [.int .i64 x] := Sl.of_own (own_lit (base := 0) w2 3 1 1 #[.int .i64 x] (Nat.zero_le _) (by simp [maxLen]) rfl)
        have hone2 : Hid (∀ u ∈ ([.int .i64 x] : List Value), u.oneCell' = true) := Lib.hid (by intro u hu; simp at hu; subst hu; rfl)
        go_upto_region 8 with (first
          | (at_builtin; refine wpList_app elZ rfl (.tmp 34) (.tmp 36) rfl wc.heap.size rfl ho3 rfl hl3 hone2.out (by unfold maxLen; omega) (by omega) (by simp; omega) ?_; intro v4 w4 ho4 hc4 hb4)
          | fail)
        have hlt3 := own_lt ho3
        have HC4 : Hid (Chg [] wc w4) := Lib.hid ((HC2.out.trans hc3).trans' hc4 (fun y hy => .inr (hlt3 y hy).1))
        clear ho2 ho3 hl3 hc3 hc4 hb4 hlt3
        have hz4 := HC4.out.size
        have hs4 := Sl.chg0 HSF.out HC4.out
        go_wp2_with (first
          | (at_builtin; refine wpList_app elZ rfl (.tmp 38) (.tmp 41) rfl wc.heap.size rfl ho4 rfl hs4 hone3.out (by unfold maxLen; omega) (by omega) (by omega) ?_; intro v6 w6 ho6 hc6 hb6)
          | fail)
        have hlt4 := own_lt ho4
        have HC6 : Hid (Chg [] wc w6) := Lib.hid (HC4.out.trans' hc6 (fun y hy => .inr (hlt4 y hy).1))
        have HS6 := Lib.hid (Sl.of_own ho6)
        clear ho4 ho6 hc6 hb6 hlt4 hs4
        go_ret
        have hfin : SlZ w6 wc.heap.size v6 (insZ l x) := by
          rw [HV2.out, HCK.out]
          have e2 : (l.take k ++ x :: l.drop k).length = 0 + k + 1 + (N - k) := by
            have := HNN.out
            simp; omega
          unfold SlZ
          rw [e2]
          have := HS6.out
          simpa [zI, List.map_take, List.map_drop] using this
        exact ⟨_, rfl, Sl.less hfin hB, .inr hfin, HC6.out⟩
end Go.Proofs.Ytgbdbeaflilmlaa
