/-
  WALKS: the document's answer of chapter 36: one more, one less. Condition: at most 300 calls were made.
-/
import Derived.Test.YtgbdbeaflilmlaaHealthF
import Derived.Deep.DeepCutAuto
import Derived.Deep.CutBlock
set_option linter.unusedVariables false
set_option linter.unusedSimpArgs false
namespace Go.Proofs.Ytgbdbeaflilmlaa
open Go.RowKit Go.Maps

theorem twK {n : Int} : ∀ {l : List BK} {k : Nat}, (∀ j x, j < k → l[j]? = some x → x.node < n) → k ≤ l.length → (∀ x, l[k]? = some x → ¬ x.node < n) → l.takeWhile (fun x => decide (x.node < n)) = l.take k ∧ l.dropWhile (fun x => decide (x.node < n)) = l.drop k
  | [], 0, _, _, _ => ⟨rfl, rfl⟩
  | y :: l, 0, _, _, h => by
    have h0 := h y rfl
    rw [List.takeWhile_cons_of_neg (p := fun x : BK => decide (x.node < n)) (by simpa using h0), List.dropWhile_cons_of_neg (p := fun x : BK => decide (x.node < n)) (by simpa using h0)]
    exact ⟨rfl, rfl⟩
  | y :: l, k + 1, h, hk, h' => by
    have h0 := h 0 y (by omega) rfl
    obtain ⟨i1, i2⟩ := twK (l := l) (k := k) (fun j x hj hx => h (j + 1) x (by omega) (by simpa using hx)) (by simpa using hk) (fun x hx => h' x (by simpa using hx))
    rw [List.takeWhile_cons_of_pos (p := fun x : BK => decide (x.node < n)) (by simpa using h0), List.dropWhile_cons_of_pos (p := fun x : BK => decide (x.node < n)) (by simpa using h0), i1, i2]
    exact ⟨rfl, rfl⟩
theorem insB_at {b : BK} {l : List BK} {k : Nat} (h : l.takeWhile (fun x => decide (x.node < b.node)) = l.take k ∧ l.dropWhile (fun x => decide (x.node < b.node)) = l.drop k) : insB b l = l.take k ++ ([b] ++ l.drop k) := by unfold insB; rw [h.1, h.2]; rfl
theorem lit36 (w : World) (b : BK) : Sl (w.alloc (.cells (arrR b) 46)) 0 7 (.slice (some ⟨w.heap.size, 0, none⟩) 1 1) 1 (encR b) :=
  Sl.of_own (own_lit (base := 0) w 46 7 1 (arrR b) (Nat.zero_le _) (by simp [maxLen]) rfl)
theorem own_zero' {w : World} {B size n : Nat} {e : TypeId} {v : Value} {xs : List Value} (h : w.ownsRow B e size v n xs) : w.ownsRow 0 e size v n xs := by
  refine ⟨h.1, ?_⟩
  rcases h.2 with h2 | ⟨g, cap, cur, hv, _, r⟩
  · exact .inl h2
  · exact .inr ⟨g, cap, cur, hv, Nat.zero_le _, r⟩
/-- Where a node stands. -/
theorem find_at {l : List BK} {n : Int} (h : n ∈ nodesC l) : ∃ (i : Nat) (x : BK), l[i]? = some x ∧ x.node = n ∧ ∀ (j : Nat) (y : BK), j < i → l[j]? = some y → y.node ≠ n := by
  induction l with
  | nil => simp [nodesC] at h
  | cons b l ih =>
    by_cases e : b.node = n
    · exact ⟨0, b, rfl, e, fun j y hj => by omega⟩
    · have h2 : n ∈ nodesC l := by
        unfold nodesC at h ⊢
        rw [List.map_cons, List.mem_cons] at h
        exact h.resolve_left (fun h => e h.symm)
      obtain ⟨i, x, hi, hx, hj⟩ := ih h2
      refine ⟨i + 1, x, by simpa using hi, hx, fun j y hji hy => ?_⟩
      cases j with
      | zero => simp at hy; subst hy; exact e
      | succ j => exact hj j y (by omega) (by simpa using hy)
theorem not_nodes {l : List BK} {n : Int} (h : n ∉ nodesC l) : ∀ x ∈ l, x.node ≠ n := fun x hx e => h (List.mem_map.2 ⟨x, hx, e⟩)
/-- What Add and Remove hand back. -/
def CRPost (w : World) (v : Value) (r : CK × Bool) (e : Ending) (w' : World) : Prop := ∃ v', e = .returned (.tuple #[.agg #[.int .i64 r.1.now, v'], .bool r.2]) ∧ RefTo w v r.1.l v' w'

set_option maxRecDepth 100000 in
set_option maxHeartbeats 2000000 in
theorem radd_any {w : World} {v : Value} {c : CK} {K : Nat} (h : OwR w v c.l) (hci : CI K c) (hK : K ≤ 300) (n : Int) :
    Calls Try.prog 18 #[.agg #[.int .i64 c.now, v], .int .i64 n] w (CRPost w v (addC c n)) := by
  have HP : Hid (∀ e w', CRPost w v (addC c n) e w' = ∃ v', e = .returned (.tuple #[.agg #[.int .i64 (addC c n).1.now, v'], .bool (addC c n).2]) ∧ RefTo w v (addC c n).1.l v' w') := Lib.hid fun _ _ => rfl
  obtain ⟨A, cp, rfl⟩ := Sl.form h.sl
  have hl := hci.len
  have hA1 := (Chg.refl [] w).alloc (.cells #[.int .i64 c.now, .slice A c.l.length cp] 41)
  have hBp1 : Blk (w.alloc (.cells #[.int .i64 c.now, .slice A c.l.length cp] 41)) w.heap.size 41 #[.int .i64 c.now, .slice A c.l.length cp] := Blk.new _ _ _
  have hA2 := hA1.alloc (.cells #[.int .i64 0, .slice none 0 0] 41)
  have hBp2 := hBp1.alloc (.cells #[.int .i64 0, .slice none 0 0] 41)
  have hBr2 : Blk ((w.alloc (.cells #[.int .i64 c.now, .slice A c.l.length cp] 41)).alloc (.cells #[.int .i64 0, .slice none 0 0] 41)) (w.heap.size + 1) 41 #[.int .i64 0, .slice none 0 0] := Blk.new' (by simp)
  generalize hw2 : (w.alloc (.cells #[.int .i64 c.now, .slice A c.l.length cp] 41)).alloc (.cells #[.int .i64 0, .slice none 0 0] 41) = w2 at *
  have hsz2 : w2.heap.size = w.heap.size + 2 := by rw [← hw2]; simp
  generalize hgp : w.heap.size = gp at *
  have HI := Lib.hid (And.intro h (And.intro hA2 (And.intro hBp2 hBr2)))
  have HSAME : Hid (∀ w', Chg [gp + 1] w2 w' → RefTo w (.slice A c.l.length cp) c.l (.slice A c.l.length cp) w') := Lib.hid fun w' hc => RefTo.same h (hA2.trans' hc (by intro x hx; simp at hx; subst hx; exact .inr (by omega)))
  clear hA1 hBp1
  by_cases hbad : n < 1 ∨ 65535 < n
  · have e1 : Hid (addC c n = (c, false)) := Lib.hid (addC_no (hbad.imp id .inl))
    have H1 := Lib.hid hBp2.rangeQ
    clear h hci hA2 HI
    rcases (show n < 1 ∨ (¬ n < 1 ∧ 65535 < n) by omega) with h1 | ⟨h1, h2⟩
    all_goals
      clear hbad
      go_enter Try.func18, Try.ntmps18
      go_wp2_with (first
        | (refine wpList_row 41 (.tmp 2) rfl rfl gp 0 rfl _ _ H1.out Try.underlying41 rfl infRC ?_)
        | (refine wpList_store_blk rfl 41 _ _ rfl rfl hBr2 rfl rfl rfl (by kernel_rfl) rfl ?_; intro w5 hB5 hc5)
        | fail)
      refine bodyPost_ret (results_blk2 rfl rfl hB5 _ Try.underlying41 rfl (by kernel_rfl)) rfl ?_
      rw [HP.out, e1.out]
      exact ⟨_, rfl, HSAME.out w5 hc5⟩
  · have h1 : ¬ n < 1 := by omega
    have h2 : ¬ 65535 < n := by omega
    have hi0 : ∀ i : Nat, (0 : Int) ≤ (i : Int) := fun i => by omega
    have HR := Lib.hid (fun W (hc : Chg [] w2 W) => (hBp2.chg hc (by simp)).rangeQ)
    have HBR := Lib.hid (fun W (hc : Chg [] w2 W) => hBr2.chg hc (by simp))
    have hR2 := Lib.hid hBp2.rangeQ
    by_cases hin : n ∈ nodesC c.l
    · have e1 : Hid (addC c n = (c, false)) := Lib.hid (addC_no (.inr (.inr hin)))
      obtain ⟨i, x, hi, hx, hj⟩ := find_at hin
      have F1 := Lib.hid (rfind_any c.now n (h.sl.chg0 hA2) (by omega) (r := (i : Int)) (.inr ⟨i, x, rfl, hi, hx, hj⟩))
      have hii := hi0 i
      clear h hci hA2 HI hin hbad hi hx hj hi0 hBp2 hBr2
      go_enter Try.func18, Try.ntmps18
      go_wp2_with (first
        | (refine wpList_row 41 (.tmp 2) rfl rfl gp 0 rfl _ _ hR2.out Try.underlying41 rfl infRC ?_)
        | fail)
      refine F1.out.mono ?_
      rintro e w3 ⟨rfl, hc3⟩
      have hR3 := Lib.hid (HR.out w3 hc3)
      have hB3 := HBR.out w3 hc3
      clear hR2
      go_wp2_with (first
        | (refine wpList_row 41 (.tmp 2) rfl rfl gp 0 rfl _ _ hR3.out Try.underlying41 rfl infRC ?_)
        | (refine wpList_store_blk rfl 41 _ _ rfl rfl hB3 rfl rfl rfl (by kernel_rfl) rfl ?_; intro w5 hB5 hc5)
        | fail)
      refine bodyPost_ret (results_blk2 rfl rfl hB5 _ Try.underlying41 rfl (by kernel_rfl)) rfl ?_
      rw [HP.out, e1.out]
      exact ⟨_, rfl, HSAME.out w5 ((hc3.more (by simp)).trans hc5)⟩
    · have e1 : Hid (addC c n = (⟨c.now, insB (bk0 c.now n) c.l⟩, true)) := Lib.hid (by
        unfold addC
        rw [if_neg]
        rintro (h3 | h3 | h3)
        · exact h1 h3
        · exact h2 h3
        · exact hin (inC_nodes.1 h3))
      have hnone := not_nodes hin
      have F1 := Lib.hid (rfind_any c.now n (h.sl.chg0 hA2) (by omega) (r := -1) (.inl ⟨rfl, hnone⟩))
      have HO := Lib.hid (fun W (hc : Chg [] w2 W) i x hx => SlR.one (h.sl.chg0 (hA2.trans hc)) rfl (i := i) (x := x) hx)
      have HX : Hid (∀ i, i < c.l.length → ∃ x, c.l[i]? = some x) := Lib.hid fun i hi => ⟨_, List.getElem?_eq_getElem hi⟩
      have HC1 := Lib.hid (fun W (hc : Chg [] w2 W) => (show W.cell? ⟨gp, 1, none⟩ = some (.slice A c.l.length cp) from (hBp2.chg hc (by simp)).cell 1))
      have HC0 := Lib.hid (fun W (hc : Chg [] w2 W) => (show W.cell? ⟨gp, 0, none⟩ = some (.int .i64 c.now) from (hBp2.chg hc (by simp)).cell 0))
      have HB := Lib.hid (fun W (hc : Chg [] w2 W) => hBp2.chg hc (by simp))
      have HSL := Lib.hid (fun W (hc : Chg [] w2 W) => (h.sl.chg0 (hA2.trans hc)))
      have HCW := Lib.hid hA2
      have hn0 := hci.now0
      have hnK := hci.nowK
      clear h hci hA2 HI hin hbad hnone hi0 hBp2 hBr2 HSAME
      obtain ⟨now, l⟩ := c
      simp only at *
      generalize hN : l.length = N at *
      go_enter Try.func18, Try.ntmps18
      go_wp2_with (first
        | (refine wpList_row 41 (.tmp 2) rfl rfl gp 0 rfl _ _ hR2.out Try.underlying41 rfl infRC ?_)
        | fail)
      refine F1.out.mono ?_
      rintro e w3 ⟨rfl, hc3⟩
      clear hR2 F1 HR
      go_upto_block 0 with fail
      go_cut [6] (fun xv wx => ∃ k : Nat, k ≤ N ∧ xv = .int .i64 k ∧ Hid (l.takeWhile (fun x => decide (x.node < n)) = l.take k ∧ l.dropWhile (fun x => decide (x.node < n)) = l.drop k) ∧ Chg [] w2 wx)
      case first =>
        go_wp2_with fail
        go_loopw [6] (fun iv wr => ∃ k : Nat, k ≤ N ∧ iv = .int .i64 k ∧ Hid (∀ j x, j < k → l[j]? = some x → x.node < n) ∧ Chg [] w2 wr) (fun iv _ => N - (intOf iv).toNat)
        case atStart => exact ⟨0, by omega, rfl, Lib.hid (fun j x hj => absurd hj (by omega)), hc3⟩
        case round =>
          obtain ⟨k, hk, rfl, hlow, hcw⟩ := hrel
          have c1 := HC1.out wr hcw
          by_cases hlt : k < N
          · obtain ⟨x, hx⟩ := HX.out k hlt
            obtain ⟨b, o, rfl, hrg⟩ := HO.out wr hcw k x hx
            have g0 := hrg 0 (.int .i64 x.node) rfl
            rw [Nat.add_zero] at g0
            clear hrg
            by_cases hxn : x.node < n
            · have HL : Hid (∀ j y, j < k + 1 → l[j]? = some y → y.node < n) := Lib.hid fun j y hj hy => by
                by_cases e : j = k
                · subst e; rw [hx] at hy; cases hy; exact hxn
                · exact hlow.out j y (by omega) hy
              clear hx HX HO HC1 HC0 HB HSL
              go_wp2_with fail
              go_roundw
              case rel => exact ⟨k + 1, by omega, by go_num, HL, hcw⟩
              case measure => simp [intOf]; omega
            · have HT := Lib.hid (twK hlow.out (by omega) (fun y hy => by rw [hx] at hy; cases hy; exact hxn))
              clear hx HX HO HC1 HC0 HB HSL
              go_wp2_with fail
              go_meet
              exact ⟨k, by omega, rfl, HT, hcw⟩
          · obtain rfl : k = N := by omega
            have HT := Lib.hid (twK hlow.out (by omega) (fun y hy => by rw [List.getElem?_eq_none (by omega)] at hy; cases hy))
            clear HX HO HC0 HB HSL
            go_wp2_with fail
            go_meet
            exact ⟨k, by omega, rfl, HT, hcw⟩
      case rest =>
        obtain ⟨k, hk, rfl, HTw, hcw⟩ := hcut
        have c1 := HC1.out wc hcw
        have hS2 : Sl wc 0 7 (.slice A N cp) N (l.flatMap encR) := by
          have := HSL.out wc hcw
          unfold SlR at this
          rwa [hN] at this
        obtain ⟨ct1, ct2⟩ := cut_to elR hS2 hk
        obtain ⟨X, cf1, cf2⟩ := cut_from elR hS2 hk
        have hle : w2.heap.size ≤ wc.heap.size := hcw.size
        have hown0 : (wc.alloc (.cells #[] 46)).ownsRow wc.heap.size 46 7 (.slice (some ⟨wc.heap.size, 0, none⟩) 0 0) 0 [] := by
          have := own_lit (base := wc.heap.size) wc 46 7 0 #[] (Nat.le_refl _) (by simp [maxLen]) rfl
          simpa using this
        have hA1 := (Chg.refl [] wc).alloc (.cells #[] 46)
        have hct := ct2.chg0 hA1
        have hone1 : Hid (∀ u ∈ (l.flatMap encR).take (k * 7), u.oneCell' = true) := Lib.hid fun u hu => flat_one encR_one l u (List.mem_of_mem_take hu)
        have hone2 : Hid (∀ u ∈ (l.flatMap encR).drop (k * 7), u.oneCell' = true) := Lib.hid fun u hu => flat_one encR_one l u (List.mem_of_mem_drop hu)
        have hone3 : Hid (∀ u ∈ encR (bk0 now n), u.oneCell' = true) := Lib.hid (encR_one _)
        have hkI : (k : Int) ≤ (N : Int) := by omega
        have HCF := Lib.hid cf2
        have HA1 := Lib.hid hA1
        have c1a : (wc.alloc (.cells #[] 46)).cell? ⟨gp, 1, none⟩ = some (.slice A N cp) := hA1.cell c1 (by simp)
        have HCW1 := Lib.hid hcw
        have hwn : IntKind.i64.wrap (now + 1) = now + 1 := by rw [IntKind.wrap_i64]; omega
        have HL : Hid (∀ W : World, Sl (W.alloc (.cells #[.int .i64 n, .bool true, .bool false, .int .i64 0, .int .i64 (now + 1), .int .i64 0, .int .i64 0] 46)) 0 7 (.slice (some ⟨W.heap.size, 0, none⟩) 1 1) 1 (encR (bk0 now n))) := Lib.hid fun W => lit36 W (bk0 now n)
        clear hS2 ct2 cf2 hA1 hcw HSL HX HO hc3
        generalize hT1 : (l.flatMap encR).take (k * 7) = T1 at *
        generalize hT2 : (l.flatMap encR).drop (k * 7) = T2 at *
        have HT := Lib.hid (And.intro hT1 hT2)
        clear hT1 hT2
        go_wp2_with (first
          | (at_builtin; refine wpList_app elR rfl (.tmp 38) (.tmp 42) rfl wc.heap.size rfl hown0 rfl hct hone1.out (by unfold maxLen; omega) (by omega) (by simp) ?_; intro v5 w5 hown5 hc5 hb5; have hlt0 := own_lt hown0; have hC5 : Chg [] wc w5 := HA1.out.trans' hc5 (fun x hx => .inr (by have := (hlt0 x hx).1; omega)); have hD5 := HCW1.out.trans hC5; have k0 := HC0.out w5 hD5; have hz5 := hC5.size; have hcat := HL.out w5; have hown5a := own_chg hown5 ((Chg.refl [] w5).alloc (.cells #[.int .i64 n, .bool true, .bool false, .int .i64 0, .int .i64 (now + 1), .int .i64 0, .int .i64 0] 46)) (by simp); clear hct hc5 hb5 c1 c1a hlt0)
          | (at_builtin; refine wpList_app elR rfl (.tmp 44) (.tmp 50) rfl wc.heap.size rfl hown5a rfl hcat hone3.out (by unfold maxLen; omega) (by omega) (by simp; omega) ?_; intro v6 w6 hown6 hc6 hb6; have hlt5 := own_lt hown5a; have hC6 : Chg [] wc w6 := (hC5.alloc _).trans' hc6 (fun x hx => .inr (by have := (hlt5 x hx).1; omega)); have hD6 := HCW1.out.trans hC6; have k1 := HC1.out w6 hD6; have hz6 := hC6.size; have hcf6 := HCF.out.chg0 hC6; have hlt6 := own_lt hown6; have HK6 := HB.out w6 hD6; clear hc6 hb6 hcat hown5a hlt5 hC5 k0)
          | (at_builtin; refine wpList_app elR rfl (.tmp 52) (.tmp 56) rfl wc.heap.size rfl hown6 rfl hcf6 hone2.out (by unfold maxLen; omega) (by omega) (by omega) ?_; intro v7 w7 hown7 hc7 hb7; rw [show 0 + k + 1 + (N - k) = N + 1 by omega] at hown7; have hC7 : Chg [] wc w7 := hC6.trans' hc7 (fun x hx => .inr (by have := (hlt6 x hx).1; omega)); have hD7 := HCW1.out.trans hC7; have HK7 := HB.out w7 hD7; obtain ⟨g7, cap7, rfl, hg7, hg7'⟩ := own_form hown7 (by omega); have q7 := HK7.cell 1; have f7 := HK7.frozen 1; have l7 := HK7.lt; have R7 := Lib.hid (HK7.set_ 1 (.slice (some ⟨g7, 0, none⟩) (N + 1) cap7)).rangeQ; have hB7 := HBR.out w7 hD7; have hB8 := hB7.far (p := ⟨gp, 1, none⟩) (by simp) (.slice (some ⟨g7, 0, none⟩) (N + 1) cap7); clear hc7 hb7 hcf6 hlt6 hC6 k1 HK6 hB7)
          | (refine wpList_row 41 (.tmp 2) rfl rfl gp 0 rfl _ _ R7.out Try.underlying41 rfl infRC ?_)
          | (refine wpList_store_blk rfl 41 _ _ rfl rfl hB8 rfl rfl rfl (by kernel_rfl) rfl ?_; intro w9 hB9 hc9)
          | fail)
        refine bodyPost_ret (results_blk2 rfl rfl hB9 _ Try.underlying41 rfl (by kernel_rfl)) rfl ?_
        rw [HP.out, e1.out]
        have hfl : T1 ++ (encR (bk0 now n) ++ T2) = (insB (bk0 now n) l).flatMap encR := by
          rw [insB_at (b := bk0 now n) HTw.out, ← HT.out.1, ← HT.out.2, flat_take encR_len, flat_drop encR_len]
          simp
        have hll : (insB (bk0 now n) l).length = N + 1 := by rw [len_insB, hN]
        have hz7 := hC7.size
        have hg2 : w2.heap.size ≤ g7 := Nat.le_trans hle hg7
        have hcS : Chg [gp, gp + 1] w7 w9 := (((Chg.refl [gp] w7).setCell (p := ⟨gp, 1, none⟩) (.inl (by simp)) _).more (by simp)).trans (hc9.more (by simp))
        have hrow : OwR w9 (.slice (some ⟨g7, 0, none⟩) (N + 1) cap7) (insB (bk0 now n) l) := by
          unfold OwR
          rw [hll, ← hfl]
          have h8 := own_chg hown7 hcS (by intro x hx; simp [Value.ownBlock] at hx; subst hx; simp; omega)
          have h9 := own_zero' h8
          simpa using h9
        exact ⟨_, rfl, hrow, (HCW.out.trans hD7).trans' hcS (by intro x hx; simp at hx; rcases hx with rfl | rfl <;> exact .inr (by omega)), fun x hx => .inr (by simp [Value.ownBlock] at hx; subst hx; omega)⟩
end Go.Proofs.Ytgbdbeaflilmlaa
