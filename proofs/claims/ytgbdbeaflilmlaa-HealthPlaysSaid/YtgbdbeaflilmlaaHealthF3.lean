/-
  WALKS: the document's answer of chapter 36: one less. Condition: at most 300 calls were made.
-/
import Derived.Test.YtgbdbeaflilmlaaHealthF2
set_option linter.unusedVariables false
set_option linter.unusedSimpArgs false
namespace Go.Proofs.Ytgbdbeaflilmlaa
open Go.RowKit Go.Maps

theorem delL_at {n : Int} : ∀ {l : List BK} {i : Nat} {x : BK}, (nodesC l).Nodup → l[i]? = some x → x.node = n → delL n l = l.take i ++ l.drop (i + 1)
  | [], i, x, _, h, _ => by simp at h
  | b :: l, 0, x, hd, h, hx => by
    simp at h; subst h
    unfold nodesC at hd
    rw [List.map_cons, List.nodup_cons] at hd
    have h1 : delL n l = l := List.filter_eq_self.2 (fun y hy => by
      have : y.node ≠ n := fun e2 => hd.1 (List.mem_map.2 ⟨y, hy, e2.trans hx.symm⟩)
      simp [this])
    have h2 : delL n (b :: l) = delL n l := by simp [delL, hx]
    rw [h2, h1]; simp
  | b :: l, i + 1, x, hd, h, hx => by
    have hd' := hd
    unfold nodesC at hd
    rw [List.map_cons, List.nodup_cons] at hd
    simp at h
    have hb : b.node ≠ n := fun e => hd.1 (List.mem_map.2 ⟨x, List.mem_of_getElem? h, hx.trans e.symm⟩)
    have ih := delL_at (l := l) hd.2 h hx
    have h2 : delL n (b :: l) = b :: delL n l := by simp [delL, hb]
    rw [h2, ih]; simp

set_option maxRecDepth 100000 in
set_option maxHeartbeats 2000000 in
theorem rrem_any {w : World} {v : Value} {c : CK} {K : Nat} (h : OwR w v c.l) (hci : CI K c) (hK : K ≤ 300) (n : Int) :
    Calls Try.prog 19 #[.agg #[.int .i64 c.now, v], .int .i64 n] w (CRPost w v (remC c n)) := by
  have HP : Hid (∀ e w', CRPost w v (remC c n) e w' = ∃ v', e = .returned (.tuple #[.agg #[.int .i64 (remC c n).1.now, v'], .bool (remC c n).2]) ∧ RefTo w v (remC c n).1.l v' w') := Lib.hid fun _ _ => rfl
  obtain ⟨A, cp, rfl⟩ := Sl.form h.sl
  have hl := hci.len
  have hA1 := (Chg.refl [] w).alloc (.cells #[.int .i64 c.now, .slice A c.l.length cp] 41)
  have hBp1 : Blk (w.alloc (.cells #[.int .i64 c.now, .slice A c.l.length cp] 41)) w.heap.size 41 #[.int .i64 c.now, .slice A c.l.length cp] := Blk.new _ _ _
  have hA2 := hA1.alloc (.cells #[.int .i64 0, .slice none 0 0] 41)
  have hBp2 := hBp1.alloc (.cells #[.int .i64 0, .slice none 0 0] 41)
  have hBr2 : Blk ((w.alloc (.cells #[.int .i64 c.now, .slice A c.l.length cp] 41)).alloc (.cells #[.int .i64 0, .slice none 0 0] 41)) (w.heap.size + 1) 41 #[.int .i64 0, .slice none 0 0] := Blk.new' (by simp)
  generalize hw2 : (w.alloc (.cells #[.int .i64 c.now, .slice A c.l.length cp] 41)).alloc (.cells #[.int .i64 0, .slice none 0 0] 41) = w2 at *
  have hsz2 : w2.heap.size = w.heap.size + 2 := by rw [← hw2]; simp
  generalize hgp : w.heap.size = gp at *
  have HSAME : Hid (∀ w', Chg [gp + 1] w2 w' → RefTo w (.slice A c.l.length cp) c.l (.slice A c.l.length cp) w') := Lib.hid fun w' hc => RefTo.same h (hA2.trans' hc (by intro x hx; simp at hx; subst hx; exact .inr (by omega)))
  clear hA1 hBp1
  have HR := Lib.hid (fun W (hc : Chg [] w2 W) => (hBp2.chg hc (by simp)).rangeQ)
  have HBR := Lib.hid (fun W (hc : Chg [] w2 W) => hBr2.chg hc (by simp))
  have hR2 := Lib.hid hBp2.rangeQ
  by_cases hin : n ∈ nodesC c.l
  · obtain ⟨i, x, hi, hx, hj⟩ := find_at hin
    have e1 : Hid (remC c n = (⟨c.now, c.l.take i ++ c.l.drop (i + 1)⟩, true)) := Lib.hid (by
      unfold remC
      rw [if_pos (inC_nodes.2 hin)]
      have := delL_at hci.nodup hi hx
      unfold delL at this
      rw [this])
    have F1 := Lib.hid (rfind_any c.now n (h.sl.chg0 hA2) (by omega) (r := (i : Int)) (.inr ⟨i, x, rfl, hi, hx, hj⟩))
    have hil := (List.getElem?_eq_some_iff.1 hi).1
    have HC1 := Lib.hid (fun W (hc : Chg [] w2 W) => (show W.cell? ⟨gp, 1, none⟩ = some (.slice A c.l.length cp) from (hBp2.chg hc (by simp)).cell 1))
    have HB := Lib.hid (fun W (hc : Chg [] w2 W) => hBp2.chg hc (by simp))
    have HSL := Lib.hid (fun W (hc : Chg [] w2 W) => (h.sl.chg0 (hA2.trans hc)))
    have HCW := Lib.hid hA2
    have hii : (0 : Int) ≤ (i : Int) := by omega
    clear h hci hA2 hin hi hx hj hBp2 hBr2 HSAME
    obtain ⟨now, l⟩ := c
    simp only at *
    generalize hN : l.length = N at *
    go_enter Try.func19, Try.ntmps19
    go_wp2_with (first
      | (refine wpList_row 41 (.tmp 2) rfl rfl gp 0 rfl _ _ hR2.out Try.underlying41 rfl infRC ?_)
      | fail)
    refine F1.out.mono ?_
    rintro e wc ⟨rfl, hcw⟩
    have c1 := HC1.out wc hcw
    have hS2 : Sl wc 0 7 (.slice A N cp) N (l.flatMap encR) := by
      have := HSL.out wc hcw
      unfold SlR at this
      rwa [hN] at this
    obtain ⟨ct1, ct2⟩ := cut_to elR hS2 (show i ≤ N by omega)
    obtain ⟨X, cf1, cf2⟩ := cut_from elR hS2 (show i + 1 ≤ N by omega)
    have hle : w2.heap.size ≤ wc.heap.size := hcw.size
    have hown0 : (wc.alloc (.cells #[] 46)).ownsRow wc.heap.size 46 7 (.slice (some ⟨wc.heap.size, 0, none⟩) 0 0) 0 [] := by
      have := own_lit (base := wc.heap.size) wc 46 7 0 #[] (Nat.le_refl _) (by simp [maxLen]) rfl
      simpa using this
    have hA1 := (Chg.refl [] wc).alloc (.cells #[] 46)
    have hct := ct2.chg0 hA1
    have hone1 : Hid (∀ u ∈ (l.flatMap encR).take (i * 7), u.oneCell' = true) := Lib.hid fun u hu => flat_one encR_one l u (List.mem_of_mem_take hu)
    have hone2 : Hid (∀ u ∈ (l.flatMap encR).drop ((i + 1) * 7), u.oneCell' = true) := Lib.hid fun u hu => flat_one encR_one l u (List.mem_of_mem_drop hu)
    have hkI : (i : Int) ≤ (N : Int) := by omega
    have hkI2 : (i : Int) + 1 ≤ (N : Int) := by omega
    have cf1' : ∀ W : World, (Instr.slice 39 (.slice A N cp) (some (.int .i64 ((i : Int) + 1))) none none).run Try.prog W = .ok (.slice X (N - (i + 1)) (cp - (i + 1))) W := fun W => by
      have := cf1 W
      rwa [show ((i + 1 : Nat) : Int) = (i : Int) + 1 by omega] at this
    have hwn : IntKind.i64.wrap ((i : Int) + 1) = (i : Int) + 1 := by rw [IntKind.wrap_i64]; omega
    have HCF := Lib.hid cf2
    have HA1 := Lib.hid hA1
    have c1a : (wc.alloc (.cells #[] 46)).cell? ⟨gp, 1, none⟩ = some (.slice A N cp) := hA1.cell c1 (by simp)
    have HCW1 := Lib.hid hcw
    clear hS2 ct2 cf2 cf1 hA1 hcw HSL F1 hR2
    generalize hT1 : (l.flatMap encR).take (i * 7) = T1 at *
    generalize hT2 : (l.flatMap encR).drop ((i + 1) * 7) = T2 at *
    have HT := Lib.hid (And.intro hT1 hT2)
    clear hT1 hT2
    go_wp2_with (first
      | (at_builtin; refine wpList_app elR rfl (.tmp 14) (.tmp 18) rfl wc.heap.size rfl hown0 rfl hct hone1.out (by unfold maxLen; omega) (by omega) (by simp) ?_; intro v6 w6 hown6 hc6 hb6; have hlt0 := own_lt hown0; have hC6 : Chg [] wc w6 := HA1.out.trans' hc6 (fun x hx => .inr (by have := (hlt0 x hx).1; omega)); have hD6 := HCW1.out.trans hC6; have k1 := HC1.out w6 hD6; have hz6 := hC6.size; have hcf6 := HCF.out.chg0 hC6; have hlt6 := own_lt hown6; have HK6 := HB.out w6 hD6; clear hct hc6 hb6 c1 c1a hlt0)
      | (at_builtin; refine wpList_app elR rfl (.tmp 20) (.tmp 25) rfl wc.heap.size rfl hown6 rfl hcf6 hone2.out (by unfold maxLen; omega) (by omega) (by omega) ?_; intro v7 w7 hown7 hc7 hb7; rw [show 0 + i + (N - (i + 1)) = N - 1 by omega] at hown7; have hC7 : Chg [] wc w7 := hC6.trans' hc7 (fun x hx => .inr (by have := (hlt6 x hx).1; omega)); have hD7 := HCW1.out.trans hC7; have HK7 := HB.out w7 hD7; obtain ⟨A7, cap7, rfl⟩ := Sl.form (Sl.of_own hown7); have q7 := HK7.cell 1; have f7 := HK7.frozen 1; have l7 := HK7.lt; have R7 := Lib.hid (HK7.set_ 1 (.slice A7 (N - 1) cap7)).rangeQ; have hB7 := HBR.out w7 hD7; have hB8 := hB7.far (p := ⟨gp, 1, none⟩) (by simp) (.slice A7 (N - 1) cap7); clear hc7 hb7 hcf6 hlt6 hC6 k1 HK6 hB7)
      | (refine wpList_row 41 (.tmp 2) rfl rfl gp 0 rfl _ _ R7.out Try.underlying41 rfl infRC ?_)
      | (refine wpList_store_blk rfl 41 _ _ rfl rfl hB8 rfl rfl rfl (by kernel_rfl) rfl ?_; intro w9 hB9 hc9)
      | fail)
    refine bodyPost_ret (results_blk2 rfl rfl hB9 _ Try.underlying41 rfl (by kernel_rfl)) rfl ?_
    rw [HP.out, e1.out]
    have hfl : T1 ++ T2 = (l.take i ++ l.drop (i + 1)).flatMap encR := by
      rw [← HT.out.1, ← HT.out.2, flat_take encR_len, flat_drop encR_len]
      simp
    have hll : (l.take i ++ l.drop (i + 1)).length = N - 1 := by simp [hN]; omega
    have hz7 := hC7.size
    have hcS : Chg [gp, gp + 1] w7 w9 := (((Chg.refl [gp] w7).setCell (p := ⟨gp, 1, none⟩) (.inl (by simp)) _).more (by simp)).trans (hc9.more (by simp))
    have hlt7 := own_lt hown7
    have hrow : OwR w9 (.slice A7 (N - 1) cap7) (l.take i ++ l.drop (i + 1)) := by
      unfold OwR
      rw [hll, ← hfl]
      have h8 := own_chg hown7 hcS (by intro x hx hm; have := (hlt7 x hx).1; simp at hm; omega)
      have h9 := own_zero' h8
      simpa using h9
    exact ⟨_, rfl, hrow, (HCW.out.trans hD7).trans' hcS (by intro x hx; simp at hx; rcases hx with rfl | rfl <;> exact .inr (by omega)), fun x hx => .inr (by have := (hlt7 x hx).1; omega)⟩
  · have e1 : Hid (remC c n = (c, false)) := Lib.hid (by unfold remC; rw [if_neg (fun h => hin (inC_nodes.1 h))])
    have hnone := not_nodes hin
    have F1 := Lib.hid (rfind_any c.now n (h.sl.chg0 hA2) (by omega) (r := -1) (.inl ⟨rfl, hnone⟩))
    clear h hci hA2 hin hnone hBp2 hBr2
    go_enter Try.func19, Try.ntmps19
    go_wp2_with (first
      | (refine wpList_row 41 (.tmp 2) rfl rfl gp 0 rfl _ _ hR2.out Try.underlying41 rfl infRC ?_)
      | fail)
    refine F1.out.mono ?_
    rintro e w3 ⟨rfl, hc3⟩
    have hR3 := Lib.hid (HR.out w3 hc3)
    have hB3 := HBR.out w3 hc3
    clear hR2
    go_wp2_with (first
      | (refine wpList_row 41 (.tmp 2) rfl rfl gp 0 rfl _ _ hR3.out Try.underlying41 rfl infRC ?_)
      | (refine wpList_store_blk rfl 41 _ _ rfl rfl hB3 rfl rfl rfl (by kernel_rfl) rfl ?_; intro w5 hB5 hc5)
      | fail)
    refine bodyPost_ret (results_blk2 rfl rfl hB5 _ Try.underlying41 rfl (by kernel_rfl)) rfl ?_
    rw [HP.out, e1.out]
    exact ⟨_, rfl, HSAME.out w5 ((hc3.more (by simp)).trans hc5)⟩
end Go.Proofs.Ytgbdbeaflilmlaa
