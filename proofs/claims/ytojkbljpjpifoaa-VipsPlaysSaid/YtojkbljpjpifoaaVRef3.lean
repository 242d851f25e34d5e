/-
  WALKS: the document's answer of chapter 34: one more, one less, an address asked for. Condition: the row is at most 8 services.
-/
import Derived.Test.YtojkbljpjpifoaaVRef
import Derived.Test.YtojkbljpjpifoaaVRef2
import Derived.Deep.RegionHeld3
import Derived.Deep.DeepCutAuto
import Derived.Deep.CutBlock
set_option linter.unusedVariables false
set_option linter.unusedSimpArgs false
namespace Go.Proofs.Ytojkbljpjpifoaa
open Go.RowKit Go.Maps

theorem tw_at {s : Sv} : ∀ {l : List Sv} {k : Nat}, (∀ j x, j < k → l[j]? = some x → ltS x s = true) → k ≤ l.length → (∀ x, l[k]? = some x → ltS x s = false) → l.takeWhile (fun x => ltS x s) = l.take k ∧ l.dropWhile (fun x => ltS x s) = l.drop k
  | [], 0, _, _, _ => ⟨rfl, rfl⟩
  | y :: l, 0, _, _, h => by
    have h0 := h y rfl
    rw [List.takeWhile_cons_of_neg (p := fun x => ltS x s) (by simp [h0]), List.dropWhile_cons_of_neg (p := fun x => ltS x s) (by simp [h0])]
    exact ⟨rfl, rfl⟩
  | y :: l, k + 1, h, hk, h' => by
    have h0 := h 0 y (by omega) rfl
    obtain ⟨i1, i2⟩ := tw_at (l := l) (k := k) (fun j x hj hx => h (j + 1) x (by omega) (by simpa using hx)) (by simpa using hk) (fun x hx => h' x (by simpa using hx))
    rw [List.takeWhile_cons_of_pos (p := fun x => ltS x s) h0, List.dropWhile_cons_of_pos (p := fun x => ltS x s) h0, i1, i2]
    exact ⟨rfl, rfl⟩
theorem insS_at {s : Sv} {l : List Sv} {k : Nat} (h : l.takeWhile (fun x => ltS x s) = l.take k ∧ l.dropWhile (fun x => ltS x s) = l.drop k) : insS s l = l.take k ++ ([s] ++ l.drop k) := by unfold insS; rw [h.1, h.2]; rfl
theorem lit34 (w : World) (s : Sv) : Sl (w.alloc (.cells (arrS s) 59)) 0 17 (.slice (some ⟨w.heap.size, 0, none⟩) 1 1) 1 (encS s) :=
  Sl.of_own (own_lit (base := 0) w 59 17 1 (arrS s) (Nat.zero_le _) (by simp [maxLen]) rfl)

theorem sub16 {w : World} {g o : Nat} {x : Sv} (h : w.rangeAt g o (arrS x).toList) : w.rangeAt g o (arrA x.ad).toList := fun j u hu => by
  refine h j u ?_
  have hj : j < 16 := (List.getElem?_eq_some_iff.1 hu).1
  have e : (arrS x).toList = (arrA x.ad).toList ++ [.int .i64 x.port] := rfl
  rw [e, List.getElem?_append_left hj]
  exact hu
def AddPost (w : World) (B : Nat) (l : List Sv) (s : Sv) (e : Ending) (w' : World) : Prop := ∃ v', e = .returned (.tuple #[v', .int .i64 (addS l s).2]) ∧ SlS w' B v' (addS l s).1 ∧ Chg [] w w'
set_option maxRecDepth 100000 in
set_option maxHeartbeats 4000000 in
theorem radd_any {w : World} {B : Nat} {v : Value} {l : List Sv} (s : Sv) (h : SlS w B v l) (hB : B ≤ w.heap.size) (hl : LI l) (hs : okS s) : Calls Try.prog 23 #[v, s.v] w (AddPost w B l s) := by
  obtain ⟨A, c, rfl⟩ := Sl.form h
  have hA := (Chg.refl [] w).alloc (.cells (arrS s) 59)
  have hBl : Blk (w.alloc (.cells (arrS s) 59)) w.heap.size 59 (arrS s) := Blk.new _ _ _
  have FS := Lib.hid (fun W => rsplit_any hs.1 W)
  have FN := Lib.hid (fun W (hc : Chg [] w W) (hm : s ∉ l) => find_no (w := W) (Sl.chg0 h hc) (by have := hl.len; omega) (fun x hx => (hl.ok x hx).1) hs hm)
  have FY := Lib.hid (fun W (hc : Chg [] w W) (hm : s ∈ l) => find_yes (w := W) (Sl.chg0 h hc) (by have := hl.len; omega) (fun x hx => (hl.ok x hx).1) hs hm)
  have HP : Hid (∀ e w', AddPost w B l s e w' = ∃ v', e = .returned (.tuple #[v', .int .i64 (addS l s).2]) ∧ SlS w' B v' (addS l s).1 ∧ Chg [] w w') := Lib.hid fun _ _ => rfl
  have HAd : Hid (addS l s = if s.port < 1 ∨ 65535 < s.port then (l, 2) else if ownA s.ad = true then (l, 5) else if s ∈ l then (l, 9) else if 8 ≤ l.length then (l, 8) else (insS s l, 0)) := Lib.hid rfl
  have HS0 := Lib.hid h
  have HX : Hid (∀ i, i < l.length → ∃ x, l[i]? = some x ∧ okS x) := Lib.hid fun i hi => ⟨_, List.getElem?_eq_getElem hi, (hl.ok _ (List.getElem_mem hi)).1⟩
  have hsz : ∃ x y u : Int, splitV s.ad = .tuple #[sidV x y u, .bool (ownA s.ad)] := by
    unfold splitV
    cases ownA s.ad
    · exact ⟨0, 0, 0, rfl⟩
    · exact ⟨_, _, _, rfl⟩
  obtain ⟨x0, y0, u0, hz⟩ := hsz
  rw [hz] at FS
  have HA := Lib.hid hA
  have HBl := Lib.hid hBl
  have k16 := hBl.cell 16
  simp only [List.getElem?_toArray, List.getElem?_cons_succ, List.getElem?_cons_zero] at k16
  have HOk := Lib.hid hs
  have hl8 := hl.len
  have HB := Lib.hid hB
  clear h hl hs hz hB
  by_cases hp : s.port < 1 ∨ 65535 < s.port
  · have e1 : Hid (addS l s = (l, 2)) := Lib.hid (by rw [HAd.out, if_pos hp])
    rcases (show s.port < 1 ∨ (¬ s.port < 1 ∧ 65535 < s.port) by omega) with h1 | ⟨h1, h2⟩
    all_goals
      clear hp hA hBl
      go_enter Try.func23, Try.ntmps23
      go_wp2_with fail
      go_ret2
      rw [HP.out, e1.out]
      exact ⟨_, rfl, Sl.chg0 HS0.out HA.out, HA.out⟩
  · have hp1 : ¬ s.port < 1 := by omega
    have hp2 : ¬ 65535 < s.port := by omega
    generalize hown : ownA s.ad = ow at *
    clear hBl hA
    cases ow with
    | true =>
      have e1 : Hid (addS l s = (l, 5)) := Lib.hid (by rw [HAd.out, if_neg hp]; simp)
      clear hp
      go_enter Try.func23, Try.ntmps23
      go_wp2_with fail
      refine (FS.out _).mono ?_
      rintro e w1 ⟨rfl, hc1⟩
      have hc2 := HA.out.trans hc1
      go_wp2_with fail
      go_ret2
      rw [HP.out, e1.out]
      exact ⟨_, rfl, Sl.chg0 HS0.out (hc2.alloc _), hc2.alloc _⟩
    | false =>
      go_enter Try.func23, Try.ntmps23
      go_wp2_with fail
      refine (FS.out _).mono ?_
      rintro e w1 ⟨rfl, hc1⟩
      have hc2 := (HA.out.trans hc1).alloc (.cells #[.int .i64 x0, .int .i64 y0, .int .u32 u0] 86)
      have hb2 := (HBl.out.chg hc1 (by simp)).alloc (.cells #[.int .i64 x0, .int .i64 y0, .int .u32 u0] 86)
      have hz1 : w.heap.size < w1.heap.size := by have := hc1.size; simp at this; omega
      clear hc1 FS k16
      by_cases hm : s ∈ l
      · have e1 : Hid (addS l s = (l, 9)) := Lib.hid (by rw [HAd.out, if_neg hp, if_neg (by simp), if_pos hm])
        have F1 := Lib.hid (FY.out _ hc2 hm)
        clear hp hm FN FY
        go_wp2_with (first
          | (refine wpList_load_blk rfl 59 (.tmp 3) rfl hb2 rfl _ Try.underlying59 rfl infS34 ?_)
          | fail)
        refine F1.out.mono ?_
        rintro e w3 ⟨i, rfl, _, hc3⟩
        have hi0 : (0 : Int) ≤ (i : Int) := by omega
        go_wp2_with fail
        go_ret2
        rw [HP.out, e1.out]
        exact ⟨_, rfl, Sl.chg0 HS0.out (hc2.trans hc3), hc2.trans hc3⟩
      · have F1 := Lib.hid (FN.out _ hc2 hm)
        have HM := Lib.hid hm
        by_cases h8 : 8 ≤ l.length
        · have e1 : Hid (addS l s = (l, 8)) := Lib.hid (by rw [HAd.out, if_neg hp, if_neg (by simp), if_neg hm, if_pos h8])
          clear hp hm FN FY
          generalize hn : l.length = n at *
          go_wp2_with (first
            | (refine wpList_load_blk rfl 59 (.tmp 3) rfl hb2 rfl _ Try.underlying59 rfl infS34 ?_)
            | fail)
          refine F1.out.mono ?_
          rintro e w3 ⟨rfl, hc3⟩
          go_wp2_with fail
          go_ret2
          rw [HP.out, e1.out]
          subst hn
          exact ⟨_, rfl, Sl.chg0 HS0.out (hc2.trans hc3), hc2.trans hc3⟩
        · have e1 : Hid (addS l s = (insS s l, 0)) := Lib.hid (by rw [HAd.out, if_neg hp, if_neg (by simp), if_neg hm, if_neg h8])
          clear hp hm FN FY
          have HS1 := Lib.hid (fun W (hc : Chg [] w W) => (show SlS W B (.slice A l.length c) l from Sl.chg0 HS0.out hc))
          generalize hn : l.length = n at *
          go_wp2_with (first
            | (refine wpList_load_blk rfl 59 (.tmp 3) rfl hb2 rfl _ Try.underlying59 rfl infS34 ?_)
            | fail)
          refine F1.out.mono ?_
          rintro e w3 ⟨rfl, hc3⟩
          have hc4 := hc2.trans hc3
          have hb4 := hb2.chg hc3 (by simp)
          clear hc2 hc3 hb2 F1
          go_upto_block 0 with fail
          go_cut [8] (fun xv wx => ∃ k : Nat, k ≤ n ∧ xv = .int .i64 k ∧ Hid (l.takeWhile (fun x => ltS x s) = l.take k ∧ l.dropWhile (fun x => ltS x s) = l.drop k) ∧ Chg [] w3 wx)
          case first =>
            go_wp2_with fail
            go_loopw [8] (fun iv wr => ∃ k : Nat, k ≤ n ∧ iv = .int .i64 k ∧ Hid (∀ j x, j < k → l[j]? = some x → ltS x s = true) ∧ Chg [] w3 wr) (fun iv _ => n - (intOf iv).toNat)
            case atStart => exact ⟨0, by omega, rfl, Lib.hid (fun j x hj => absurd hj (by omega)), Chg.refl _ _⟩
            case round =>
              obtain ⟨k, hk, rfl, hlow, hcw⟩ := hrel
              have hkn := hn
              by_cases hlt : k < n
              · obtain ⟨x, hx, hxo⟩ := HX.out k (by omega)
                obtain ⟨b, o, rfl, hr⟩ := (HS1.out wr (hc4.trans hcw)).one hn hx
                have HH : Hid (∀ W, Chg [] w3 W → W.rangeAt b (o + k * 17) (arrA x.ad).toList ∧ W.cell? ⟨b, o + k * 17 + 16, none⟩ = some (.int .i64 x.port) ∧ W.rangeAt w.heap.size 0 (arrA s.ad).toList ∧ W.cell? ⟨w.heap.size, 16, none⟩ = some (.int .i64 s.port)) := Lib.hid fun W hc => by
                  obtain ⟨b', o', hA', hr'⟩ := (HS1.out W (hc4.trans hc)).one hn hx
                  simp only [Option.some.injEq, Addr.mk.injEq, and_true] at hA'
                  obtain ⟨rfl, rfl⟩ := hA'
                  have hb := hb4.chg hc (by simp)
                  exact ⟨sub16 hr', hr' 16 _ rfl, sub16 hb.rangeQ, hb.cell 16⟩
                have HL := Lib.hid (fun W => less03 hxo.1 HOk.out.1 W)
                have hee := fun W => eq_ad W hxo.1 HOk.out.1
                have hmx : Try.prog.follows .mixedOrders = true := by kernel_rfl
                have HLt := Lib.hid (@ltS_iff x s)
                have HLo1 : Hid (ltS x s = true → ∀ j y, j < k + 1 → l[j]? = some y → ltS y s = true) := Lib.hid fun h j y hj hy => by
                  by_cases e : j = k
                  · subst e; rw [hx] at hy; cases hy; exact h
                  · exact hlow.out j y (by omega) hy
                have HTw1 : Hid (ltS x s = false → l.takeWhile (fun x => ltS x s) = l.take k ∧ l.dropWhile (fun x => ltS x s) = l.drop k) := Lib.hid fun h =>
                  tw_at hlow.out (by omega) (fun y hy => by rw [hx] at hy; cases hy; exact h)
                clear hr hx hxo HX HS1 HOk hc4 hb4 hlow HM HBl HB HP HAd HS0 HA e1
                by_cases hless : lessA x.ad s.ad = true
                · have HLo := Lib.hid (HLo1.out (HLt.out.2 (.inl hless)))
                  rw [hless] at HL
                  clear hless HLo1 HTw1 HLt hee
                  go_wp2_with fail
                  have hcl := fun n os => (HH.out _ (hcw.trans (grown_chg ⟨⟨n, os⟩, rfl⟩))).2.1
                  have hcl2 := fun n os => (HH.out _ (hcw.trans (grown_chg ⟨⟨n, os⟩, rfl⟩))).2.2.2
                  have HC1 := Lib.hid (fun W (hW : ∃ p : GrownBy, W = Go.Sort.grow (wr.drewN p.n) p.os) => (HH.out W (hcw.trans (grown_chg hW))).1)
                  have HC2 := Lib.hid (fun W (hW : ∃ p : GrownBy, W = Go.Sort.grow (wr.drewN p.n) p.os) => (HH.out W (hcw.trans (grown_chg hW))).2.2.1)
                  have HC3 := Lib.hid (fun W (hW : ∃ p : GrownBy, W = Go.Sort.grow (wr.drewN p.n) p.os) => hcw.trans (grown_chg hW))
                  clear HH
                  have HLg : Hid (∀ n os, Calls Try.prog 37 #[x.ad.v, s.ad.v] (Go.Sort.grow (wr.drewN n) os) fun e w'' => e = .returned (.bool true) ∧ ∃ p : GrownBy, w'' = Go.Sort.grow (wr.drewN p.n) p.os) := Lib.hid fun n os => Calls.grown_of (HL.out _)
                  refine wp_region_quiet_grown hmx (by kernel_rfl) ?_
                  repeat (first
                    | ((with_reducible refine wpQuiet_rowC 55 (.tmp 44) ?_ ?_ b _ ?_ (arrA x.ad) _ HC1.out Try.underlying55 ?_ infA ?_); (focus rfl); (focus rfl); (focus rfl); (focus rfl); (simp only [Act.put, List.setIfInBounds_toArray, List.set_cons_zero, List.set_cons_succ]))
                    | ((with_reducible refine wpQuiet_rowC 55 (.tmp 46) ?_ ?_ _ 0 ?_ (arrA s.ad) _ HC2.out Try.underlying55 ?_ infA ?_); (focus rfl); (focus rfl); (focus rfl); (focus rfl); (simp only [Act.put, List.setIfInBounds_toArray, List.set_cons_zero, List.set_cons_succ]))
                    | ((with_reducible refine wpQuiet_rowC 55 (.tmp 53) ?_ ?_ b _ ?_ (arrA x.ad) _ HC1.out Try.underlying55 ?_ infA ?_); (focus rfl); (focus rfl); (focus rfl); (focus rfl); (simp only [Act.put, List.setIfInBounds_toArray, List.set_cons_zero, List.set_cons_succ]))
                    | ((with_reducible refine wpQuiet_rowC 55 (.tmp 55) ?_ ?_ _ 0 ?_ (arrA s.ad) _ HC2.out Try.underlying55 ?_ infA ?_); (focus rfl); (focus rfl); (focus rfl); (focus rfl); (simp only [Act.put, List.setIfInBounds_toArray, List.set_cons_zero, List.set_cons_succ]))
                    | ((with_reducible refine wpQuiet_skip ?_ ?_); (focus rfl); (simp only [Act.put, List.setIfInBounds_toArray, List.set_cons_zero, List.set_cons_succ]))
                    | ((with_reducible refine wpQuiet_do ?_ (fun K hK => ?_)); (focus rfl); go_simp; first | (refine hK _ ?_; clear hK K) | (apply Exists.intro; refine ⟨fun _ => ?_, hK _ ?_⟩; (exact HLg.out _ _); clear hK K)))
                  with_reducible refine wpQuiet_nil ?_
                  intro wq hw'
                  have hfin := HC3.out wq hw'
                  clear HC1 HC2 HC3 hcl hcl2 HLg
                  all_goals
                    go_wp2_with fail
                    go_roundw
                    case rel => exact ⟨k + 1, by omega, by go_num, HLo, hfin⟩
                    case measure => simp [intOf]; omega
                · have hl0 : lessA x.ad s.ad = false := by simpa using hless
                  rw [hl0] at HL
                  by_cases had : x.ad = s.ad
                  · have hdd : decide (x.ad = s.ad) = true := by simp [had]
                    simp only [hdd] at hee
                    by_cases hpt : x.port < s.port
                    · have HLo := Lib.hid (HLo1.out (HLt.out.2 (.inr ⟨had, hpt⟩)))
                      clear hless HLo1 HTw1 HLt had hdd hl0
                      go_wp2_with fail
                      have hcl := fun n os => (HH.out _ (hcw.trans (grown_chg ⟨⟨n, os⟩, rfl⟩))).2.1
                      have hcl2 := fun n os => (HH.out _ (hcw.trans (grown_chg ⟨⟨n, os⟩, rfl⟩))).2.2.2
                      have HC1 := Lib.hid (fun W (hW : ∃ p : GrownBy, W = Go.Sort.grow (wr.drewN p.n) p.os) => (HH.out W (hcw.trans (grown_chg hW))).1)
                      have HC2 := Lib.hid (fun W (hW : ∃ p : GrownBy, W = Go.Sort.grow (wr.drewN p.n) p.os) => (HH.out W (hcw.trans (grown_chg hW))).2.2.1)
                      have HC3 := Lib.hid (fun W (hW : ∃ p : GrownBy, W = Go.Sort.grow (wr.drewN p.n) p.os) => hcw.trans (grown_chg hW))
                      clear HH
                      have HLg : Hid (∀ n os, Calls Try.prog 37 #[x.ad.v, s.ad.v] (Go.Sort.grow (wr.drewN n) os) fun e w'' => e = .returned (.bool false) ∧ ∃ p : GrownBy, w'' = Go.Sort.grow (wr.drewN p.n) p.os) := Lib.hid fun n os => Calls.grown_of (HL.out _)
                      refine wp_region_quiet_grown hmx (by kernel_rfl) ?_
                      repeat (first
                        | ((with_reducible refine wpQuiet_rowC 55 (.tmp 44) ?_ ?_ b _ ?_ (arrA x.ad) _ HC1.out Try.underlying55 ?_ infA ?_); (focus rfl); (focus rfl); (focus rfl); (focus rfl); (simp only [Act.put, List.setIfInBounds_toArray, List.set_cons_zero, List.set_cons_succ]))
                        | ((with_reducible refine wpQuiet_rowC 55 (.tmp 46) ?_ ?_ _ 0 ?_ (arrA s.ad) _ HC2.out Try.underlying55 ?_ infA ?_); (focus rfl); (focus rfl); (focus rfl); (focus rfl); (simp only [Act.put, List.setIfInBounds_toArray, List.set_cons_zero, List.set_cons_succ]))
                        | ((with_reducible refine wpQuiet_rowC 55 (.tmp 53) ?_ ?_ b _ ?_ (arrA x.ad) _ HC1.out Try.underlying55 ?_ infA ?_); (focus rfl); (focus rfl); (focus rfl); (focus rfl); (simp only [Act.put, List.setIfInBounds_toArray, List.set_cons_zero, List.set_cons_succ]))
                        | ((with_reducible refine wpQuiet_rowC 55 (.tmp 55) ?_ ?_ _ 0 ?_ (arrA s.ad) _ HC2.out Try.underlying55 ?_ infA ?_); (focus rfl); (focus rfl); (focus rfl); (focus rfl); (simp only [Act.put, List.setIfInBounds_toArray, List.set_cons_zero, List.set_cons_succ]))
                        | ((with_reducible refine wpQuiet_skip ?_ ?_); (focus rfl); (simp only [Act.put, List.setIfInBounds_toArray, List.set_cons_zero, List.set_cons_succ]))
                        | ((with_reducible refine wpQuiet_do ?_ (fun K hK => ?_)); (focus rfl); go_simp; first | (refine hK _ ?_; clear hK K) | (apply Exists.intro; refine ⟨fun _ => ?_, hK _ ?_⟩; (exact HLg.out _ _); clear hK K)))
                      with_reducible refine wpQuiet_nil ?_
                      intro wq hw'
                      have hfin := HC3.out wq hw'
                      clear HC1 HC2 HC3 hcl hcl2 HLg
                      all_goals
                        go_wp2_with fail
                        go_roundw
                        case rel => exact ⟨k + 1, by omega, by go_num, HLo, hfin⟩
                        case measure => simp [intOf]; omega
                    · have HTw := Lib.hid (HTw1.out (by cases e : ltS x s with | false => rfl | true => exact absurd (HLt.out.1 e) (by rw [hl0]; simp; omega)))
                      clear hless HLo1 HTw1 HLt had hdd hl0
                      go_wp2_with fail
                      have hcl := fun n os => (HH.out _ (hcw.trans (grown_chg ⟨⟨n, os⟩, rfl⟩))).2.1
                      have hcl2 := fun n os => (HH.out _ (hcw.trans (grown_chg ⟨⟨n, os⟩, rfl⟩))).2.2.2
                      have HC1 := Lib.hid (fun W (hW : ∃ p : GrownBy, W = Go.Sort.grow (wr.drewN p.n) p.os) => (HH.out W (hcw.trans (grown_chg hW))).1)
                      have HC2 := Lib.hid (fun W (hW : ∃ p : GrownBy, W = Go.Sort.grow (wr.drewN p.n) p.os) => (HH.out W (hcw.trans (grown_chg hW))).2.2.1)
                      have HC3 := Lib.hid (fun W (hW : ∃ p : GrownBy, W = Go.Sort.grow (wr.drewN p.n) p.os) => hcw.trans (grown_chg hW))
                      clear HH
                      have HLg : Hid (∀ n os, Calls Try.prog 37 #[x.ad.v, s.ad.v] (Go.Sort.grow (wr.drewN n) os) fun e w'' => e = .returned (.bool false) ∧ ∃ p : GrownBy, w'' = Go.Sort.grow (wr.drewN p.n) p.os) := Lib.hid fun n os => Calls.grown_of (HL.out _)
                      refine wp_region_quiet_grown hmx (by kernel_rfl) ?_
                      repeat (first
                        | ((with_reducible refine wpQuiet_rowC 55 (.tmp 44) ?_ ?_ b _ ?_ (arrA x.ad) _ HC1.out Try.underlying55 ?_ infA ?_); (focus rfl); (focus rfl); (focus rfl); (focus rfl); (simp only [Act.put, List.setIfInBounds_toArray, List.set_cons_zero, List.set_cons_succ]))
                        | ((with_reducible refine wpQuiet_rowC 55 (.tmp 46) ?_ ?_ _ 0 ?_ (arrA s.ad) _ HC2.out Try.underlying55 ?_ infA ?_); (focus rfl); (focus rfl); (focus rfl); (focus rfl); (simp only [Act.put, List.setIfInBounds_toArray, List.set_cons_zero, List.set_cons_succ]))
                        | ((with_reducible refine wpQuiet_rowC 55 (.tmp 53) ?_ ?_ b _ ?_ (arrA x.ad) _ HC1.out Try.underlying55 ?_ infA ?_); (focus rfl); (focus rfl); (focus rfl); (focus rfl); (simp only [Act.put, List.setIfInBounds_toArray, List.set_cons_zero, List.set_cons_succ]))
                        | ((with_reducible refine wpQuiet_rowC 55 (.tmp 55) ?_ ?_ _ 0 ?_ (arrA s.ad) _ HC2.out Try.underlying55 ?_ infA ?_); (focus rfl); (focus rfl); (focus rfl); (focus rfl); (simp only [Act.put, List.setIfInBounds_toArray, List.set_cons_zero, List.set_cons_succ]))
                        | ((with_reducible refine wpQuiet_skip ?_ ?_); (focus rfl); (simp only [Act.put, List.setIfInBounds_toArray, List.set_cons_zero, List.set_cons_succ]))
                        | ((with_reducible refine wpQuiet_do ?_ (fun K hK => ?_)); (focus rfl); go_simp; first | (refine hK _ ?_; clear hK K) | (apply Exists.intro; refine ⟨fun _ => ?_, hK _ ?_⟩; (exact HLg.out _ _); clear hK K)))
                      with_reducible refine wpQuiet_nil ?_
                      intro wq hw'
                      have hfin := HC3.out wq hw'
                      clear HC1 HC2 HC3 hcl hcl2 HLg
                      all_goals
                        go_wp2_with fail
                        go_meet
                        exact ⟨k, by omega, rfl, HTw, hfin⟩
                  · have hdd : decide (x.ad = s.ad) = false := by simp [had]
                    simp only [hdd] at hee
                    have HTw := Lib.hid (HTw1.out (by cases e : ltS x s with | false => rfl | true => exact absurd (HLt.out.1 e) (by rw [hl0]; simp [had])))
                    clear hless HLo1 HTw1 HLt had hdd hl0
                    go_wp2_with fail
                    have hcl := fun n os => (HH.out _ (hcw.trans (grown_chg ⟨⟨n, os⟩, rfl⟩))).2.1
                    have hcl2 := fun n os => (HH.out _ (hcw.trans (grown_chg ⟨⟨n, os⟩, rfl⟩))).2.2.2
                    have HC1 := Lib.hid (fun W (hW : ∃ p : GrownBy, W = Go.Sort.grow (wr.drewN p.n) p.os) => (HH.out W (hcw.trans (grown_chg hW))).1)
                    have HC2 := Lib.hid (fun W (hW : ∃ p : GrownBy, W = Go.Sort.grow (wr.drewN p.n) p.os) => (HH.out W (hcw.trans (grown_chg hW))).2.2.1)
                    have HC3 := Lib.hid (fun W (hW : ∃ p : GrownBy, W = Go.Sort.grow (wr.drewN p.n) p.os) => hcw.trans (grown_chg hW))
                    clear HH
                    have HLg : Hid (∀ n os, Calls Try.prog 37 #[x.ad.v, s.ad.v] (Go.Sort.grow (wr.drewN n) os) fun e w'' => e = .returned (.bool false) ∧ ∃ p : GrownBy, w'' = Go.Sort.grow (wr.drewN p.n) p.os) := Lib.hid fun n os => Calls.grown_of (HL.out _)
                    refine wp_region_quiet_grown hmx (by kernel_rfl) ?_
                    repeat (first
                      | ((with_reducible refine wpQuiet_rowC 55 (.tmp 44) ?_ ?_ b _ ?_ (arrA x.ad) _ HC1.out Try.underlying55 ?_ infA ?_); (focus rfl); (focus rfl); (focus rfl); (focus rfl); (simp only [Act.put, List.setIfInBounds_toArray, List.set_cons_zero, List.set_cons_succ]))
                      | ((with_reducible refine wpQuiet_rowC 55 (.tmp 46) ?_ ?_ _ 0 ?_ (arrA s.ad) _ HC2.out Try.underlying55 ?_ infA ?_); (focus rfl); (focus rfl); (focus rfl); (focus rfl); (simp only [Act.put, List.setIfInBounds_toArray, List.set_cons_zero, List.set_cons_succ]))
                      | ((with_reducible refine wpQuiet_rowC 55 (.tmp 53) ?_ ?_ b _ ?_ (arrA x.ad) _ HC1.out Try.underlying55 ?_ infA ?_); (focus rfl); (focus rfl); (focus rfl); (focus rfl); (simp only [Act.put, List.setIfInBounds_toArray, List.set_cons_zero, List.set_cons_succ]))
                      | ((with_reducible refine wpQuiet_rowC 55 (.tmp 55) ?_ ?_ _ 0 ?_ (arrA s.ad) _ HC2.out Try.underlying55 ?_ infA ?_); (focus rfl); (focus rfl); (focus rfl); (focus rfl); (simp only [Act.put, List.setIfInBounds_toArray, List.set_cons_zero, List.set_cons_succ]))
                      | ((with_reducible refine wpQuiet_skip ?_ ?_); (focus rfl); (simp only [Act.put, List.setIfInBounds_toArray, List.set_cons_zero, List.set_cons_succ]))
                      | ((with_reducible refine wpQuiet_do ?_ (fun K hK => ?_)); (focus rfl); go_simp; first | (refine hK _ ?_; clear hK K) | (apply Exists.intro; refine ⟨fun _ => ?_, hK _ ?_⟩; (exact HLg.out _ _); clear hK K)))
                    with_reducible refine wpQuiet_nil ?_
                    intro wq hw'
                    have hfin := HC3.out wq hw'
                    clear HC1 HC2 HC3 hcl hcl2 HLg
                    all_goals
                      go_wp2_with fail
                      go_meet
                      exact ⟨k, by omega, rfl, HTw, hfin⟩
              · obtain rfl : k = n := by omega
                have HTw := Lib.hid (tw_at hlow.out (by omega) (fun y hy => by rw [List.getElem?_eq_none (by omega)] at hy; cases hy))
                clear HX HS1 HOk hb4 hlow HM HBl HB HP HAd HS0 HA e1
                go_wp2_with fail
                go_quiet (fail)
                go_wp2_with fail
                go_meet
                exact ⟨k, by omega, rfl, HTw, hcw.drewN _⟩
          case rest =>
            obtain ⟨k, hk, rfl, HTw, hcw⟩ := hcut
            have hcx := hc4.trans hcw
            have hS2 : Sl wc B 17 (.slice A n c) n (l.flatMap encS) := by
              have := HS1.out wc hcx
              unfold SlS at this
              rwa [hn] at this
            obtain ⟨ct1, ct2⟩ := cut_to elS34 hS2 hk
            obtain ⟨X, cf1, cf2⟩ := cut_from elS34 hS2 hk
            have hbx := hb4.chg hcw (by simp)
            have hle := hcx.size
            have hown0 : (wc.alloc (.cells #[] 59)).ownsRow wc.heap.size 59 17 (.slice (some ⟨wc.heap.size, 0, none⟩) 0 0) 0 [] := by
              have := own_lit (base := wc.heap.size) wc 59 17 0 #[] (Nat.le_refl _) (by simp [maxLen]) rfl
              simpa using this
            have hA1 := (Chg.refl [] wc).alloc (.cells #[] 59)
            have hct := ct2.chg0 ((Chg.refl [] wc).alloc (.cells #[] 59))
            have hbA := hbx.alloc (.cells #[] 59)
            have hone1 : Hid (∀ u ∈ (l.flatMap encS).take (k * 17), u.oneCell' = true) := Lib.hid fun u hu => flat_one encS_one l u (List.mem_of_mem_take hu)
            have hone2 : Hid (∀ u ∈ (l.flatMap encS).drop (k * 17), u.oneCell' = true) := Lib.hid fun u hu => flat_one encS_one l u (List.mem_of_mem_drop hu)
            have hkI : (k : Int) ≤ (n : Int) := by omega
            have hxz := hbx.lt
            have HCF := Lib.hid cf2
            have HC1 := Lib.hid hA1
            have HBA := Lib.hid hbA
            have HE1 := Lib.hid e1.out
            clear hS2 ct2 cf2 hA1 hbA hcw hc4 hb4 HS1 HX HOk HM HBl hbx
            generalize hT1 : (l.flatMap encS).take (k * 17) = T1 at *
            generalize hT2 : (l.flatMap encS).drop (k * 17) = T2 at *
            have HT := Lib.hid (And.intro hT1 hT2)
            clear hT1 hT2
            go_wp2_with (first
              | (at_builtin; refine wpList_app elS34 rfl (.tmp 72) (.tmp 75) rfl wc.heap.size rfl hown0 rfl hct hone1.out (by unfold maxLen; omega) (by omega) (by simp) ?_; intro v5 w5 hown5 hc5 hb5; have hlt0 := own_lt hown0; have hB5 := HBA.out.chg hc5 (by intro hm; have := (hlt0 _ hm).1; omega); have hC5 : Chg [] wc w5 := HC1.out.trans' hc5 (fun x hx => .inr (by have := (hlt0 x hx).1; omega)); have hw5 := hc5.size; simp at hw5; have hown5a := hown5.alloc (.cells (arrS s) 59); have hcat := lit34 w5 s; clear hown0 hct)
              | (refine wpList_load_blk rfl 59 (.tmp 3) rfl hB5 rfl _ Try.underlying59 rfl infS34 ?_)
              | (at_builtin; refine wpList_app elS34 rfl (.tmp 77) (.tmp 79) rfl wc.heap.size rfl hown5a rfl hcat (encS_one s) (by unfold maxLen; omega) (by omega) (by simp; omega) ?_; intro v6 w6 hown6 hc6 hb6; have hlt5 := own_lt hown5a; have hC6 : Chg [] wc w6 := (hC5.alloc _).trans' hc6 (fun x hx => .inr (by have := (hlt5 x hx).1; omega)); have hw6 := hc6.size; simp at hw6; have hcf6 : Sl w6 B 17 (.slice X (n - k) (c - k)) (n - k) T2 := HCF.out.chg0 hC6)
              | (at_builtin; refine wpList_app elS34 rfl (.tmp 81) (.tmp 84) rfl wc.heap.size rfl hown6 rfl hcf6 hone2.out (by unfold maxLen; omega) (by omega) (by omega) ?_; intro v7 w7 hown7 hc7 hb7; have hlt6 := own_lt hown6; have hC7 : Chg [] wc w7 := hC6.trans' hc7 (fun x hx => .inr (by have := (hlt6 x hx).1; omega)))
              | fail)
            go_ret2
            rw [HP.out, HE1.out]
            refine ⟨_, rfl, ?_, hcx.trans hC7⟩
            have hfl : T1 ++ (encS s ++ T2) = (insS s l).flatMap encS := by
              rw [insS_at HTw.out, ← HT.out.1, ← HT.out.2, flat_take encS_len, flat_drop encS_len]
              simp
            have hll : (insS s l).length = 0 + k + 1 + (n - k) := by rw [len_insS]; omega
            unfold SlS
            have h8 := Sl.less (Sl.of_own hown7) (B' := B) (by have := HB.out; omega)
            show Sl w7 B 17 _ (insS s l).length ((insS s l).flatMap encS)
            rw [hll, ← hfl]
            simpa using h8
end Go.Proofs.Ytojkbljpjpifoaa
