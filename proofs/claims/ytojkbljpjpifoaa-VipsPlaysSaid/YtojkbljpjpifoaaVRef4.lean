/-
  WALKS: the document's answer of chapter 34: one less, an address asked for. Condition: the row is at most 8 services.
-/
import Derived.Test.YtojkbljpjpifoaaVRef3
set_option linter.unusedVariables false
set_option linter.unusedSimpArgs false
namespace Go.Proofs.Ytojkbljpjpifoaa
open Go.RowKit Go.Maps

def DropPost (w : World) (B : Nat) (l : List Sv) (s : Sv) (e : Ending) (w' : World) : Prop := ∃ v', e = .returned (.tuple #[v', .bool (dropS l s).2]) ∧ SlS w' B v' (dropS l s).1 ∧ Chg [] w w'
set_option maxRecDepth 100000 in
set_option maxHeartbeats 2000000 in
theorem rdrop_any {w : World} {B : Nat} {v : Value} {l : List Sv} (s : Sv) (h : SlS w B v l) (hB : B ≤ w.heap.size) (hl : LI l) (hs : okS s) : Calls Try.prog 21 #[v, s.v] w (DropPost w B l s) := by
  obtain ⟨A, c, rfl⟩ := Sl.form h
  have hA := (Chg.refl [] w).alloc (.cells (arrS s) 59)
  have hBl : Blk (w.alloc (.cells (arrS s) 59)) w.heap.size 59 (arrS s) := Blk.new _ _ _
  have HP : Hid (∀ e w', DropPost w B l s e w' = ∃ v', e = .returned (.tuple #[v', .bool (dropS l s).2]) ∧ SlS w' B v' (dropS l s).1 ∧ Chg [] w w') := Lib.hid fun _ _ => rfl
  have HS0 := Lib.hid (fun W (hc : Chg [] w W) => (show SlS W B (.slice A l.length c) l from Sl.chg0 h hc))
  have HB := Lib.hid hB
  have HL := Lib.hid hl
  have hl8 := hl.len
  by_cases hm : s ∈ l
  · have e1 : Hid (dropS l s = (delS s l, true)) := Lib.hid (by simp [dropS, hm])
    have F1 := Lib.hid (find_yes (w := w.alloc (.cells (arrS s) 59)) (Sl.chg0 h hA) (by omega) (fun x hx => (hl.ok x hx).1) hs hm)
    clear hm h hB hl hs
    generalize hn : l.length = n at *
    go_enter Try.func21, Try.ntmps21
    go_wp2_with fail
    refine F1.out.mono ?_
    rintro e wc ⟨k, rfl, hkx, hc1⟩
    have hk : k < n := by have := (List.getElem?_eq_some_iff.1 hkx).1; omega
    have hdl : Hid (l.take k ++ l.drop (k + 1) = delS s l) := Lib.hid (delS_at HL.out.srt.nodup hkx)
    have hcx := hA.trans hc1
    have hS2 : Sl wc B 17 (.slice A n c) n (l.flatMap encS) := by
      have := HS0.out wc hcx
      unfold SlS at this
      rwa [hn] at this
    obtain ⟨ct1, ct2⟩ := cut_to elS34 (hi := k) hS2 (by omega)
    obtain ⟨X, cf0, cf2⟩ := cut_from elS34 (lo := k + 1) hS2 (by omega)
    have cf1 : ∀ W : World, (Instr.slice 53 (.slice A n c) (some (.int .i64 ((k : Int) + 1))) none none).run Try.prog W = .ok (.slice X (n - (k + 1)) (c - (k + 1))) W := fun W => cf0 W
    clear cf0
    have hle := hcx.size
    have hown0 : (wc.alloc (.cells #[] 59)).ownsRow wc.heap.size 59 17 (.slice (some ⟨wc.heap.size, 0, none⟩) 0 0) 0 [] := by
      have := own_lit (base := wc.heap.size) wc 59 17 0 #[] (Nat.le_refl _) (by simp [maxLen]) rfl
      simpa using this
    have hA1 := (Chg.refl [] wc).alloc (.cells #[] 59)
    have hct := ct2.chg0 hA1
    have hone1 : Hid (∀ u ∈ (l.flatMap encS).take (k * 17), u.oneCell' = true) := Lib.hid fun u hu => flat_one encS_one l u (List.mem_of_mem_take hu)
    have hone2 : Hid (∀ u ∈ (l.flatMap encS).drop ((k + 1) * 17), u.oneCell' = true) := Lib.hid fun u hu => flat_one encS_one l u (List.mem_of_mem_drop hu)
    have hk0 : (0 : Int) ≤ (k : Int) := by omega
    have hkI : (k : Int) ≤ (n : Int) := by omega
    have hw1 : IntKind.i64.wrap ((k : Int) + 1) = (k : Int) + 1 := by rw [IntKind.wrap_i64]; omega
    have hk1I : (k : Int) + 1 ≤ (n : Int) := by omega
    have HCF := Lib.hid cf2
    have HC1 := Lib.hid hA1
    have HE1 := Lib.hid e1.out
    clear hS2 ct2 cf2 hA1 hc1 HS0 hA hBl F1 hkx
    generalize hT1 : (l.flatMap encS).take (k * 17) = T1 at *
    generalize hT2 : (l.flatMap encS).drop ((k + 1) * 17) = T2 at *
    have HT := Lib.hid (And.intro hT1 hT2)
    clear hT1 hT2
    go_wp2_with (first
      | (at_builtin; refine wpList_app elS34 rfl (.tmp 14) (.tmp 17) rfl wc.heap.size rfl hown0 rfl hct hone1.out (by unfold maxLen; omega) (by omega) (by simp) ?_; intro v5 w5 hown5 hc5 hb5; have hlt0 := own_lt hown0; have hC5 : Chg [] wc w5 := HC1.out.trans' hc5 (fun x hx => .inr (by have := (hlt0 x hx).1; omega)); have hw5 := hc5.size; simp at hw5; have hcf6 : Sl w5 B 17 (.slice X (n - (k + 1)) (c - (k + 1))) (n - (k + 1)) T2 := HCF.out.chg0 hC5; clear hown0 hct)
      | (at_builtin; refine wpList_app elS34 rfl (.tmp 19) (.tmp 23) rfl wc.heap.size rfl hown5 rfl hcf6 hone2.out (by unfold maxLen; omega) (by omega) (by omega) ?_; intro v7 w7 hown7 hc7 hb7; have hlt6 := own_lt hown5; have hC7 : Chg [] wc w7 := hC5.trans' hc7 (fun x hx => .inr (by have := (hlt6 x hx).1; omega)))
      | fail)
    go_ret2
    rw [HP.out, HE1.out]
    refine ⟨_, rfl, ?_, hcx.trans hC7⟩
    have hfl : T1 ++ T2 = (delS s l).flatMap encS := by
      rw [← hdl.out, ← HT.out.1, ← HT.out.2, flat_take encS_len, flat_drop encS_len]
      simp
    have hll : (delS s l).length = 0 + k + (n - (k + 1)) := by rw [← hdl.out, List.length_append, List.length_take, List.length_drop]; omega
    have h8 := Sl.less (Sl.of_own hown7) (B' := B) (by have := HB.out; omega)
    show Sl w7 B 17 _ (delS s l).length ((delS s l).flatMap encS)
    rw [hll, ← hfl]
    simpa using h8
  · have e1 : Hid (dropS l s = (l, false)) := Lib.hid (by simp [dropS, hm])
    have F1 := Lib.hid (find_no (w := w.alloc (.cells (arrS s) 59)) (Sl.chg0 h hA) (by omega) (fun x hx => (hl.ok x hx).1) hs hm)
    clear hm h hB hl hs
    go_enter Try.func21, Try.ntmps21
    go_wp2_with fail
    refine F1.out.mono ?_
    rintro e wc ⟨rfl, hc1⟩
    go_wp2_with fail
    go_ret2
    rw [HP.out, e1.out]
    exact ⟨_, rfl, HS0.out _ (hA.trans hc1), hA.trans hc1⟩

set_option maxRecDepth 100000 in
set_option maxHeartbeats 2000000 in
theorem rknows_any {w : World} {B : Nat} {v : Value} {l : List Sv} {D : Ad} (h : SlS w B v l) (hl : LI l) (hD : okA D) : Calls Try.prog 29 #[v, D.v] w fun e w' => e = .returned (.bool (l.any fun S => decide (S.ad = D))) ∧ Chg [] w w' := by
  obtain ⟨A, c, rfl⟩ := Sl.form h
  have hA := (Chg.refl [] w).alloc (.cells (arrA D) 55)
  have hBl : Blk (w.alloc (.cells (arrA D) 55)) w.heap.size 55 (arrA D) := Blk.new _ _ _
  have H := Lib.hid (fun w1 (hc : Chg [] (w.alloc (.cells (arrA D) 55)) w1) => And.intro (show SlS w1 B (.slice A l.length c) l from Sl.chg0 h (hA.trans hc)) (hBl.chg hc (by simp)).rangeQ)
  have HX : Hid (∀ i, i < l.length → ∃ x, l[i]? = some x ∧ okS x) := Lib.hid fun i hi => ⟨_, List.getElem?_eq_getElem hi, (hl.ok _ (List.getElem_mem hi)).1⟩
  have HE := Lib.hid (fun (x : Sv) (hx : okS x) W => eq_ad W hx.1 hD)
  have hl8 := hl.len
  clear h hl hD
  generalize hn : l.length = n at *
  generalize hW : w.alloc (.cells (arrA D) 55) = W0 at *
  have HW := Lib.hid hW
  have HA := Lib.hid hA
  clear hA hBl
  go_enter Try.func29, Try.ntmps29
  go_wp2_with fail
  go_loopw [5] (fun iv wr => ∃ k : Nat, k ≤ n ∧ iv = .int .i64 k ∧ Hid (∀ j x, j < k → l[j]? = some x → x.ad ≠ D) ∧ Chg [] W0 wr) (fun iv _ => n - (intOf iv).toNat)
  case atStart => exact ⟨0, by omega, rfl, Lib.hid (fun j x hj => absurd hj (by omega)), by rw [← HW.out]; exact Chg.refl _ _⟩
  case round =>
    obtain ⟨k, hk, rfl, hnot, hcw⟩ := hrel
    by_cases hlt : k < n
    · obtain ⟨x, hx, hxo⟩ := HX.out k hlt
      obtain ⟨h1, h2⟩ := H.out wr hcw
      obtain ⟨b, o, rfl, hr0⟩ := h1.one hn hx
      have hr := sub16 hr0
      have he := fun q => HE.out x hxo (wr.drewN q)
      have HX2 := Lib.hid hx
      have hcq : Hid (∀ q, Chg [] W0 (wr.drewN q)) := Lib.hid fun q => hcw.drewN q
      clear h1 hx hxo H HX HE hr0
      by_cases had : x.ad = D
      · have hdd : decide (x.ad = D) = true := by simp [had]
        simp only [hdd] at he
        have hany : Hid ((l.any fun S => decide (S.ad = D)) = true) := Lib.hid (List.any_eq_true.2 ⟨x, List.mem_of_getElem? HX2.out, hdd⟩)
        clear had hcw hdd
        go_wp2_with fail
        refine wp_region_quiet_lit (by kernel_rfl) (by kernel_rfl) ?_
        repeat (first
          | ((with_reducible refine wpQuiet_row 55 (.tmp 15) ?_ ?_ b _ ?_ (arrA x.ad) _ hr Try.underlying55 ?_ infA ?_); (focus rfl); (focus rfl); (focus rfl); (focus rfl))
          | ((with_reducible refine wpQuiet_row 55 (.tmp 3) ?_ ?_ _ 0 ?_ (arrA D) _ h2 Try.underlying55 ?_ infA ?_); (focus rfl); (focus rfl); (focus rfl); (focus rfl))
          | quiet_step (fail))
        refine wpQuiet_nil ?_
        intro _ hw'
        obtain ⟨nq, hw''⟩ := hw'
        subst hw''
        go_wp2_with fail
        go_ret
        rw [hany.out]
        exact ⟨rfl, HA.out.trans (hcq.out _)⟩
      · have hdd : decide (x.ad = D) = false := by simp [had]
        simp only [hdd] at he
        have hxs : Hid (∀ j y, j < k + 1 → l[j]? = some y → y.ad ≠ D) := Lib.hid fun j y hj hy => by
          by_cases e : j = k
          · subst e; rw [HX2.out] at hy; cases hy; exact had
          · exact hnot.out j y (by omega) hy
        clear had hcw hdd
        go_wp2_with fail
        refine wp_region_quiet_lit (by kernel_rfl) (by kernel_rfl) ?_
        repeat (first
          | ((with_reducible refine wpQuiet_row 55 (.tmp 15) ?_ ?_ b _ ?_ (arrA x.ad) _ hr Try.underlying55 ?_ infA ?_); (focus rfl); (focus rfl); (focus rfl); (focus rfl))
          | ((with_reducible refine wpQuiet_row 55 (.tmp 3) ?_ ?_ _ 0 ?_ (arrA D) _ h2 Try.underlying55 ?_ infA ?_); (focus rfl); (focus rfl); (focus rfl); (focus rfl))
          | quiet_step (fail))
        refine wpQuiet_nil ?_
        intro _ hw'
        obtain ⟨nq, hw''⟩ := hw'
        subst hw''
        go_wp2_with fail
        go_roundw
        case rel => exact ⟨k + 1, by omega, by go_num, hxs, hcq.out _⟩
        case measure => simp [intOf]; omega
    · obtain rfl : k = n := by omega
      have hany : Hid ((l.any fun S => decide (S.ad = D)) = false) := Lib.hid (by
        cases e : (l.any fun S => decide (S.ad = D)) with
        | false => rfl
        | true =>
          obtain ⟨x, hx, hd⟩ := List.any_eq_true.1 e
          obtain ⟨i, hi, he⟩ := List.mem_iff_getElem.1 hx
          exact absurd (by simpa using hd) (hnot.out i x (by omega) (by rw [List.getElem?_eq_getElem hi, he])))
      clear H HX HE
      go_wp2_with fail
      go_ret
      rw [hany.out]
      exact ⟨rfl, HA.out.trans hcw⟩
end Go.Proofs.Ytojkbljpjpifoaa
