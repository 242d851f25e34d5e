/-
  WALKS over the document's answer of chapter 30 (Find, Drop, Put, Busy, Tick), and parts for ConnsPlays. Condition: at most 64 entries.
-/
import Derived.Test.YtgbdbeaflilmlaaConnB
import Derived.Test.YtgbdbeaflilmlaaCut
import Derived.Test.YtgbdbeaflilmlaaConnT
import Derived.Test.YtgbdbeaflilmlaaConnL
import Derived.Test.YtgbdbeaflilmlaaEnEq
set_option linter.unusedVariables false
set_option linter.unusedSimpArgs false
namespace Go.Proofs.Ytgbdbeaflilmlaa
open Go.RowKit Go.Maps

@[reducible] def arrT (n now : Int) (v : Value) : Array Value := #[.int .i64 n, .int .i64 now, v]
theorem infT {n now : Int} {v : Value} : (Try.prog.info? 110).map (·.size) = some (arrT n now v).size := by
  show _ = some 3
  kernel_rfl
theorem infN2 {e : En} : (Try.prog.info? 115).map (·.size) = some (arrN e).size := by
  show _ = some 46
  kernel_rfl
theorem elEr : El Try.prog 108 115 (.agg arrN0) 46 128 := ⟨Try.underlying108, by kernel_rfl, rfl, by omega⟩
theorem litEr (w : World) (e : En) : Sl (w.alloc (.cells (arrN e) 115)) 0 46 (.slice (some ⟨w.heap.size, 0, none⟩) 1 1) 1 (encN e) :=
  Sl.of_own (own_lit (base := 0) w 115 46 1 (arrN e) (Nat.zero_le _) (by simp [maxLen]) rfl)
/-- The slice v reads as the entries L. -/
def okL (L : List En) : Prop := ∀ e ∈ L, okF e.fl
def idxV (o : Option Nat) : Int := match o with | none => -1 | some i => i
theorem idx_hit {L : List En} {f : Fl} {i : Nat} {e : En} (he : L[i]? = some e) (hf : e.fl = f) (hno : ∀ j y, j < i → L[j]? = some y → ¬ y.fl = f) : idxE L f = some i := by
  unfold idxE
  obtain ⟨hi, rfl⟩ := List.getElem?_eq_some_iff.1 he
  rw [List.findIdx?_eq_some_iff_getElem]
  exact ⟨hi, by simpa using hf, fun j hj => by simpa using hno j _ hj (List.getElem?_eq_getElem (by omega))⟩
set_option maxRecDepth 100000 in
set_option maxHeartbeats 1000000 in
theorem rfind30 {w : World} {B : Nat} {v : Value} {L : List En} {n now : Int} (h : SlN w B v L) (hok : okL L) (hL : L.length ≤ 64) {f : Fl} (hf : okF f) :
    Calls Try.prog 51 #[.agg (arrT n now v), f.v] w fun e w' => e = .returned (.int .i64 (idxV (idxE L f))) ∧ Chg [] w w' := by
  obtain ⟨A, c, rfl⟩ := Sl.form h
  have hcA := ((Chg.refl [] w).alloc (.cells (arrT n now (.slice A L.length c)) 110)).alloc (.cells (arrF f) 73)
  have hBt : Blk ((w.alloc (.cells (arrT n now (.slice A L.length c)) 110)).alloc (.cells (arrF f) 73)) w.heap.size 110 (arrT n now (.slice A L.length c)) := (Blk.new _ _ _).alloc _
  have hBf : Blk ((w.alloc (.cells (arrT n now (.slice A L.length c)) 110)).alloc (.cells (arrF f) 73)) (w.heap.size + 1) 73 (arrF f) := Blk.new' (by simp)
  have HI := Lib.hid (And.intro hcA (And.intro hBt hBf))
  have HR := Lib.hid (fun W (hc : Chg [] w W) i (r : En) (hr : L[i]? = some r) => SlN.one (h.chg0 hc) hr)
  have HX : Hid (∀ i, i < L.length → ∃ r, L[i]? = some r ∧ okF r.fl) := Lib.hid fun i hi => ⟨_, List.getElem?_eq_getElem hi, hok _ (List.getElem_mem hi)⟩
  clear h hok hcA hBt hBf
  generalize hN : L.length = N at *
  have HNN : Hid (L.length = N) := Lib.hid hN
  clear hN
  go_enter Try.func51, Try.ntmps51
  go_upto_region 1 with fail
  generalize (w.alloc (.cells (arrT n now (.slice A N c)) 110)).alloc (.cells (arrF f) 73) = w1 at *
  generalize hg : w.heap.size = gt at *
  go_wp2_with fail
  go_loopw [5] (fun iv wr => ∃ k : Nat, k ≤ N ∧ iv = .int .i64 k ∧ Hid (Chg [] w1 wr) ∧ Hid (∀ i y, i < k → L[i]? = some y → ¬ y.fl = f)) (fun iv _ => N - (intOf iv).toNat)
  case atStart => exact ⟨0, by omega, rfl, Lib.hid (Chg.refl _ _), Lib.hid (fun i t hi => by omega)⟩
  case round =>
    obtain ⟨k, hk, rfl, HC, HK⟩ := hrel
    have c2 : wr.cell? ⟨gt, 2, none⟩ = some (.slice A N c) := (HI.out.2.1.chg HC.out (by simp)).cell 2
    by_cases hlt : k < N
    · obtain ⟨r, hr, hok⟩ := HX.out k hlt
      obtain ⟨b, o, rfl, hrg⟩ := HR.out _ (HI.out.1.trans HC.out) k r hr
      have R1 := Lib.hid (fun W (hc : Chg [] wr W) => rgN_fl (rangeAt_chg hrg hc (by simp)))
      have R2 := Lib.hid (fun W (hc : Chg [] wr W) => ((HI.out.2.2.chg (HC.out.trans hc) (by simp)).rangeQ))
      have R3 : Hid (∀ W (hc : Chg [] wr W), W.cell? ⟨gt, 2, none⟩ = some (.slice (some ⟨b, o, none⟩) N c)) := Lib.hid (fun W hc => hc.cell c2 (by simp))
      have hE1 := fun W => eq_fl W hok hf
      have HY := Lib.hid (And.intro hr hok)
      clear hr hok hrg
      go_upto_region 4 with fail
      clear c2
      by_cases he : r.fl = f
      · have hfd := Lib.hid (idx_hit HY.out.1 he HK.out)
        rw [decide_eq_true he] at hE1
        clear he
        refine wp_region_chg (by kernel_rfl) (by kernel_rfl) ?_
        (with_reducible refine wpQuiet_pure (v := ?_) ?_ (fun w => ?_) ?_); rotate_left; (focus rfl); (focus (go_simp <;> with_reducible rfl)); (try simp only [List.getElem_toArray, List.getElem_cons_succ, List.getElem_cons_zero, Act.put, List.setIfInBounds_toArray, List.set_cons_zero, List.set_cons_succ])
        (with_reducible refine wpQuiet_cellC 108 (.tmp 13) ?_ ?_ gt 2 ?_ (.slice (some ⟨b, o, none⟩) N c) _ R3.out Try.underlying108 ?_ ?_); (focus rfl); (focus rfl); (focus rfl); (focus rfl); (try simp only [List.getElem_toArray, List.getElem_cons_succ, List.getElem_cons_zero, Act.put, List.setIfInBounds_toArray, List.set_cons_zero, List.set_cons_succ])
        (with_reducible refine wpQuiet_pure (v := ?_) ?_ (fun w => ?_) ?_); rotate_left; (focus rfl); (focus (go_simp <;> with_reducible rfl)); (try simp only [List.getElem_toArray, List.getElem_cons_succ, List.getElem_cons_zero, Act.put, List.setIfInBounds_toArray, List.set_cons_zero, List.set_cons_succ])
        (with_reducible refine wpQuiet_pure (v := ?_) ?_ (fun w => ?_) ?_); rotate_left; (focus rfl); (focus (go_simp <;> with_reducible rfl)); (try simp only [List.getElem_toArray, List.getElem_cons_succ, List.getElem_cons_zero, Act.put, List.setIfInBounds_toArray, List.set_cons_zero, List.set_cons_succ])
        (with_reducible refine wpQuiet_pure (v := ?_) ?_ (fun w => ?_) ?_); rotate_left; (focus rfl); (focus (go_simp <;> with_reducible rfl)); (try simp only [List.getElem_toArray, List.getElem_cons_succ, List.getElem_cons_zero, Act.put, List.setIfInBounds_toArray, List.set_cons_zero, List.set_cons_succ])
        (with_reducible refine wpQuiet_rowC 73 (.tmp 17) ?_ ?_ b _ ?_ (arrF r.fl) _ R1.out Try.underlying73 ?_ infF ?_); (focus rfl); (focus rfl); (focus rfl); (focus rfl); (try simp only [List.getElem_toArray, List.getElem_cons_succ, List.getElem_cons_zero, Act.put, List.setIfInBounds_toArray, List.set_cons_zero, List.set_cons_succ])
        (with_reducible refine wpQuiet_rowC 73 (.tmp 3) ?_ ?_ (gt + 1) 0 ?_ (arrF f) _ R2.out Try.underlying73 ?_ infF ?_); (focus rfl); (focus rfl); (focus rfl); (focus rfl); (try simp only [List.getElem_toArray, List.getElem_cons_succ, List.getElem_cons_zero, Act.put, List.setIfInBounds_toArray, List.set_cons_zero, List.set_cons_succ])
        (with_reducible refine wpQuiet_pure (v := ?_) ?_ (fun w => ?_) ?_); rotate_left; (focus rfl); (focus (go_simp <;> with_reducible rfl)); (try simp only [List.getElem_toArray, List.getElem_cons_succ, List.getElem_cons_zero, Act.put, List.setIfInBounds_toArray, List.set_cons_zero, List.set_cons_succ])
        refine wpQuiet_nil ?_
        intro w2 hc2
        have HC2 := Lib.hid (HI.out.1.trans (HC.out.trans hc2))
        clear hc2 R1 R2 R3
        go_wp2_with fail
        go_ret
        rw [hfd.out]
        exact ⟨rfl, HC2.out⟩
      · rw [decide_eq_false he] at hE1
        refine wp_region_chg (by kernel_rfl) (by kernel_rfl) ?_
        (with_reducible refine wpQuiet_pure (v := ?_) ?_ (fun w => ?_) ?_); rotate_left; (focus rfl); (focus (go_simp <;> with_reducible rfl)); (try simp only [List.getElem_toArray, List.getElem_cons_succ, List.getElem_cons_zero, Act.put, List.setIfInBounds_toArray, List.set_cons_zero, List.set_cons_succ])
        (with_reducible refine wpQuiet_cellC 108 (.tmp 13) ?_ ?_ gt 2 ?_ (.slice (some ⟨b, o, none⟩) N c) _ R3.out Try.underlying108 ?_ ?_); (focus rfl); (focus rfl); (focus rfl); (focus rfl); (try simp only [List.getElem_toArray, List.getElem_cons_succ, List.getElem_cons_zero, Act.put, List.setIfInBounds_toArray, List.set_cons_zero, List.set_cons_succ])
        (with_reducible refine wpQuiet_pure (v := ?_) ?_ (fun w => ?_) ?_); rotate_left; (focus rfl); (focus (go_simp <;> with_reducible rfl)); (try simp only [List.getElem_toArray, List.getElem_cons_succ, List.getElem_cons_zero, Act.put, List.setIfInBounds_toArray, List.set_cons_zero, List.set_cons_succ])
        (with_reducible refine wpQuiet_pure (v := ?_) ?_ (fun w => ?_) ?_); rotate_left; (focus rfl); (focus (go_simp <;> with_reducible rfl)); (try simp only [List.getElem_toArray, List.getElem_cons_succ, List.getElem_cons_zero, Act.put, List.setIfInBounds_toArray, List.set_cons_zero, List.set_cons_succ])
        (with_reducible refine wpQuiet_pure (v := ?_) ?_ (fun w => ?_) ?_); rotate_left; (focus rfl); (focus (go_simp <;> with_reducible rfl)); (try simp only [List.getElem_toArray, List.getElem_cons_succ, List.getElem_cons_zero, Act.put, List.setIfInBounds_toArray, List.set_cons_zero, List.set_cons_succ])
        (with_reducible refine wpQuiet_rowC 73 (.tmp 17) ?_ ?_ b _ ?_ (arrF r.fl) _ R1.out Try.underlying73 ?_ infF ?_); (focus rfl); (focus rfl); (focus rfl); (focus rfl); (try simp only [List.getElem_toArray, List.getElem_cons_succ, List.getElem_cons_zero, Act.put, List.setIfInBounds_toArray, List.set_cons_zero, List.set_cons_succ])
        (with_reducible refine wpQuiet_rowC 73 (.tmp 3) ?_ ?_ (gt + 1) 0 ?_ (arrF f) _ R2.out Try.underlying73 ?_ infF ?_); (focus rfl); (focus rfl); (focus rfl); (focus rfl); (try simp only [List.getElem_toArray, List.getElem_cons_succ, List.getElem_cons_zero, Act.put, List.setIfInBounds_toArray, List.set_cons_zero, List.set_cons_succ])
        (with_reducible refine wpQuiet_pure (v := ?_) ?_ (fun w => ?_) ?_); rotate_left; (focus rfl); (focus (go_simp <;> with_reducible rfl)); (try simp only [List.getElem_toArray, List.getElem_cons_succ, List.getElem_cons_zero, Act.put, List.setIfInBounds_toArray, List.set_cons_zero, List.set_cons_succ])
        refine wpQuiet_nil ?_
        intro w2 hc2
        have HC2 := Lib.hid (HC.out.trans hc2)
        have HE := Lib.hid he
        clear hc2 R1 R2 R3 he
        go_wp2_with fail
        go_roundw
        case rel =>
          refine ⟨k + 1, by omega, by go_num, HC2, Lib.hid fun i t hi ht => ?_⟩
          rcases Nat.lt_or_ge i k with h1 | h1
          · exact HK.out i t h1 ht
          · rw [show i = k by omega, HY.out.1] at ht
            injection ht with ht; subst ht; exact HE.out
        case measure => simp [intOf]; omega
    · obtain rfl : k = N := by omega
      have hfd : Hid (idxE L f = none) := Lib.hid (idx_none.2 (fun r hr => by
        obtain ⟨i, hi, rfl⟩ := List.mem_iff_getElem.1 hr
        exact HK.out i _ (by have := HNN.out; omega) (List.getElem?_eq_getElem hi)))
      go_wp2_with fail
      go_ret
      rw [hfd.out]
      exact ⟨rfl, HI.out.1.trans HC.out⟩
end Go.Proofs.Ytgbdbeaflilmlaa
namespace Go.Proofs.Ytgbdbeaflilmlaa
open Go.RowKit Go.Maps

theorem SlN.less {w : World} {B B' : Nat} {v : Value} {l : List En} (h : SlN w B v l) (hB : B' ≤ B) : SlN w B' v l := Sl.less h hB
set_option maxRecDepth 100000 in
set_option maxHeartbeats 2000000 in
theorem rdrop30 {w : World} {v : Value} {L : List En} {n now : Int} (h : SlN w 0 v L) (hok : okL L) (hL : L.length ≤ 64) {f : Fl} (hf : okF f) :
    Calls Try.prog 45 #[.agg (arrT n now v), f.v] w fun e w' => ∃ v', e = .returned (.tuple #[.agg (arrT n now v'), .bool (idxE L f).isSome]) ∧ SlN w' 0 v' (rdropL L f) ∧ Chg [] w w' ∧ ((v' = v ∧ rdropL L f = L) ∨ SlN w' w.heap.size v' (rdropL L f)) := by
  obtain ⟨A, cp, rfl⟩ := Sl.form h
  have hA0 := (Chg.refl [] w).alloc (.cells (arrT n now (.slice A L.length cp)) 110)
  have hA1 := hA0.alloc (.cells (arrF f) 73)
  have hA2 := hA1.alloc (.cells (arrT 0 0 (.slice none 0 0)) 110)
  have hBp : Blk ((w.alloc (.cells (arrT n now (.slice A L.length cp)) 110)).alloc (.cells (arrF f) 73)) w.heap.size 110 (arrT n now (.slice A L.length cp)) := (Blk.new _ _ _).alloc _
  have hBp2 := hBp.alloc (.cells (arrT 0 0 (.slice none 0 0)) 110)
  have hBf : Blk ((w.alloc (.cells (arrT n now (.slice A L.length cp)) 110)).alloc (.cells (arrF f) 73)) (w.heap.size + 1) 73 (arrF f) := Blk.new' (by simp)
  have hBf2 := hBf.alloc (.cells (arrT 0 0 (.slice none 0 0)) 110)
  have hBr2 : Blk (((w.alloc (.cells (arrT n now (.slice A L.length cp)) 110)).alloc (.cells (arrF f) 73)).alloc (.cells (arrT 0 0 (.slice none 0 0)) 110)) (w.heap.size + 1 + 1) 110 (arrT 0 0 (.slice none 0 0)) := Blk.new' (by simp)
  generalize hw2 : ((w.alloc (.cells (arrT n now (.slice A L.length cp)) 110)).alloc (.cells (arrF f) 73)).alloc (.cells (arrT 0 0 (.slice none 0 0)) 110) = w2 at *
  have hsz2 : w2.heap.size = w.heap.size + 3 := by rw [← hw2]; simp
  generalize hgp : w.heap.size = gp at *
  have F1 := Lib.hid (rfind30 (n := n) (now := now) (h.chg0 hA2) hok hL hf)
  have HSL := Lib.hid (fun W (hc : Chg [] w2 W) => h.chg0 (hA2.trans hc))
  have HB := Lib.hid (fun W (hc : Chg [] w2 W) => hBp2.chg hc (by simp))
  have HBR := Lib.hid (fun W (hc : Chg [] w2 W) => hBr2.chg hc (by simp))
  have hR2 := Lib.hid hBp2.rangeQ
  have hF2 := Lib.hid hBf2.rangeQ
  have HCW := Lib.hid hA2
  have h0 := h
  clear h hok hA0 hA1 hA2 hBp hBp2 hBf hBf2 hBr2
  cases hi : idxE L f with
  | none =>
    rw [hi] at F1
    have hrd : Hid (rdropL L f = L) := Lib.hid (by unfold rdropL; rw [hi])
    have hlt : decide (idxV none < 0) = true := rfl
    clear hi
    go_enter Try.func45, Try.ntmps45
    go_wp2_with (first
      | (refine wpList_row 110 (.tmp 2) rfl rfl gp 0 rfl _ _ hR2.out Try.underlying110 rfl infT ?_)
      | (refine wpList_row 73 (.tmp 3) rfl rfl (gp + 1) 0 rfl (arrF f) _ hF2.out Try.underlying73 rfl infF ?_)
      | fail)
    refine F1.out.mono ?_
    rintro e w3 ⟨rfl, hc3⟩
    have hR3 := Lib.hid (HB.out w3 hc3).rangeQ
    have hB3 := HBR.out w3 hc3
    have HS3 := Lib.hid (HSL.out w3 hc3)
    have HC3 := Lib.hid (HCW.out.trans hc3)
    clear hR2 hF2 hc3 F1
    go_wp2_with (first
      | (refine wpList_row 110 (.tmp 2) rfl rfl gp 0 rfl _ _ hR3.out Try.underlying110 rfl infT ?_)
      | (refine wpList_store_blk rfl 110 _ _ rfl rfl hB3 rfl rfl rfl (by kernel_rfl) rfl ?_; intro w5 hB5 hc5)
      | fail)
    refine bodyPost_ret (results_blk2 rfl rfl hB5 _ Try.underlying110 rfl (by kernel_rfl)) rfl ?_
    have hc5' : Chg [] w w5 := HC3.out.trans' hc5 (by intro x hx; simp at hx; subst hx; exact .inr (by omega))
    refine ⟨_, rfl, ?_, hc5', .inl ⟨rfl, hrd.out⟩⟩
    rw [hrd.out]
    exact h0.chg0 hc5'
  | some i =>
    rw [hi] at F1
    have hrd : Hid (rdropL L f = L.take i ++ L.drop (i + 1)) := Lib.hid (by unfold rdropL; rw [hi])
    have hiL : i < L.length := by obtain ⟨e, he, _⟩ := idx_some hi; exact (List.getElem?_eq_some_iff.1 he).1
    have hlt : decide (idxV (some i) < 0) = false := by show decide ((i : Int) < 0) = false; simp
    have hidx : idxV (some i) = (i : Int) := rfl
    rw [hidx] at F1 hlt
    clear hi hidx
    generalize hN : L.length = N at *
    go_enter Try.func45, Try.ntmps45
    go_wp2_with (first
      | (refine wpList_row 110 (.tmp 2) rfl rfl gp 0 rfl _ _ hR2.out Try.underlying110 rfl infT ?_)
      | (refine wpList_row 73 (.tmp 3) rfl rfl (gp + 1) 0 rfl (arrF f) _ hF2.out Try.underlying73 rfl infF ?_)
      | fail)
    refine F1.out.mono ?_
    rintro e wc ⟨rfl, hcw⟩
    clear hR2 hF2 F1
    go_upto_region 4 with fail
    have hS2 : Sl wc 0 46 (.slice A N cp) N (L.flatMap encN) := by
      have := HSL.out wc hcw
      unfold SlN at this
      rwa [hN] at this
    obtain ⟨ct1, ct2⟩ := cut_to elEr hS2 (Nat.le_of_lt hiL)
    obtain ⟨X, cf1, cf2⟩ := cut_from elEr hS2 (show i + 1 ≤ N from hiL)
    have hle : w2.heap.size ≤ wc.heap.size := hcw.size
    have c1 : wc.cell? ⟨gp, 2, none⟩ = some (.slice A N cp) := (HB.out wc hcw).cell 2
    have hown0 : (wc.alloc (.cells #[] 115)).ownsRow wc.heap.size 115 46 (.slice (some ⟨wc.heap.size, 0, none⟩) 0 0) 0 [] := by
      have := own_lit (base := wc.heap.size) wc 115 46 0 #[] (Nat.le_refl _) (by simp [maxLen]) rfl
      simpa using this
    have hA1 := (Chg.refl [] wc).alloc (.cells #[] 115)
    have hct := ct2.chg0 hA1
    have c1a := hA1.cell c1 (by simp)
    have hone1 : Hid (∀ u ∈ (L.flatMap encN).take (i * 46), u.oneCell' = true) := Lib.hid fun u hu => flat_one encN_one L u (List.mem_of_mem_take hu)
    have hone2 : Hid (∀ u ∈ (L.flatMap encN).drop ((i + 1) * 46), u.oneCell' = true) := Lib.hid fun u hu => flat_one encN_one L u (List.mem_of_mem_drop hu)
    have cf1' : ∀ W : World, (Instr.slice 108 (.slice A N cp) (some (.int .i64 ((i : Int) + 1))) none none).run Try.prog W = .ok (.slice X (N - (i + 1)) (cp - (i + 1))) W := fun W => by
      have := cf1 W
      rwa [show ((i + 1 : Nat) : Int) = (i : Int) + 1 by omega] at this
    have hkI : (i : Int) ≤ (N : Int) := by omega
    have hkI2 : (i : Int) + 1 ≤ (N : Int) := by omega
    have HCF := Lib.hid cf2
    have HA1 := Lib.hid hA1
    have HCW1 := Lib.hid hcw
    clear hS2 ct2 cf2 cf1 hA1 hcw HSL
    generalize hT1 : (L.flatMap encN).take (i * 46) = T1 at *
    generalize hT2 : (L.flatMap encN).drop ((i + 1) * 46) = T2 at *
    have HT := Lib.hid (And.intro hT1 hT2)
    clear hT1 hT2
    go_upto_region 5 with (first
      | (at_builtin; refine wpList_app elEr rfl (.tmp 14) (.tmp 18) rfl wc.heap.size rfl hown0 rfl hct hone1.out (by unfold maxLen; omega) (by omega) (by simp) ?_; intro v5 w5 hown5 hc5 hb5)
      | fail)
    have hlt0 := own_lt hown0
    have hC5 : Chg [] wc w5 := HA1.out.trans' hc5 (fun x hx => .inr (by have := (hlt0 x hx).1; omega))
    have hD5 := HCW1.out.trans hC5
    have k1 : w5.cell? ⟨gp, 2, none⟩ = some (.slice A N cp) := (HB.out w5 hD5).cell 2
    have hz5 := hC5.size
    have hcf5 := HCF.out.chg0 hC5
    have HK5 := HB.out w5 hD5
    have hlt5 := own_lt hown5
    clear hct hc5 hb5 c1 c1a hlt0
    go_wp2_with (first
      | (at_builtin; refine wpList_app elEr rfl (.tmp 20) (.tmp 25) rfl wc.heap.size rfl hown5 rfl hcf5 hone2.out (by unfold maxLen; omega) (by omega) (by omega) ?_; intro v7 w7 hown7 hc7 hb7; rw [show 0 + i + (N - (i + 1)) = N - 1 by omega] at hown7; have hC7 : Chg [] wc w7 := hC5.trans' hc7 (fun x hx => .inr (by have := (hlt5 x hx).1; omega)); have hD7 := HCW1.out.trans hC7; have HK7 := HB.out w7 hD7; obtain ⟨A7, cap7, rfl⟩ := Sl.form (Sl.of_own hown7); have q7 := HK7.cell 2; have f7 := HK7.frozen 2; have l7 := HK7.lt; have R7 := Lib.hid (HK7.set_ 2 (.slice A7 (N - 1) cap7)).rangeQ; have hB7 := HBR.out w7 hD7; have hB8 := hB7.far (p := ⟨gp, 2, none⟩) (by simp; omega) (.slice A7 (N - 1) cap7); clear hc7 hb7 hcf5 hlt5 hC5 k1 HK5 hB7)
      | (refine wpList_row 110 (.tmp 2) rfl rfl gp 0 rfl _ _ R7.out Try.underlying110 rfl infT ?_)
      | (refine wpList_store_blk rfl 110 _ _ rfl rfl hB8 rfl rfl rfl (by kernel_rfl) rfl ?_; intro w9 hB9 hc9)
      | fail)
    refine bodyPost_ret (results_blk2 rfl rfl hB9 _ Try.underlying110 rfl (by kernel_rfl)) rfl ?_
    have hfl : T1 ++ T2 = (L.take i ++ L.drop (i + 1)).flatMap encN := by
      rw [← HT.out.1, ← HT.out.2, flat_take encN_len, flat_drop encN_len]
      simp
    have hll : (L.take i ++ L.drop (i + 1)).length = N - 1 := by simp [hN]; omega
    have hz7 := hC7.size
    have hcS : Chg [gp, gp + 1 + 1] w7 w9 := (((Chg.refl [gp] w7).setCell (p := ⟨gp, 2, none⟩) (.inl (by simp)) _).more (by simp)).trans (hc9.more (by simp))
    have hlt7 := own_lt hown7
    have hfin : SlN w9 w2.heap.size (.slice A7 (N - 1) cap7) (rdropL L f) := by
      rw [hrd.out]
      unfold SlN
      rw [hll, ← hfl]
      have h8 := own_chg hown7 hcS (by intro x hx hm; have := (hlt7 x hx).1; simp at hm; omega)
      have h9 := (Sl.of_own h8).less hle
      simpa using h9
    exact ⟨_, rfl, hfin.less (Nat.zero_le _), (HCW.out.trans hD7).trans' hcS (by intro x hx; simp at hx; rcases hx with rfl | rfl <;> exact .inr (by omega)), .inr (hfin.less (by omega))⟩
end Go.Proofs.Ytgbdbeaflilmlaa
namespace Go.Proofs.Ytgbdbeaflilmlaa
open Go.RowKit Go.Maps

theorem atE_of {D : List En} {f : Fl} {k : Nat} (h1 : ∀ j x, j < k → D[j]? = some x → lessF x.fl f = true) (h2 : k ≤ D.length) (h3 : ∀ y, D[k]? = some y → lessF y.fl f = false) : atE D f = k := by
  unfold atE
  have e : D = D.take k ++ D.drop k := (List.take_append_drop k D).symm
  rw [e, List.takeWhile_append_of_pos (fun a ha => by
    obtain ⟨j, hj⟩ := List.mem_iff_getElem?.1 ha
    have hjk : j < k := by
      have := (List.getElem?_eq_some_iff.1 hj).1
      rw [List.length_take] at this; omega
    rw [List.getElem?_take_of_lt hjk] at hj
    exact h1 j a hjk hj), List.length_append, List.length_take]
  have : (D.drop k).takeWhile (fun e => lessF e.fl f) = [] := by
    cases hd : D.drop k with
    | nil => rfl
    | cons y l =>
      have hy : D[k]? = some y := by
        have := List.getElem?_drop (xs := D) (i := k) (j := 0)
        rw [hd] at this
        simpa using this.symm
      rw [List.takeWhile_cons, h3 y hy]; rfl
  rw [this]
  simp; omega
theorem len_rdrop {L : List En} {f : Fl} : (rdropL L f).length ≤ L.length := by
  unfold rdropL
  split
  · exact Nat.le_refl _
  · simp; omega
theorem okL_rdrop {L : List En} {f : Fl} (h : okL L) : okL (rdropL L f) := by
  unfold rdropL
  split
  · exact h
  · intro e he
    rcases List.mem_append.1 he with he | he
    · exact h e (List.mem_of_mem_take he)
    · exact h e (List.mem_of_mem_drop he)
section
variable {w : World} {v : Value} {L : List En} {n now : Int} {e : En}
set_option maxRecDepth 100000 in
set_option maxHeartbeats 2000000 in
theorem rput30_no (h : SlN w 0 v L) (hok : okL L) (hL : L.length ≤ 64) (he : okF e.fl) (hb : (e.kind ≠ 1 ∧ e.kind ≠ 2) ∨ (idxE L e.fl = none ∧ n ≤ (L.length : Int))) :
    Calls Try.prog 43 #[.agg (arrT n now v), .agg (arrN e)] w fun x w' => x = .returned (.tuple #[.agg (arrT n now v), .bool false]) ∧ Chg [] w w' := by
  obtain ⟨A, cp, rfl⟩ := Sl.form h
  have hA0 := (Chg.refl [] w).alloc (.cells (arrT n now (.slice A L.length cp)) 110)
  have hA1 := hA0.alloc (.cells (arrN e) 115)
  have hA2 := hA1.alloc (.cells (arrT 0 0 (.slice none 0 0)) 110)
  have hBp : Blk ((w.alloc (.cells (arrT n now (.slice A L.length cp)) 110)).alloc (.cells (arrN e) 115)) w.heap.size 110 (arrT n now (.slice A L.length cp)) := (Blk.new _ _ _).alloc _
  have hBp2 := hBp.alloc (.cells (arrT 0 0 (.slice none 0 0)) 110)
  have hBe : Blk ((w.alloc (.cells (arrT n now (.slice A L.length cp)) 110)).alloc (.cells (arrN e) 115)) (w.heap.size + 1) 115 (arrN e) := Blk.new' (by simp)
  have hBe2 := hBe.alloc (.cells (arrT 0 0 (.slice none 0 0)) 110)
  have hBr2 : Blk (((w.alloc (.cells (arrT n now (.slice A L.length cp)) 110)).alloc (.cells (arrN e) 115)).alloc (.cells (arrT 0 0 (.slice none 0 0)) 110)) (w.heap.size + 1 + 1) 110 (arrT 0 0 (.slice none 0 0)) := Blk.new' (by simp)
  generalize hw2 : ((w.alloc (.cells (arrT n now (.slice A L.length cp)) 110)).alloc (.cells (arrN e) 115)).alloc (.cells (arrT 0 0 (.slice none 0 0)) 110) = w2 at *
  have hsz2 : w2.heap.size = w.heap.size + 3 := by rw [← hw2]; simp
  generalize hgp : w.heap.size = gp at *
  have F1 := Lib.hid (rfind30 (n := n) (now := now) (h.chg0 hA2) hok hL he)
  have HB := Lib.hid (fun W (hc : Chg [] w2 W) => hBp2.chg hc (by simp))
  have HBR := Lib.hid (fun W (hc : Chg [] w2 W) => hBr2.chg hc (by simp))
  have HCW := Lib.hid hA2
  have hR2 := Lib.hid hBp2.rangeQ
  have hF2 := Lib.hid (rgN_fl hBe2.rangeQ)
  have ck : w2.cell? ⟨gp + 1, 34, none⟩ = some (.int .i64 e.kind) := hBe2.cell 34
  have HK := Lib.hid hb
  clear h hok hA0 hA1 hA2 hBp hBp2 hBe hBe2 hBr2 hb he
  go_enter Try.func43, Try.ntmps43
  go_upto_region 1 with fail
  go_cut [30] (fun v wx => v = .bool true ∧ Hid (Chg [] w2 wx))
  case first =>
    by_cases hk : e.kind ≠ 1 ∧ e.kind ≠ 2
    · have hk1 : (e.kind != 1) = true := by simp [hk.1]
      have hk2 : (e.kind != 2) = true := by simp [hk.2]
      clear hk F1 HK
      go_wp2_with fail
      go_meet
      exact ⟨rfl, Lib.hid (Chg.refl _ _)⟩
    · have hrm := HK.out.resolve_left hk
      rw [hrm.1] at F1
      have hlt : decide (idxV none < 0) = true := rfl
      have hle : decide (n ≤ (L.length : Int)) = true := decide_eq_true hrm.2
      have hC0 : ∀ W, Chg [] w2 W → W.cell? ⟨gp, 0, none⟩ = some (.int .i64 n) ∧ W.cell? ⟨gp, 2, none⟩ = some (.slice A L.length cp) := fun W hc => ⟨(HB.out W hc).cell 0, (HB.out W hc).cell 2⟩
      have HC0 := Lib.hid hC0
      clear hC0 hrm HK
      rcases (show e.kind = 1 ∨ (e.kind ≠ 1 ∧ e.kind = 2) by omega) with h1 | ⟨h1, h2⟩
      · have hk1 : (e.kind != 1) = false := by simp [h1]
        clear h1 hk
        go_wp2_with (first
          | (refine wpList_row 110 (.tmp 2) rfl rfl gp 0 rfl _ _ hR2.out Try.underlying110 rfl infT ?_)
          | (refine wpList_row 73 (.tmp 18) rfl rfl (gp + 1) 0 rfl (arrF e.fl) _ hF2.out Try.underlying73 rfl infF ?_)
          | fail)
        refine F1.out.mono ?_
        rintro e w3 ⟨rfl, hc3⟩
        obtain ⟨q0, q2⟩ := HC0.out w3 hc3
        have HC3 := Lib.hid hc3
        clear hc3 F1
        go_wp2_with fail
        go_meet
        exact ⟨rfl, HC3⟩
      · have hk1 : (e.kind != 1) = true := by simp [h1]
        have hk2 : (e.kind != 2) = false := by simp [h2]
        clear h1 h2 hk
        go_wp2_with (first
          | (refine wpList_row 110 (.tmp 2) rfl rfl gp 0 rfl _ _ hR2.out Try.underlying110 rfl infT ?_)
          | (refine wpList_row 73 (.tmp 18) rfl rfl (gp + 1) 0 rfl (arrF e.fl) _ hF2.out Try.underlying73 rfl infF ?_)
          | fail)
        refine F1.out.mono ?_
        rintro e w3 ⟨rfl, hc3⟩
        obtain ⟨q0, q2⟩ := HC0.out w3 hc3
        have HC3 := Lib.hid hc3
        clear hc3 F1
        go_wp2_with fail
        go_meet
        exact ⟨rfl, HC3⟩
  case rest =>
  obtain ⟨rfl, HC3⟩ := hcut
  have hR3 := Lib.hid (HB.out wc HC3.out).rangeQ
  have hB3 := HBR.out wc HC3.out
  clear hR2 hF2 F1 ck HK
  go_wp2_with (first
    | (refine wpList_row 110 (.tmp 2) rfl rfl gp 0 rfl _ _ hR3.out Try.underlying110 rfl infT ?_)
    | (refine wpList_store_blk rfl 110 _ _ rfl rfl hB3 rfl rfl rfl (by kernel_rfl) rfl ?_; intro w5 hB5 hc5)
    | fail)
  refine bodyPost_ret (results_blk2 rfl rfl hB5 _ Try.underlying110 rfl (by kernel_rfl)) rfl ?_
  exact ⟨rfl, (HCW.out.trans HC3.out).trans' hc5 (by intro x hx; simp at hx; subst hx; exact .inr (by omega))⟩
end
end Go.Proofs.Ytgbdbeaflilmlaa
namespace Go.Proofs.Ytgbdbeaflilmlaa
open Go.RowKit Go.Maps

section
variable {w : World} {v : Value} {L : List En} {n now : Int} {e : En}
set_option maxRecDepth 100000 in
set_option maxHeartbeats 4000000 in
theorem rput30_yes (h : SlN w 0 v L) (hok : okL L) (hL : L.length ≤ 64) (he : okF e.fl) (hk0 : e.kind = 1 ∨ e.kind = 2) (hrm : idxE L e.fl ≠ none ∨ (L.length : Int) < n) :
    Calls Try.prog 43 #[.agg (arrT n now v), .agg (arrN e)] w fun x w' => ∃ v', x = .returned (.tuple #[.agg (arrT n now v'), .bool true]) ∧ SlN w' w.heap.size v' (rputL L e) ∧ Chg [] w w' := by
  obtain ⟨A, cp, rfl⟩ := Sl.form h
  have hA0 := (Chg.refl [] w).alloc (.cells (arrT n now (.slice A L.length cp)) 110)
  have hA1 := hA0.alloc (.cells (arrN e) 115)
  have hA2 := hA1.alloc (.cells (arrT 0 0 (.slice none 0 0)) 110)
  have hBp : Blk ((w.alloc (.cells (arrT n now (.slice A L.length cp)) 110)).alloc (.cells (arrN e) 115)) w.heap.size 110 (arrT n now (.slice A L.length cp)) := (Blk.new _ _ _).alloc _
  have hBp2 := hBp.alloc (.cells (arrT 0 0 (.slice none 0 0)) 110)
  have hBe : Blk ((w.alloc (.cells (arrT n now (.slice A L.length cp)) 110)).alloc (.cells (arrN e) 115)) (w.heap.size + 1) 115 (arrN e) := Blk.new' (by simp)
  have hBe2 := hBe.alloc (.cells (arrT 0 0 (.slice none 0 0)) 110)
  have hBr2 : Blk (((w.alloc (.cells (arrT n now (.slice A L.length cp)) 110)).alloc (.cells (arrN e) 115)).alloc (.cells (arrT 0 0 (.slice none 0 0)) 110)) (w.heap.size + 1 + 1) 110 (arrT 0 0 (.slice none 0 0)) := Blk.new' (by simp)
  generalize hw2 : ((w.alloc (.cells (arrT n now (.slice A L.length cp)) 110)).alloc (.cells (arrN e) 115)).alloc (.cells (arrT 0 0 (.slice none 0 0)) 110) = w2 at *
  have hsz2 : w2.heap.size = w.heap.size + 3 := by rw [← hw2]; simp
  generalize hgp : w.heap.size = gp at *
  have F1 := Lib.hid (rfind30 (n := n) (now := now) (h.chg0 hA2) hok hL he)
  have FD := Lib.hid (fun W (hc : Chg [] w2 W) => rdrop30 (n := n) (now := now) (h.chg0 (hA2.trans hc)) hok hL he)
  have HB := Lib.hid (fun W (hc : Chg [] w2 W) => hBp2.chg hc (by simp))
  have HBE := Lib.hid hBe2
  have HBR := Lib.hid hBr2
  have HCW := Lib.hid hA2
  have hR2 := Lib.hid hBp2.rangeQ
  have hF2 := Lib.hid (rgN_fl hBe2.rangeQ)
  have ck : w2.cell? ⟨gp + 1, 34, none⟩ = some (.int .i64 e.kind) := hBe2.cell 34
  have HK := Lib.hid (And.intro hk0 hrm)
  have hDl := len_rdrop (L := L) (f := e.fl)
  have HDok := Lib.hid (okL_rdrop (f := e.fl) hok)
  have hrp : Hid (rputL L e = (rdropL L e.fl).take (atE (rdropL L e.fl) e.fl) ++ e :: (rdropL L e.fl).drop (atE (rdropL L e.fl) e.fl)) := Lib.hid rfl
  have h0 := h
  clear h hok hA0 hA1 hA2 hBp hBp2 hBe hBe2 hBr2 hk0 hrm
  go_enter Try.func43, Try.ntmps43
  go_upto_region 1 with fail
  go_cut [30] (fun v wx => v = .bool false ∧ Hid (Chg [] w2 wx))
  case first =>
    have HRM := Lib.hid HK.out.2
    have hk0 := HK.out.1
    have hC0 : ∀ W, Chg [] w2 W → W.cell? ⟨gp, 0, none⟩ = some (.int .i64 n) ∧ W.cell? ⟨gp, 2, none⟩ = some (.slice A L.length cp) := fun W hc => ⟨(HB.out W hc).cell 0, (HB.out W hc).cell 2⟩
    have HC0 := Lib.hid hC0
    clear hC0 HK FD hrp
    generalize hid : idxE L e.fl = o at *
    have hkk : ∃ k1 k2, (e.kind != 1) = k1 ∧ (e.kind != 2) = k2 ∧ (k1 = false ∨ (k1 = true ∧ k2 = false)) := ⟨_, _, rfl, rfl, by rcases hk0 with h | h <;> simp [h]⟩
    obtain ⟨k1, k2, hk1, hk2, hkc⟩ := hkk
    clear hk0
    cases o with
    | some i =>
      have hlt : decide (idxV (some i) < 0) = false := by show decide ((i : Int) < 0) = false; simp
      rcases hkc with rfl | ⟨rfl, rfl⟩
      all_goals
        go_wp2_with (first
          | (refine wpList_row 110 (.tmp 2) rfl rfl gp 0 rfl _ _ hR2.out Try.underlying110 rfl infT ?_)
          | (refine wpList_row 73 (.tmp 18) rfl rfl (gp + 1) 0 rfl (arrF e.fl) _ hF2.out Try.underlying73 rfl infF ?_)
          | fail)
        refine F1.out.mono ?_
        rintro e w3 ⟨rfl, hc3⟩
        have HC3 := Lib.hid hc3
        clear hc3 F1
        go_wp2_with fail
        go_meet
        exact ⟨rfl, HC3⟩
    | none =>
      have hlt : decide (idxV none < 0) = true := rfl
      have hle : decide (n ≤ (L.length : Int)) = false := decide_eq_false (by rcases HRM.out with h | h; exact absurd rfl h; omega)
      rcases hkc with rfl | ⟨rfl, rfl⟩
      all_goals
        go_wp2_with (first
          | (refine wpList_row 110 (.tmp 2) rfl rfl gp 0 rfl _ _ hR2.out Try.underlying110 rfl infT ?_)
          | (refine wpList_row 73 (.tmp 18) rfl rfl (gp + 1) 0 rfl (arrF e.fl) _ hF2.out Try.underlying73 rfl infF ?_)
          | fail)
        refine F1.out.mono ?_
        rintro e w3 ⟨rfl, hc3⟩
        obtain ⟨q0, q2⟩ := HC0.out w3 hc3
        have HC3 := Lib.hid hc3
        clear hc3 F1
        go_wp2_with fail
        go_meet
        exact ⟨rfl, HC3⟩
  case rest =>
  obtain ⟨rfl, HC3⟩ := hcut
  have HCX := Lib.hid HC3.out.size
  have hR3 := Lib.hid (HB.out wc HC3.out).rangeQ
  have hF3 := Lib.hid (rgN_fl (HBE.out.chg HC3.out (by simp)).rangeQ)
  have F3 := Lib.hid (FD.out wc HC3.out)
  clear hR2 hF2 F1 ck HK FD
  go_wp2_with (first
    | (refine wpList_row 110 (.tmp 2) rfl rfl gp 0 rfl _ _ hR3.out Try.underlying110 rfl infT ?_)
    | (refine wpList_row 73 (.tmp 34) rfl rfl (gp + 1) 0 rfl (arrF e.fl) _ hF3.out Try.underlying73 rfl infF ?_)
    | fail)
  refine F3.out.mono ?_
  rintro e1 w3 ⟨v3, rfl, hs3, hc3, hsep⟩
  have hc23 := HC3.out.trans hc3
  have hB3 := HB.out w3 hc23
  have HS3 := Lib.hid hs3
  have HC23 := Lib.hid hc23
  have hz3 := hc23.size
  have HE3 := Lib.hid (HBE.out.chg hc23 (by simp))
  have HBR3 := Lib.hid (HBR.out.chg hc23 (by simp))
  clear F3 hs3 hc3 hc23 hR3 hF3 HBE HBR HC3
  have hwz := HC23.out.size
  obtain ⟨A', cp', rfl⟩ := Sl.form HS3.out
  generalize hD : rdropL L e.fl = D at *
  have HSEP := Lib.hid hsep
  clear hsep
  go_upto_region 4 with (first
    | (refine wpList_store_blk rfl 110 _ _ rfl rfl hB3 rfl rfl rfl (infT (n := n) (now := now)) rfl ?_; intro w4 hB4 hc4)
    | fail)
  have HE4 := Lib.hid (HE3.out.chg hc4 (by simp))
  have HBR4 := Lib.hid (HBR3.out.chg hc4 (by simp; omega))
  have hz4 := hc4.size
  have hcw4 : Chg [] w w4 := (HCW.out.trans HC23.out).trans' hc4 (by intro x hx; simp at hx; subst hx; exact .inr (by omega))
  have HS4 : Hid (SlN w4 0 (.slice A' D.length cp') D) := Lib.hid (by
    rcases HSEP.out with ⟨h1, h2⟩ | h1
    · rw [h1, h2]; exact h0.chg0 hcw4
    · exact SlN.less (Sl.chg h1 hc4 (by intro x hx; simp at hx; subst hx; have := HCX.out; omega)) (Nat.zero_le _))
  have HB4 := Lib.hid hB4
  have HC4 := Lib.hid hcw4
  clear hB4 hc4 hcw4 hB3 HE3 HBR3 HSEP HS3
  have HDX : Hid (∀ i, i < D.length → ∃ r, D[i]? = some r ∧ okF r.fl) := Lib.hid fun i hi => ⟨_, List.getElem?_eq_getElem hi, HDok.out _ (List.getElem_mem hi)⟩
  have HDL : Hid (D.length ≤ 64) := Lib.hid (by omega)
  clear hDl
  generalize hN : D.length = N at *
  have HNN : Hid (D.length = N) := Lib.hid hN
  clear hN
  have hNl : N ≤ 64 := HDL.out
  go_upto_block 0 with fail
  go_cut [6] (fun v wx => ∃ k : Nat, k ≤ N ∧ v = .int .i64 k ∧ Hid (atE D e.fl = k) ∧ Hid (Chg [] w4 wx))
  case first =>
    go_wp2_with fail
    go_loopw [6] (fun iv wr => ∃ k : Nat, k ≤ N ∧ iv = .int .i64 k ∧ Hid (Chg [] w4 wr) ∧ Hid (∀ j y, j < k → D[j]? = some y → lessF y.fl e.fl = true)) (fun iv _ => N - (intOf iv).toNat)
    case atStart => exact ⟨0, by omega, rfl, Lib.hid (Chg.refl _ _), Lib.hid (fun j y hj => absurd hj (by omega))⟩
    case round =>
      obtain ⟨k, hk, rfl, HC, HLow⟩ := hrel
      by_cases hlt : k < N
      · obtain ⟨y, hy, hyo⟩ := HDX.out k hlt
        obtain ⟨b, o, rfl, hrg⟩ := SlN.one (show SlN wr 0 (.slice A' D.length cp') D by rw [HNN.out]; exact HS4.out.chg0 HC.out) hy
        have R1 := Lib.hid (fun W (hc : Chg [] wr W) => rgN_fl (rangeAt_chg hrg hc (by simp)))
        have R2 := Lib.hid (fun W (hc : Chg [] wr W) => rgN_fl ((HE4.out.chg (HC.out.trans hc) (by simp)).rangeQ))
        have R3 : Hid (∀ W (hc : Chg [] wr W), W.cell? ⟨gp, 2, none⟩ = some (.slice (some ⟨b, o, none⟩) N cp')) := Lib.hid (fun W hc => (HB4.out.chg (HC.out.trans hc) (by simp)).cell 2)
        have F8 := Lib.hid (fun w' (hc : Chg [] wr w') => (flless14 hyo he w').mono fun (e1 : Ending) w'' ⟨h1, h2⟩ => (⟨h1, hc.trans h2.chg⟩ : e1 = Ending.returned (.bool (lessF y.fl e.fl)) ∧ Chg [] wr w''))
        have HLT := Lib.hid hlt
        have hltd : decide ((k : Int) < (N : Int)) = true := decide_eq_true (by omega)
        have HY := Lib.hid hy
        clear hy hyo hrg
        cases hle : lessF y.fl e.fl with
        | true =>
          rw [hle] at F8
          have HL1 := Lib.hid hle
          clear hle
          go_upto_region 5 with fail
          refine wp_region_chg (by kernel_rfl) (by kernel_rfl) ?_
          (with_reducible refine wpQuiet_pure (v := ?_) ?_ (fun w => ?_) ?_); rotate_left; (focus rfl); (focus (go_simp <;> with_reducible rfl)); (try simp only [List.getElem_toArray, List.getElem_cons_succ, List.getElem_cons_zero, Act.put, List.setIfInBounds_toArray, List.set_cons_zero, List.set_cons_succ])
          (with_reducible refine wpQuiet_pure (v := ?_) ?_ (fun w => ?_) ?_); rotate_left; (focus rfl); (focus (go_simp <;> with_reducible rfl)); (try simp only [List.getElem_toArray, List.getElem_cons_succ, List.getElem_cons_zero, Act.put, List.setIfInBounds_toArray, List.set_cons_zero, List.set_cons_succ])
          (with_reducible refine wpQuiet_cellC 108 (.tmp 40) ?_ ?_ gp 2 ?_ (.slice (some ⟨b, o, none⟩) N cp') _ R3.out Try.underlying108 ?_ ?_); (focus rfl); (focus rfl); (focus rfl); (focus rfl); (try simp only [List.getElem_toArray, List.getElem_cons_succ, List.getElem_cons_zero, Act.put, List.setIfInBounds_toArray, List.set_cons_zero, List.set_cons_succ])
          (with_reducible refine wpQuiet_pure (v := ?_) ?_ (fun w => ?_) ?_); rotate_left; (focus rfl); (focus (go_simp <;> with_reducible rfl)); (try simp only [List.getElem_toArray, List.getElem_cons_succ, List.getElem_cons_zero, Act.put, List.setIfInBounds_toArray, List.set_cons_zero, List.set_cons_succ])
          (with_reducible refine wpQuiet_pure (v := ?_) ?_ (fun w => ?_) ?_); rotate_left; (focus rfl); (focus (go_simp <;> with_reducible rfl)); (try simp only [List.getElem_toArray, List.getElem_cons_succ, List.getElem_cons_zero, Act.put, List.setIfInBounds_toArray, List.set_cons_zero, List.set_cons_succ])
          (try simp only [hltd])
          (with_reducible refine wpQuiet_pure (v := ?_) ?_ (fun w => ?_) ?_); rotate_left; (focus rfl); (focus (go_simp <;> with_reducible rfl)); (try simp only [List.getElem_toArray, List.getElem_cons_succ, List.getElem_cons_zero, Act.put, List.setIfInBounds_toArray, List.set_cons_zero, List.set_cons_succ])
          (with_reducible refine wpQuiet_pure (v := ?_) ?_ (fun w => ?_) ?_); rotate_left; (focus rfl); (focus (go_simp <;> with_reducible rfl)); (try simp only [List.getElem_toArray, List.getElem_cons_succ, List.getElem_cons_zero, Act.put, List.setIfInBounds_toArray, List.set_cons_zero, List.set_cons_succ])
          (with_reducible refine wpQuiet_cellC 108 (.tmp 45) ?_ ?_ gp 2 ?_ (.slice (some ⟨b, o, none⟩) N cp') _ R3.out Try.underlying108 ?_ ?_); (focus rfl); (focus rfl); (focus rfl); (focus rfl); (try simp only [List.getElem_toArray, List.getElem_cons_succ, List.getElem_cons_zero, Act.put, List.setIfInBounds_toArray, List.set_cons_zero, List.set_cons_succ])
          (with_reducible refine wpQuiet_pure (v := ?_) ?_ (fun w => ?_) ?_); rotate_left; (focus rfl); (focus (go_simp <;> with_reducible rfl)); (try simp only [List.getElem_toArray, List.getElem_cons_succ, List.getElem_cons_zero, Act.put, List.setIfInBounds_toArray, List.set_cons_zero, List.set_cons_succ])
          (with_reducible refine wpQuiet_pure (v := ?_) ?_ (fun w => ?_) ?_); rotate_left; (focus rfl); (focus (go_simp <;> with_reducible rfl)); (try simp only [List.getElem_toArray, List.getElem_cons_succ, List.getElem_cons_zero, Act.put, List.setIfInBounds_toArray, List.set_cons_zero, List.set_cons_succ])
          (with_reducible refine wpQuiet_pure (v := ?_) ?_ (fun w => ?_) ?_); rotate_left; (focus rfl); (focus (go_simp <;> with_reducible rfl)); (try simp only [List.getElem_toArray, List.getElem_cons_succ, List.getElem_cons_zero, Act.put, List.setIfInBounds_toArray, List.set_cons_zero, List.set_cons_succ])
          (with_reducible refine wpQuiet_rowC 73 (.tmp 49) ?_ ?_ b _ ?_ (arrF y.fl) _ R1.out Try.underlying73 ?_ infF ?_); (focus rfl); (focus rfl); (focus rfl); (focus rfl); (try simp only [List.getElem_toArray, List.getElem_cons_succ, List.getElem_cons_zero, Act.put, List.setIfInBounds_toArray, List.set_cons_zero, List.set_cons_succ])
          (with_reducible refine wpQuiet_pure (v := ?_) ?_ (fun w => ?_) ?_); rotate_left; (focus rfl); (focus (go_simp <;> with_reducible rfl)); (try simp only [List.getElem_toArray, List.getElem_cons_succ, List.getElem_cons_zero, Act.put, List.setIfInBounds_toArray, List.set_cons_zero, List.set_cons_succ])
          (with_reducible refine wpQuiet_rowC 73 (.tmp 51) ?_ ?_ (gp + 1) 0 ?_ (arrF e.fl) _ R2.out Try.underlying73 ?_ infF ?_); (focus rfl); (focus rfl); (focus rfl); (focus rfl); (try simp only [List.getElem_toArray, List.getElem_cons_succ, List.getElem_cons_zero, Act.put, List.setIfInBounds_toArray, List.set_cons_zero, List.set_cons_succ])
          (with_reducible refine wpQuiet_do ?_ (fun K hK => ?_)); (focus rfl); go_simp; (apply Exists.intro); (refine ⟨fun W hW => F8.out W hW, hK _ ?_⟩); (clear hK K); (try simp only [List.getElem_toArray, List.getElem_cons_succ, List.getElem_cons_zero, Act.put, List.setIfInBounds_toArray, List.set_cons_zero, List.set_cons_succ])
          (with_reducible refine wpQuiet_pure (v := ?_) ?_ (fun w => ?_) ?_); rotate_left; (focus rfl); (focus (go_simp <;> with_reducible rfl)); (try simp only [List.getElem_toArray, List.getElem_cons_succ, List.getElem_cons_zero, Act.put, List.setIfInBounds_toArray, List.set_cons_zero, List.set_cons_succ])
          refine wpQuiet_nil ?_
          intro w5 hc5
          have HC5 := Lib.hid (HC.out.trans hc5)
          clear hc5 R1 R2 R3 F8
          go_wp2_with fail
          go_roundw
          case rel =>
            refine ⟨k + 1, HLT.out, by go_num, HC5, Lib.hid fun j t hj ht => ?_⟩
            rcases Nat.lt_or_ge j k with h1 | h1
            · exact HLow.out j t h1 ht
            · rw [show j = k by omega, HY.out] at ht
              injection ht with ht; subst ht; exact HL1.out
          case measure => have := HLT.out; simp [intOf]; omega
        | false =>
          rw [hle] at F8
          have HAT : Hid (atE D e.fl = k) := Lib.hid (atE_of HLow.out (by rw [HNN.out]; omega) (fun y' hy' => by rw [HY.out] at hy'; injection hy' with hy'; subst hy'; exact hle))
          clear hle
          go_upto_region 5 with fail
          refine wp_region_chg (by kernel_rfl) (by kernel_rfl) ?_
          (with_reducible refine wpQuiet_pure (v := ?_) ?_ (fun w => ?_) ?_); rotate_left; (focus rfl); (focus (go_simp <;> with_reducible rfl)); (try simp only [List.getElem_toArray, List.getElem_cons_succ, List.getElem_cons_zero, Act.put, List.setIfInBounds_toArray, List.set_cons_zero, List.set_cons_succ])
          (with_reducible refine wpQuiet_pure (v := ?_) ?_ (fun w => ?_) ?_); rotate_left; (focus rfl); (focus (go_simp <;> with_reducible rfl)); (try simp only [List.getElem_toArray, List.getElem_cons_succ, List.getElem_cons_zero, Act.put, List.setIfInBounds_toArray, List.set_cons_zero, List.set_cons_succ])
          (with_reducible refine wpQuiet_cellC 108 (.tmp 40) ?_ ?_ gp 2 ?_ (.slice (some ⟨b, o, none⟩) N cp') _ R3.out Try.underlying108 ?_ ?_); (focus rfl); (focus rfl); (focus rfl); (focus rfl); (try simp only [List.getElem_toArray, List.getElem_cons_succ, List.getElem_cons_zero, Act.put, List.setIfInBounds_toArray, List.set_cons_zero, List.set_cons_succ])
          (with_reducible refine wpQuiet_pure (v := ?_) ?_ (fun w => ?_) ?_); rotate_left; (focus rfl); (focus (go_simp <;> with_reducible rfl)); (try simp only [List.getElem_toArray, List.getElem_cons_succ, List.getElem_cons_zero, Act.put, List.setIfInBounds_toArray, List.set_cons_zero, List.set_cons_succ])
          (with_reducible refine wpQuiet_pure (v := ?_) ?_ (fun w => ?_) ?_); rotate_left; (focus rfl); (focus (go_simp <;> with_reducible rfl)); (try simp only [List.getElem_toArray, List.getElem_cons_succ, List.getElem_cons_zero, Act.put, List.setIfInBounds_toArray, List.set_cons_zero, List.set_cons_succ])
          (try simp only [hltd])
          (with_reducible refine wpQuiet_pure (v := ?_) ?_ (fun w => ?_) ?_); rotate_left; (focus rfl); (focus (go_simp <;> with_reducible rfl)); (try simp only [List.getElem_toArray, List.getElem_cons_succ, List.getElem_cons_zero, Act.put, List.setIfInBounds_toArray, List.set_cons_zero, List.set_cons_succ])
          (with_reducible refine wpQuiet_pure (v := ?_) ?_ (fun w => ?_) ?_); rotate_left; (focus rfl); (focus (go_simp <;> with_reducible rfl)); (try simp only [List.getElem_toArray, List.getElem_cons_succ, List.getElem_cons_zero, Act.put, List.setIfInBounds_toArray, List.set_cons_zero, List.set_cons_succ])
          (with_reducible refine wpQuiet_cellC 108 (.tmp 45) ?_ ?_ gp 2 ?_ (.slice (some ⟨b, o, none⟩) N cp') _ R3.out Try.underlying108 ?_ ?_); (focus rfl); (focus rfl); (focus rfl); (focus rfl); (try simp only [List.getElem_toArray, List.getElem_cons_succ, List.getElem_cons_zero, Act.put, List.setIfInBounds_toArray, List.set_cons_zero, List.set_cons_succ])
          (with_reducible refine wpQuiet_pure (v := ?_) ?_ (fun w => ?_) ?_); rotate_left; (focus rfl); (focus (go_simp <;> with_reducible rfl)); (try simp only [List.getElem_toArray, List.getElem_cons_succ, List.getElem_cons_zero, Act.put, List.setIfInBounds_toArray, List.set_cons_zero, List.set_cons_succ])
          (with_reducible refine wpQuiet_pure (v := ?_) ?_ (fun w => ?_) ?_); rotate_left; (focus rfl); (focus (go_simp <;> with_reducible rfl)); (try simp only [List.getElem_toArray, List.getElem_cons_succ, List.getElem_cons_zero, Act.put, List.setIfInBounds_toArray, List.set_cons_zero, List.set_cons_succ])
          (with_reducible refine wpQuiet_pure (v := ?_) ?_ (fun w => ?_) ?_); rotate_left; (focus rfl); (focus (go_simp <;> with_reducible rfl)); (try simp only [List.getElem_toArray, List.getElem_cons_succ, List.getElem_cons_zero, Act.put, List.setIfInBounds_toArray, List.set_cons_zero, List.set_cons_succ])
          (with_reducible refine wpQuiet_rowC 73 (.tmp 49) ?_ ?_ b _ ?_ (arrF y.fl) _ R1.out Try.underlying73 ?_ infF ?_); (focus rfl); (focus rfl); (focus rfl); (focus rfl); (try simp only [List.getElem_toArray, List.getElem_cons_succ, List.getElem_cons_zero, Act.put, List.setIfInBounds_toArray, List.set_cons_zero, List.set_cons_succ])
          (with_reducible refine wpQuiet_pure (v := ?_) ?_ (fun w => ?_) ?_); rotate_left; (focus rfl); (focus (go_simp <;> with_reducible rfl)); (try simp only [List.getElem_toArray, List.getElem_cons_succ, List.getElem_cons_zero, Act.put, List.setIfInBounds_toArray, List.set_cons_zero, List.set_cons_succ])
          (with_reducible refine wpQuiet_rowC 73 (.tmp 51) ?_ ?_ (gp + 1) 0 ?_ (arrF e.fl) _ R2.out Try.underlying73 ?_ infF ?_); (focus rfl); (focus rfl); (focus rfl); (focus rfl); (try simp only [List.getElem_toArray, List.getElem_cons_succ, List.getElem_cons_zero, Act.put, List.setIfInBounds_toArray, List.set_cons_zero, List.set_cons_succ])
          (with_reducible refine wpQuiet_do ?_ (fun K hK => ?_)); (focus rfl); go_simp; (apply Exists.intro); (refine ⟨fun W hW => F8.out W hW, hK _ ?_⟩); (clear hK K); (try simp only [List.getElem_toArray, List.getElem_cons_succ, List.getElem_cons_zero, Act.put, List.setIfInBounds_toArray, List.set_cons_zero, List.set_cons_succ])
          (with_reducible refine wpQuiet_pure (v := ?_) ?_ (fun w => ?_) ?_); rotate_left; (focus rfl); (focus (go_simp <;> with_reducible rfl)); (try simp only [List.getElem_toArray, List.getElem_cons_succ, List.getElem_cons_zero, Act.put, List.setIfInBounds_toArray, List.set_cons_zero, List.set_cons_succ])
          refine wpQuiet_nil ?_
          intro w5 hc5
          have HC5 := Lib.hid (HC.out.trans hc5)
          clear hc5 R1 R2 R3 F8
          go_wp2_with fail
          go_meet
          exact ⟨k, hk, rfl, HAT, HC5⟩
      · obtain rfl : k = N := by omega
        have HAT : Hid (atE D e.fl = k) := Lib.hid (atE_of HLow.out (by rw [HNN.out]; omega) (fun y' hy' => by rw [List.getElem?_eq_none (by rw [HNN.out]; omega)] at hy'; cases hy'))
        have R3 : Hid (∀ W (hc : Chg [] wr W), W.cell? ⟨gp, 2, none⟩ = some (.slice A' k cp')) := Lib.hid (fun W hc => (HB4.out.chg (HC.out.trans hc) (by simp)).cell 2)
        have hltd : decide ((k : Int) < (k : Int)) = false := decide_eq_false (by omega)
        go_upto_region 5 with fail
        refine wp_region_chg (by kernel_rfl) (by kernel_rfl) ?_
        (with_reducible refine wpQuiet_pure (v := ?_) ?_ (fun w => ?_) ?_); rotate_left; (focus rfl); (focus (go_simp <;> with_reducible rfl)); (try simp only [List.getElem_toArray, List.getElem_cons_succ, List.getElem_cons_zero, Act.put, List.setIfInBounds_toArray, List.set_cons_zero, List.set_cons_succ])
        (with_reducible refine wpQuiet_pure (v := ?_) ?_ (fun w => ?_) ?_); rotate_left; (focus rfl); (focus (go_simp <;> with_reducible rfl)); (try simp only [List.getElem_toArray, List.getElem_cons_succ, List.getElem_cons_zero, Act.put, List.setIfInBounds_toArray, List.set_cons_zero, List.set_cons_succ])
        (with_reducible refine wpQuiet_cellC 108 (.tmp 40) ?_ ?_ gp 2 ?_ (.slice A' k cp') _ R3.out Try.underlying108 ?_ ?_); (focus rfl); (focus rfl); (focus rfl); (focus rfl); (try simp only [List.getElem_toArray, List.getElem_cons_succ, List.getElem_cons_zero, Act.put, List.setIfInBounds_toArray, List.set_cons_zero, List.set_cons_succ])
        (with_reducible refine wpQuiet_pure (v := ?_) ?_ (fun w => ?_) ?_); rotate_left; (focus rfl); (focus (go_simp <;> with_reducible rfl)); (try simp only [List.getElem_toArray, List.getElem_cons_succ, List.getElem_cons_zero, Act.put, List.setIfInBounds_toArray, List.set_cons_zero, List.set_cons_succ])
        (with_reducible refine wpQuiet_pure (v := ?_) ?_ (fun w => ?_) ?_); rotate_left; (focus rfl); (focus (go_simp <;> with_reducible rfl)); (try simp only [List.getElem_toArray, List.getElem_cons_succ, List.getElem_cons_zero, Act.put, List.setIfInBounds_toArray, List.set_cons_zero, List.set_cons_succ])
        (try simp only [hltd])
        (with_reducible refine wpQuiet_pure (v := ?_) ?_ (fun w => ?_) ?_); rotate_left; (focus rfl); (focus (go_simp <;> with_reducible rfl)); (try simp only [List.getElem_toArray, List.getElem_cons_succ, List.getElem_cons_zero, Act.put, List.setIfInBounds_toArray, List.set_cons_zero, List.set_cons_succ])
        (with_reducible refine wpQuiet_skip ?_ ?_); (focus rfl); (try simp only [List.getElem_toArray, List.getElem_cons_succ, List.getElem_cons_zero, Act.put, List.setIfInBounds_toArray, List.set_cons_zero, List.set_cons_succ])
        (with_reducible refine wpQuiet_skip ?_ ?_); (focus rfl); (try simp only [List.getElem_toArray, List.getElem_cons_succ, List.getElem_cons_zero, Act.put, List.setIfInBounds_toArray, List.set_cons_zero, List.set_cons_succ])
        (with_reducible refine wpQuiet_skip ?_ ?_); (focus rfl); (try simp only [List.getElem_toArray, List.getElem_cons_succ, List.getElem_cons_zero, Act.put, List.setIfInBounds_toArray, List.set_cons_zero, List.set_cons_succ])
        (with_reducible refine wpQuiet_skip ?_ ?_); (focus rfl); (try simp only [List.getElem_toArray, List.getElem_cons_succ, List.getElem_cons_zero, Act.put, List.setIfInBounds_toArray, List.set_cons_zero, List.set_cons_succ])
        (with_reducible refine wpQuiet_skip ?_ ?_); (focus rfl); (try simp only [List.getElem_toArray, List.getElem_cons_succ, List.getElem_cons_zero, Act.put, List.setIfInBounds_toArray, List.set_cons_zero, List.set_cons_succ])
        (with_reducible refine wpQuiet_skip ?_ ?_); (focus rfl); (try simp only [List.getElem_toArray, List.getElem_cons_succ, List.getElem_cons_zero, Act.put, List.setIfInBounds_toArray, List.set_cons_zero, List.set_cons_succ])
        (with_reducible refine wpQuiet_skip ?_ ?_); (focus rfl); (try simp only [List.getElem_toArray, List.getElem_cons_succ, List.getElem_cons_zero, Act.put, List.setIfInBounds_toArray, List.set_cons_zero, List.set_cons_succ])
        (with_reducible refine wpQuiet_skip ?_ ?_); (focus rfl); (try simp only [List.getElem_toArray, List.getElem_cons_succ, List.getElem_cons_zero, Act.put, List.setIfInBounds_toArray, List.set_cons_zero, List.set_cons_succ])
        (with_reducible refine wpQuiet_skip ?_ ?_); (focus rfl); (try simp only [List.getElem_toArray, List.getElem_cons_succ, List.getElem_cons_zero, Act.put, List.setIfInBounds_toArray, List.set_cons_zero, List.set_cons_succ])
        (with_reducible refine wpQuiet_pure (v := ?_) ?_ (fun w => ?_) ?_); rotate_left; (focus rfl); (focus (go_simp <;> with_reducible rfl)); (try simp only [List.getElem_toArray, List.getElem_cons_succ, List.getElem_cons_zero, Act.put, List.setIfInBounds_toArray, List.set_cons_zero, List.set_cons_succ])
        refine wpQuiet_nil ?_
        intro w5 hc5
        have HC5 := Lib.hid (HC.out.trans hc5)
        clear hc5 R3
        go_wp2_with fail
        go_meet
        exact ⟨k, hk, rfl, HAT, HC5⟩
  case rest =>
  obtain ⟨k, hk, rfl, HAT, HC5⟩ := hcut
  have hS2 : Sl wc 0 46 (.slice A' N cp') N (D.flatMap encN) := by
    have := HS4.out.chg0 HC5.out
    unfold SlN at this
    rwa [HNN.out] at this
  obtain ⟨ct1, ct2⟩ := cut_to elEr hS2 hk
  obtain ⟨X, cf1, cf2⟩ := cut_from elEr hS2 hk
  have hle : w4.heap.size ≤ wc.heap.size := HC5.out.size
  have c1 : wc.cell? ⟨gp, 2, none⟩ = some (.slice A' N cp') := (HB4.out.chg HC5.out (by simp)).cell 2
  have hown0 : (wc.alloc (.cells #[] 115)).ownsRow wc.heap.size 115 46 (.slice (some ⟨wc.heap.size, 0, none⟩) 0 0) 0 [] := by
    have := own_lit (base := wc.heap.size) wc 115 46 0 #[] (Nat.le_refl _) (by simp [maxLen]) rfl
    simpa using this
  have hA1 := (Chg.refl [] wc).alloc (.cells #[] 115)
  have hct := ct2.chg0 hA1
  have c1a := hA1.cell c1 (by simp)
  have hone1 : Hid (∀ u ∈ (D.flatMap encN).take (k * 46), u.oneCell' = true) := Lib.hid fun u hu => flat_one encN_one D u (List.mem_of_mem_take hu)
  have hone2 : Hid (∀ u ∈ (D.flatMap encN).drop (k * 46), u.oneCell' = true) := Lib.hid fun u hu => flat_one encN_one D u (List.mem_of_mem_drop hu)
  have hone3 : Hid (∀ u ∈ encN e, u.oneCell' = true) := Lib.hid (encN_one e)
  have hkI : (k : Int) ≤ (N : Int) := by omega
  have HCF := Lib.hid cf2
  have HA1 := Lib.hid hA1
  clear hS2 ct2 cf2 hA1
  generalize hT1 : (D.flatMap encN).take (k * 46) = T1 at *
  generalize hT2 : (D.flatMap encN).drop (k * 46) = T2 at *
  have HT := Lib.hid (And.intro hT1 hT2)
  clear hT1 hT2 HDX HDok
  go_upto_region 8 with (first
    | (at_builtin; refine wpList_app elEr rfl (.tmp 57) (.tmp 61) rfl wc.heap.size rfl hown0 rfl hct hone1.out (by unfold maxLen; omega) (by omega) (by simp) ?_; intro v5 w5 hown5 hc5 hb5)
    | fail)
  have hlt0 := own_lt hown0
  have hC5 : Chg [] wc w5 := HA1.out.trans' hc5 (fun x hx => .inr (by have := (hlt0 x hx).1; omega))
  have hD5 := HC5.out.trans hC5
  have hz5 := hC5.size
  have hR5 := (HE4.out.chg hD5 (by simp)).rangeQ
  have hcat := litEr w5 e
  have hown5a := own_chg hown5 ((Chg.refl [] w5).alloc (.cells (arrN e) 115)) (by simp)
  have HX5 := Lib.hid hC5
  clear hct hc5 hb5 c1 c1a hlt0 hC5 hD5
  go_upto_region 9 with (first
    | (refine wpList_row 115 (.tmp 3) rfl rfl (gp + 1) 0 rfl (arrN e) _ hR5 Try.underlying115 rfl infN2 ?_)
    | (at_builtin; refine wpList_app elEr rfl (.tmp 63) (.tmp 65) rfl wc.heap.size rfl hown5a rfl hcat hone3.out (by unfold maxLen; omega) (by omega) (by simp; omega) ?_; intro v6 w6 hown6 hc6 hb6)
    | fail)
  have hlt5 := own_lt hown5a
  have hC6 : Chg [] wc w6 := (HX5.out.alloc _).trans' hc6 (fun x hx => .inr (by have := (hlt5 x hx).1; omega))
  have hD6 := HC5.out.trans hC6
  have k1 : w6.cell? ⟨gp, 2, none⟩ = some (.slice A' N cp') := (HB4.out.chg hD6 (by simp)).cell 2
  have hz6 := hC6.size
  have hcf6 := HCF.out.chg0 hC6
  have hlt6 := own_lt hown6
  clear hc6 hb6 hcat hown5a hlt5 hR5
  go_wp2_with (first
    | (at_builtin; refine wpList_app elEr rfl (.tmp 67) (.tmp 71) rfl wc.heap.size rfl hown6 rfl hcf6 hone2.out (by unfold maxLen; omega) (by omega) (by omega) ?_; intro v7 w7 hown7 hc7 hb7; rw [show 0 + k + 1 + (N - k) = N + 1 by omega] at hown7; have hC7 : Chg [] wc w7 := hC6.trans' hc7 (fun x hx => .inr (by have := (hlt6 x hx).1; omega)); have hD7 := HC5.out.trans hC7; have HK7 := HB4.out.chg hD7 (by simp); obtain ⟨A7, cap7, rfl⟩ := Sl.form (Sl.of_own hown7); have q7 := HK7.cell 2; have f7 := HK7.frozen 2; have l7 := HK7.lt; have R7 := Lib.hid (HK7.set_ 2 (.slice A7 (N + 1) cap7)).rangeQ; have hB7 := HBR4.out.chg hD7 (by simp); have hB8 := hB7.far (p := ⟨gp, 2, none⟩) (by simp; omega) (.slice A7 (N + 1) cap7); clear hc7 hb7 hcf6 hlt6 hC6 k1 hB7)
    | (refine wpList_row 110 (.tmp 2) rfl rfl gp 0 rfl _ _ R7.out Try.underlying110 rfl infT ?_)
    | (refine wpList_store_blk rfl 110 _ _ rfl rfl hB8 rfl rfl rfl (by kernel_rfl) rfl ?_; intro w9 hB9 hc9)
    | fail)
  refine bodyPost_ret (results_blk2 rfl rfl hB9 _ Try.underlying110 rfl (by kernel_rfl)) rfl ?_
  have hfl : T1 ++ (encN e ++ T2) = (rputL L e).flatMap encN := by
    rw [hrp.out, HAT.out, ← HT.out.1, ← HT.out.2, flat_take encN_len, flat_drop encN_len]
    simp
  have hll : (rputL L e).length = N + 1 := by
    rw [hrp.out, HAT.out]
    have := HNN.out
    simp; omega
  have hz7 := hC7.size
  have hcS : Chg [gp, gp + 1 + 1] w7 w9 := (((Chg.refl [gp] w7).setCell (p := ⟨gp, 2, none⟩) (.inl (by simp)) _).more (by simp)).trans (hc9.more (by simp))
  have hlt7 := own_lt hown7
  refine ⟨_, rfl, ?_, (HC4.out.trans hD7).trans' hcS (by intro x hx; simp at hx; rcases hx with rfl | rfl <;> exact .inr (by omega))⟩
  unfold SlN
  rw [hll, ← hfl]
  have h8 := own_chg hown7 hcS (by intro x hx hm; have := (hlt7 x hx).1; simp at hm; omega)
  have h9 := (Sl.of_own h8).less (B' := gp) (by have := HC4.out.size; omega)
  simpa using h9
end
end Go.Proofs.Ytgbdbeaflilmlaa
namespace Go.Proofs.Ytgbdbeaflilmlaa
open Go.RowKit Go.Maps

section
variable {w : World} {v : Value} {L : List En} {n now : Int}
theorem busy_take {y : En} {k : Nat} (hy : L[k]? = some y) : ((L.take (k + 1)).filter busyE).length = ((L.take k).filter busyE).length + (if busyE y = true then 1 else 0) := by
  rw [List.take_add_one, hy, List.filter_append, List.length_append]
  simp only [Option.toList_some, List.filter_cons, List.filter_nil]
  split <;> rfl
set_option maxRecDepth 100000 in
set_option maxHeartbeats 2000000 in
theorem rbusy30 (h : SlN w 0 v L) (hL : L.length ≤ 64) :
    Calls Try.prog 50 #[.agg (arrT n now v)] w fun x w' => x = .returned (.int .i64 ((L.filter busyE).length : Nat)) ∧ Chg [] w w' := by
  obtain ⟨A, cp, rfl⟩ := Sl.form h
  have hA := (Chg.refl [] w).alloc (.cells (arrT n now (.slice A L.length cp)) 110)
  have hBp : Blk (w.alloc (.cells (arrT n now (.slice A L.length cp)) 110)) w.heap.size 110 (arrT n now (.slice A L.length cp)) := Blk.new _ _ _
  have HI := Lib.hid (And.intro hA hBp)
  have HR := Lib.hid (fun W (hc : Chg [] w W) i (r : En) (hr : L[i]? = some r) => SlN.one (h.chg0 hc) hr)
  have HX : Hid (∀ i, i < L.length → ∃ r, L[i]? = some r) := Lib.hid fun i hi => ⟨_, List.getElem?_eq_getElem hi⟩
  have HBZ : Hid (∀ e, busyE e = ((e.kind == 2) && (decide (1 ≤ e.st) && decide (e.st ≤ 3)))) := Lib.hid busyE_val
  clear h hA hBp
  generalize hN : L.length = N at *
  have HNN : Hid (L.length = N) := Lib.hid hN
  clear hN
  go_enter Try.func50, Try.ntmps50
  go_upto_region 1 with fail
  generalize w.alloc (.cells (arrT n now (.slice A N cp)) 110) = w1 at *
  generalize hg : w.heap.size = gp at *
  go_wp2_with fail
  go_loopw [3, 4] (fun nv iv wr => ∃ k : Nat, k ≤ N ∧ iv = .int .i64 k ∧ nv = .int .i64 (((L.take k).filter busyE).length : Nat) ∧ Hid (Chg [] w1 wr)) (fun _ iv _ => N - (intOf iv).toNat)
  case atStart => exact ⟨0, by omega, rfl, rfl, Lib.hid (Chg.refl _ _)⟩
  case round =>
    obtain ⟨k, hk, rfl, rfl, HC⟩ := hrel
    have c2 : wr.cell? ⟨gp, 2, none⟩ = some (.slice A N cp) := (HI.out.2.chg HC.out (by simp)).cell 2
    by_cases hlt : k < N
    · obtain ⟨y, hy⟩ := HX.out k hlt
      obtain ⟨b, o, rfl, hrg⟩ := HR.out _ (HI.out.1.trans HC.out) k y hy
      have HTK := Lib.hid (busy_take hy)
      have hcb : ((L.take k).filter busyE).length ≤ k := Nat.le_trans (List.length_filter_le _ _) (by rw [List.length_take]; omega)
      have ks : wr.cell? ⟨b, o + k * 46 + 39, none⟩ = some (.int .i64 y.st) := hrg 39 _ rfl
      have kk : wr.cell? ⟨b, o + k * 46 + 34, none⟩ = some (.int .i64 y.kind) := hrg 34 _ rfl
      have hbz := HBZ.out y
      generalize ((L.take k).filter busyE).length = m at *
      generalize hbv : busyE y = bv at *
      have HBV := Lib.hid hbz
      clear hy hrg hbz hbv
      go_upto_region 6 with fail
      go_cut [34] (fun v wx => v = .bool bv ∧ wr = wx)
      case first =>
        have hb := HBV.out
        clear HBV
        generalize hk2 : (y.kind == 2) = bk at *
        cases bk with
        | false =>
          simp only [Bool.false_and] at hb
          have HB := Lib.hid hb
          clear hb
          go_wp2_with fail
          go_meet
          exact ⟨congrArg Value.bool HB.out.symm, rfl⟩
        | true =>
          generalize hs1 : decide (1 ≤ y.st) = b1 at *
          cases b1 with
          | false =>
            simp only [Bool.false_and, Bool.and_false] at hb
            have HB := Lib.hid hb
            clear hb
            go_wp2_with fail
            go_meet
            exact ⟨congrArg Value.bool HB.out.symm, rfl⟩
          | true =>
            simp only [Bool.true_and] at hb
            have HB := Lib.hid hb
            clear hb
            go_wp2_with fail
            go_meet
            exact ⟨congrArg Value.bool HB.out.symm, rfl⟩
      case rest =>
      obtain ⟨rfl, rfl⟩ := hcut
      cases bv with
      | true =>
        go_wp2_with fail
        go_roundw
        case rel => exact ⟨k + 1, by omega, by go_num, by rw [HTK.out]; go_num, HC⟩
        case measure => simp [intOf]; omega
      | false =>
        go_wp2_with fail
        go_roundw
        case rel => exact ⟨k + 1, by omega, by go_num, by rw [HTK.out]; rfl, HC⟩
        case measure => simp [intOf]; omega
    · obtain rfl : k = N := by omega
      go_wp2_with fail
      go_ret
      refine ⟨?_, HI.out.1.trans HC.out⟩
      rw [← HNN.out, List.take_length]
      rfl
theorem gone_take {now : Int} {y : En} {k : Nat} (hy : L[k]? = some y) (h : y.til ≤ now) : (rgone now (L.take (k + 1))).map (·.fl) = (rgone now (L.take k)).map (·.fl) ++ [y.fl] ∧ rrest now (L.take (k + 1)) = rrest now (L.take k) := by
  unfold rgone rrest
  rw [List.take_add_one, hy, List.filter_append, List.filter_append]
  simp [h]
theorem rest_take {now : Int} {y : En} {k : Nat} (hy : L[k]? = some y) (h : ¬ y.til ≤ now) : (rgone now (L.take (k + 1))).map (·.fl) = (rgone now (L.take k)).map (·.fl) ∧ rrest now (L.take (k + 1)) = rrest now (L.take k) ++ [y] := by
  unfold rgone rrest
  rw [List.take_add_one, hy, List.filter_append, List.filter_append]
  have : now < y.til := by omega
  simp [this]
/-- Two rows of the walk's own. -/
structure TwoR (w : World) (B : Nat) (v4 v5 : Value) (F : List Fl) (R : List En) : Prop where
  f : w.ownsRow B 73 34 v4 F.length (F.flatMap encF)
  r : w.ownsRow B 115 46 v5 R.length (R.flatMap encN)
  ap : ApC v4.ownBlock.toList v5.ownBlock.toList
theorem TwoR.chg0 {w w' : World} {B : Nat} {v4 v5 : Value} {F : List Fl} {R : List En} (h : TwoR w B v4 v5 F R) (hc : Chg [] w w') : TwoR w' B v4 v5 F R := ⟨own_chg h.f hc (by simp), own_chg h.r hc (by simp), h.ap⟩
theorem TwoR.addF {w w' : World} {B : Nat} {v4 v5 v' : Value} {F F' : List Fl} {R : List En} (h : TwoR w B v4 v5 F R) (ho : w'.ownsRow B 73 34 v' F'.length (F'.flatMap encF)) (hc : Chg v4.ownBlock.toList w w') (hb : v'.ownBlock = v4.ownBlock ∨ v'.ownBlock = some w.heap.size) : TwoR w' B v' v5 F' R := by
  refine ⟨ho, own_chg h.r hc (fun x hx hm => h.ap x hm hx), fun x hx hm => ?_⟩
  rcases hb with e | e
  · rw [e] at hx; exact h.ap x hx hm
  · rw [e] at hx
    simp at hx
    have := (own_lt h.r x hm).2
    omega
theorem TwoR.addR {w w' : World} {B : Nat} {v4 v5 v' : Value} {F : List Fl} {R R' : List En} (h : TwoR w B v4 v5 F R) (ho : w'.ownsRow B 115 46 v' R'.length (R'.flatMap encN)) (hc : Chg v5.ownBlock.toList w w') (hb : v'.ownBlock = v5.ownBlock ∨ v'.ownBlock = some w.heap.size) : TwoR w' B v4 v' F R' := by
  refine ⟨own_chg h.f hc (fun x hx hm => h.ap x hx hm), ho, fun x hx hm => ?_⟩
  rcases hb with e | e
  · rw [e] at hm; exact h.ap x hx hm
  · rw [e] at hm
    simp at hm
    have := (own_lt h.f x hx).2
    omega
end
end Go.Proofs.Ytgbdbeaflilmlaa
namespace Go.Proofs.Ytgbdbeaflilmlaa
open Go.RowKit Go.Maps

section
variable {w : World} {v : Value} {L : List En} {n now : Int}
set_option maxRecDepth 100000 in
set_option maxHeartbeats 4000000 in
theorem rtick30 (h : SlN w 0 v L) (hok : okL L) (hL : L.length ≤ 64) (hn0 : 0 ≤ now) (hn1 : now ≤ 100000) :
    Calls Try.prog 46 #[.agg (arrT n now v)] w fun x w' => ∃ v1 v2, x = .returned (.tuple #[.agg (arrT n (now + 1) v1), v2]) ∧ SlN w' w.heap.size v1 (rrest (now + 1) L) ∧ Sl w' w.heap.size 34 v2 ((rgone (now + 1) L).map (·.fl)).length (((rgone (now + 1) L).map (·.fl)).flatMap encF) ∧ Chg [] w w' := by
  obtain ⟨A, cp, rfl⟩ := Sl.form h
  have hwr : wrap64 (now + 1) = now + 1 := by unfold wrap64; omega
  have hA0 := (Chg.refl [] w).alloc (.cells (arrT n now (.slice A L.length cp)) 110)
  have hA := hA0.alloc (.cells (arrT 0 0 (.slice none 0 0)) 110)
  have hBp0 : Blk (w.alloc (.cells (arrT n now (.slice A L.length cp)) 110)) w.heap.size 110 (arrT n now (.slice A L.length cp)) := Blk.new _ _ _
  have hBp := hBp0.alloc (.cells (arrT 0 0 (.slice none 0 0)) 110)
  have hBr : Blk ((w.alloc (.cells (arrT n now (.slice A L.length cp)) 110)).alloc (.cells (arrT 0 0 (.slice none 0 0)) 110)) (w.heap.size + 1) 110 (arrT 0 0 (.slice none 0 0)) := Blk.new' (by simp)
  generalize hw2 : (w.alloc (.cells (arrT n now (.slice A L.length cp)) 110)).alloc (.cells (arrT 0 0 (.slice none 0 0)) 110) = w2 at *
  have hsz2 : w2.heap.size = w.heap.size + 2 := by rw [← hw2]; simp
  generalize hgp : w.heap.size = gp at *
  have hBq : Blk (w2.setCell ⟨gp, 1, none⟩ (.int .i64 (now + 1))) gp 110 (arrT n (now + 1) (.slice A L.length cp)) := hBp.set_ 1 _
  have hBs : Blk (w2.setCell ⟨gp, 1, none⟩ (.int .i64 (now + 1))) (gp + 1) 110 (arrT 0 0 (.slice none 0 0)) := hBr.far (by simp) _
  have hAq : Chg [] w (w2.setCell ⟨gp, 1, none⟩ (.int .i64 (now + 1))) := hA.trans' ((Chg.refl [gp] w2).setCell (p := ⟨gp, 1, none⟩) (.inl (by simp)) _) (by intro x hx; simp at hx; subst hx; exact .inr (by omega))
  have c1 : w2.cell? ⟨gp, 1, none⟩ = some (.int .i64 now) := hBp.cell 1
  have f1 : w2.frozen? ⟨gp, 1, none⟩ = false := hBp.frozen 1
  have hsq : (w2.setCell ⟨gp, 1, none⟩ (.int .i64 (now + 1))).heap.size = gp + 2 := by simp; omega
  have HI := Lib.hid (And.intro hAq (And.intro hBq hBs))
  have HR := Lib.hid (fun W (hc : Chg [] w W) i (r : En) (hr : L[i]? = some r) => SlN.one (h.chg0 hc) hr)
  have HX : Hid (∀ i, i < L.length → ∃ r, L[i]? = some r) := Lib.hid fun i hi => ⟨_, List.getElem?_eq_getElem hi⟩
  clear h hA0 hA hBp0 hBp hBr hAq hBq hBs hok
  generalize hN : L.length = N at *
  have HNN : Hid (L.length = N) := Lib.hid hN
  clear hN
  go_enter Try.func46, Try.ntmps46
  go_upto_region 2 with fail
  generalize w2.setCell ⟨gp, 1, none⟩ (.int .i64 (now + 1)) = w3 at *
  try simp only [hwr]
  clear c1 f1 hwr
  generalize hnow : now + 1 = nw at *
  go_wp2_with fail
  go_loopw [4, 5, 6] (fun gv rv iv wr => ∃ k : Nat, k ≤ N ∧ iv = .int .i64 k ∧ Hid (TwoR wr w3.heap.size gv rv ((rgone nw (L.take k)).map (·.fl)) (rrest nw (L.take k)) ∧ Chg [] w3 wr)) (fun _ _ iv _ => N - (intOf iv).toNat)
  case atStart => exact ⟨0, by omega, rfl, Lib.hid ⟨⟨World.ownsRow_nil .., World.ownsRow_nil .., by simp [ApC, Value.ownBlock]⟩, Chg.refl _ _⟩⟩
  case round =>
    obtain ⟨k, hk, rfl, HH⟩ := hrel
    have hcr := HH.out.2
    have c2 : wr.cell? ⟨gp, 2, none⟩ = some (.slice A N cp) := (HI.out.2.1.chg hcr (by simp)).cell 2
    by_cases hlt : k < N
    · obtain ⟨y, hy⟩ := HX.out k hlt
      obtain ⟨b, o, rfl, hrg⟩ := HR.out _ (HI.out.1.trans hcr) k y hy
      have R1 : Hid (∀ W (hc : Chg [] wr W), W.cell? ⟨gp, 2, none⟩ = some (.slice (some ⟨b, o, none⟩) N cp)) := Lib.hid (fun W hc => hc.cell c2 (by simp))
      have R2 : Hid (∀ W (hc : Chg [] wr W), W.cell? ⟨b, o + k * 46 + 38, none⟩ = some (.int .i64 y.til)) := Lib.hid (fun W hc => rangeAt_chg hrg hc (by simp) 38 _ rfl)
      have R3 : Hid (∀ W (hc : Chg [] wr W), W.cell? ⟨gp, 1, none⟩ = some (.int .i64 nw)) := Lib.hid (fun W hc => (HI.out.2.1.chg (hcr.trans hc) (by simp)).cell 1)
      have R4 := Lib.hid (fun W (hc : Chg [] wr W) => rangeAt_chg hrg hc (by simp))
      have HY := Lib.hid hy
      have HLT := Lib.hid hlt
      have hfl : ((rgone nw (L.take k)).map (·.fl)).length ≤ 64 := by
        rw [List.length_map]
        exact Nat.le_trans (List.length_filter_le _ _) (by rw [List.length_take]; have := HNN.out; omega)
      have hrl : (rrest nw (L.take k)).length ≤ 64 := Nat.le_trans (List.length_filter_le _ _) (by rw [List.length_take]; have := HNN.out; omega)
      have hwz := hcr.size
      clear hy hrg hcr
      go_upto_region 7 with fail
      clear c2
      by_cases hdt : y.til ≤ nw
      · obtain ⟨e1, e2⟩ := gone_take HY.out hdt
        have HE := Lib.hid (And.intro e1 e2)
        have hdt2 : decide (y.til ≤ nw) = true := decide_eq_true hdt
        clear e1 e2
        refine wp_region_chg (by kernel_rfl) (by kernel_rfl) ?_
        (with_reducible refine wpQuiet_pure (v := ?_) ?_ (fun w => ?_) ?_); rotate_left; (focus rfl); (focus (go_simp <;> with_reducible rfl)); (try simp only [List.getElem_toArray, List.getElem_cons_succ, List.getElem_cons_zero, Act.put, List.setIfInBounds_toArray, List.set_cons_zero, List.set_cons_succ])
        (with_reducible refine wpQuiet_cellC 108 (.tmp 18) ?_ ?_ gp 2 ?_ (.slice (some ⟨b, o, none⟩) N cp) _ R1.out Try.underlying108 ?_ ?_); (focus rfl); (focus rfl); (focus rfl); (focus rfl); (try simp only [List.getElem_toArray, List.getElem_cons_succ, List.getElem_cons_zero, Act.put, List.setIfInBounds_toArray, List.set_cons_zero, List.set_cons_succ])
        (with_reducible refine wpQuiet_pure (v := ?_) ?_ (fun w => ?_) ?_); rotate_left; (focus rfl); (focus (go_simp <;> with_reducible rfl)); (try simp only [List.getElem_toArray, List.getElem_cons_succ, List.getElem_cons_zero, Act.put, List.setIfInBounds_toArray, List.set_cons_zero, List.set_cons_succ])
        (with_reducible refine wpQuiet_pure (v := ?_) ?_ (fun w => ?_) ?_); rotate_left; (focus rfl); (focus (go_simp <;> with_reducible rfl)); (try simp only [List.getElem_toArray, List.getElem_cons_succ, List.getElem_cons_zero, Act.put, List.setIfInBounds_toArray, List.set_cons_zero, List.set_cons_succ])
        (with_reducible refine wpQuiet_pure (v := ?_) ?_ (fun w => ?_) ?_); rotate_left; (focus rfl); (focus (go_simp <;> with_reducible rfl)); (try simp only [List.getElem_toArray, List.getElem_cons_succ, List.getElem_cons_zero, Act.put, List.setIfInBounds_toArray, List.set_cons_zero, List.set_cons_succ])
        (with_reducible refine wpQuiet_cellC 3 (.tmp 22) ?_ ?_ b _ ?_ (.int .i64 y.til) _ R2.out Try.underlying3 ?_ ?_); (focus rfl); (focus rfl); (focus rfl); (focus rfl); (try simp only [List.getElem_toArray, List.getElem_cons_succ, List.getElem_cons_zero, Act.put, List.setIfInBounds_toArray, List.set_cons_zero, List.set_cons_succ])
        (with_reducible refine wpQuiet_pure (v := ?_) ?_ (fun w => ?_) ?_); rotate_left; (focus rfl); (focus (go_simp <;> with_reducible rfl)); (try simp only [List.getElem_toArray, List.getElem_cons_succ, List.getElem_cons_zero, Act.put, List.setIfInBounds_toArray, List.set_cons_zero, List.set_cons_succ])
        (with_reducible refine wpQuiet_cellC 3 (.tmp 24) ?_ ?_ gp 1 ?_ (.int .i64 nw) _ R3.out Try.underlying3 ?_ ?_); (focus rfl); (focus rfl); (focus rfl); (focus rfl); (try simp only [List.getElem_toArray, List.getElem_cons_succ, List.getElem_cons_zero, Act.put, List.setIfInBounds_toArray, List.set_cons_zero, List.set_cons_succ])
        (with_reducible refine wpQuiet_pure (v := ?_) ?_ (fun w => ?_) ?_); rotate_left; (focus rfl); (focus (go_simp <;> with_reducible rfl)); (try simp only [List.getElem_toArray, List.getElem_cons_succ, List.getElem_cons_zero, Act.put, List.setIfInBounds_toArray, List.set_cons_zero, List.set_cons_succ])
        refine wpQuiet_nil ?_
        intro w5 hc5
        have HC5 := Lib.hid hc5
        have c2 := R1.out w5 hc5
        have hr4 := rgN_fl (R4.out w5 hc5)
        have hT := HH.out.1.chg0 hc5
        have hrow := own_chg hT.f ((Chg.refl [] w5).alloc (.cells (arrF y.fl) 73)) (by simp)
        have hcat := litFl w5 y.fl
        have hone : Hid (∀ u ∈ encF y.fl, u.oneCell' = true) := Lib.hid (encF_one y.fl)
        have hwz5 := hc5.size
        have HT := Lib.hid hT
        have c2a := ((Chg.refl [] w5).alloc (.cells (arrF y.fl) 73)).cell c2 (by simp)
        clear hc5 R1 R2 R3 R4 hT hdt
        go_wp2_with (first
          | (refine wpList_row 73 (.tmp 32) rfl rfl b _ rfl (arrF y.fl) _ hr4 Try.underlying73 rfl infF ?_)
          | (at_builtin; refine wpList_app elFl rfl (.tmp 27) (.tmp 34) rfl w3.heap.size rfl hrow rfl hcat hone.out (by unfold maxLen; omega) (by omega) (by first | omega | (simp; omega)) ?_; intro v9 w9 hown9 hc9 hb9)
          | fail)
        have hT9 := (HT.out.chg0 ((Chg.refl [] w5).alloc (.cells (arrF y.fl) 73))).addF (F' := (rgone nw (L.take (k + 1))).map (·.fl)) (by rw [HE.out.1, ← flat_snoc, List.length_append]; exact hown9) hc9 hb9
        rw [← HE.out.2] at hT9
        have hcc : Chg [] w3 w9 := ((HH.out.2.trans HC5.out).alloc (.cells (arrF y.fl) 73)).trans' hc9 (fun x hx => .inr (own_lt hrow x hx).1)
        have HZ := Lib.hid (And.intro hT9 hcc)
        clear hT9 hcc hown9 hc9 hb9 hrow hcat hr4
        go_roundw
        case rel => exact ⟨k + 1, HLT.out, by go_num, HZ⟩
        case measure => have := HLT.out; simp [intOf]; omega
      · obtain ⟨e1, e2⟩ := rest_take HY.out hdt
        have HE := Lib.hid (And.intro e1 e2)
        have hdt2 : decide (y.til ≤ nw) = false := decide_eq_false hdt
        clear e1 e2
        refine wp_region_chg (by kernel_rfl) (by kernel_rfl) ?_
        (with_reducible refine wpQuiet_pure (v := ?_) ?_ (fun w => ?_) ?_); rotate_left; (focus rfl); (focus (go_simp <;> with_reducible rfl)); (try simp only [List.getElem_toArray, List.getElem_cons_succ, List.getElem_cons_zero, Act.put, List.setIfInBounds_toArray, List.set_cons_zero, List.set_cons_succ])
        (with_reducible refine wpQuiet_cellC 108 (.tmp 18) ?_ ?_ gp 2 ?_ (.slice (some ⟨b, o, none⟩) N cp) _ R1.out Try.underlying108 ?_ ?_); (focus rfl); (focus rfl); (focus rfl); (focus rfl); (try simp only [List.getElem_toArray, List.getElem_cons_succ, List.getElem_cons_zero, Act.put, List.setIfInBounds_toArray, List.set_cons_zero, List.set_cons_succ])
        (with_reducible refine wpQuiet_pure (v := ?_) ?_ (fun w => ?_) ?_); rotate_left; (focus rfl); (focus (go_simp <;> with_reducible rfl)); (try simp only [List.getElem_toArray, List.getElem_cons_succ, List.getElem_cons_zero, Act.put, List.setIfInBounds_toArray, List.set_cons_zero, List.set_cons_succ])
        (with_reducible refine wpQuiet_pure (v := ?_) ?_ (fun w => ?_) ?_); rotate_left; (focus rfl); (focus (go_simp <;> with_reducible rfl)); (try simp only [List.getElem_toArray, List.getElem_cons_succ, List.getElem_cons_zero, Act.put, List.setIfInBounds_toArray, List.set_cons_zero, List.set_cons_succ])
        (with_reducible refine wpQuiet_pure (v := ?_) ?_ (fun w => ?_) ?_); rotate_left; (focus rfl); (focus (go_simp <;> with_reducible rfl)); (try simp only [List.getElem_toArray, List.getElem_cons_succ, List.getElem_cons_zero, Act.put, List.setIfInBounds_toArray, List.set_cons_zero, List.set_cons_succ])
        (with_reducible refine wpQuiet_cellC 3 (.tmp 22) ?_ ?_ b _ ?_ (.int .i64 y.til) _ R2.out Try.underlying3 ?_ ?_); (focus rfl); (focus rfl); (focus rfl); (focus rfl); (try simp only [List.getElem_toArray, List.getElem_cons_succ, List.getElem_cons_zero, Act.put, List.setIfInBounds_toArray, List.set_cons_zero, List.set_cons_succ])
        (with_reducible refine wpQuiet_pure (v := ?_) ?_ (fun w => ?_) ?_); rotate_left; (focus rfl); (focus (go_simp <;> with_reducible rfl)); (try simp only [List.getElem_toArray, List.getElem_cons_succ, List.getElem_cons_zero, Act.put, List.setIfInBounds_toArray, List.set_cons_zero, List.set_cons_succ])
        (with_reducible refine wpQuiet_cellC 3 (.tmp 24) ?_ ?_ gp 1 ?_ (.int .i64 nw) _ R3.out Try.underlying3 ?_ ?_); (focus rfl); (focus rfl); (focus rfl); (focus rfl); (try simp only [List.getElem_toArray, List.getElem_cons_succ, List.getElem_cons_zero, Act.put, List.setIfInBounds_toArray, List.set_cons_zero, List.set_cons_succ])
        (with_reducible refine wpQuiet_pure (v := ?_) ?_ (fun w => ?_) ?_); rotate_left; (focus rfl); (focus (go_simp <;> with_reducible rfl)); (try simp only [List.getElem_toArray, List.getElem_cons_succ, List.getElem_cons_zero, Act.put, List.setIfInBounds_toArray, List.set_cons_zero, List.set_cons_succ])
        refine wpQuiet_nil ?_
        intro w5 hc5
        have HC5 := Lib.hid hc5
        have c2 := R1.out w5 hc5
        have hr4 := R4.out w5 hc5
        have hT := HH.out.1.chg0 hc5
        have hrow := own_chg hT.r ((Chg.refl [] w5).alloc (.cells (arrN y) 115)) (by simp)
        have hcat := litEr w5 y
        have hone : Hid (∀ u ∈ encN y, u.oneCell' = true) := Lib.hid (encN_one y)
        have hwz5 := hc5.size
        have HT := Lib.hid hT
        clear hc5 R1 R2 R3 R4 hT hdt
        go_wp2_with (first
          | (refine wpList_row 115 (.tmp 40) rfl rfl b _ rfl (arrN y) _ hr4 Try.underlying115 rfl infN2 ?_)
          | (at_builtin; refine wpList_app elEr rfl (.tmp 36) (.tmp 42) rfl w3.heap.size rfl hrow rfl hcat hone.out (by unfold maxLen; omega) (by omega) (by first | omega | (simp; omega)) ?_; intro v9 w9 hown9 hc9 hb9)
          | fail)
        have hT9 := (HT.out.chg0 ((Chg.refl [] w5).alloc (.cells (arrN y) 115))).addR (R' := rrest nw (L.take (k + 1))) (by rw [HE.out.2, ← flat_snoc, List.length_append]; exact hown9) hc9 hb9
        rw [← HE.out.1] at hT9
        have hcc : Chg [] w3 w9 := ((HH.out.2.trans HC5.out).alloc (.cells (arrN y) 115)).trans' hc9 (fun x hx => .inr (own_lt hrow x hx).1)
        have HZ := Lib.hid (And.intro hT9 hcc)
        clear hT9 hcc hown9 hc9 hb9 hrow hcat hr4
        go_roundw
        case rel => exact ⟨k + 1, HLT.out, by go_num, HZ⟩
        case measure => have := HLT.out; simp [intOf]; omega
    · obtain rfl : k = N := by omega
      have hB3 := HI.out.2.1.chg hcr (by simp)
      have hlk : L.take k = L := by rw [← HNN.out]; exact List.take_length
      have hT := HH.out.1
      rw [hlk] at hT
      obtain ⟨A5, c5, e5⟩ := Sl.form (Sl.of_own hT.r)
      subst e5
      have q2 := hB3.cell 2
      have g2 := hB3.frozen 2
      have R7 := Lib.hid (hB3.set_ 2 (.slice A5 (rrest nw L).length c5)).rangeQ
      have hB8 := (HI.out.2.2.chg hcr (by simp)).far (p := ⟨gp, 2, none⟩) (by simp) (.slice A5 (rrest nw L).length c5)
      have HT := Lib.hid hT
      have HCR := Lib.hid hcr
      have hwz := hcr.size
      clear hT hB3 hlk hcr
      go_wp2_with (first
        | (refine wpList_row 110 (.tmp 1) rfl rfl gp 0 rfl _ _ R7.out Try.underlying110 rfl infT ?_)
        | (refine wpList_store_blk rfl 110 _ _ rfl rfl hB8 rfl rfl rfl (by kernel_rfl) rfl ?_; intro w9 hB9 hc9)
        | fail)
      refine bodyPost_ret (results_blk2 rfl rfl hB9 _ Try.underlying110 rfl (by kernel_rfl)) rfl ?_
      have hcS : Chg [gp, gp + 1] wr w9 := (((Chg.refl [gp] wr).setCell (p := ⟨gp, 2, none⟩) (.inl (by simp)) _).more (by simp)).trans (hc9.more (by simp))
      have l4 := own_lt HT.out.f
      have l5 := own_lt HT.out.r
      subst hnow
      refine ⟨_, _, rfl, ?_, ?_, (HI.out.1.trans HCR.out).trans' hcS (by intro x hx; simp at hx; rcases hx with rfl | rfl <;> exact .inr (by omega))⟩
      · exact (Sl.of_own (own_chg HT.out.r hcS (by intro x hx hm; have := (l5 x hx).1; simp at hm; omega))).less (by have := HI.out.1.size; omega)
      · exact (Sl.of_own (own_chg HT.out.f hcS (by intro x hx hm; have := (l4 x hx).1; simp at hm; omega))).less (by have := HI.out.1.size; omega)
end
end Go.Proofs.Ytgbdbeaflilmlaa
namespace Go.Proofs.Ytgbdbeaflilmlaa
open Go.RowKit Go.Maps

theorem SlO3.chg0 {w w' : World} {B : Nat} {v : Value} {l : List Op3} (h : SlO3 w B v l) (hc : Chg [] w w') : SlO3 w' B v l := Sl.chg0 h hc
theorem SlO3.one {w : World} {B : Nat} {A : Option Addr} {n c : Nat} {l : List Op3} (h : SlO3 w B (.slice A n c) l) {i : Nat} {x : Op3} (hx : l[i]? = some x) :
    ∃ b o, A = some ⟨b, o, none⟩ ∧ w.cell? ⟨b, o + i * 47, none⟩ = some (.int .i64 x.kind) ∧ w.rangeAt b (o + i * 47 + 1) (arrN x.e).toList := by
  obtain ⟨b, o, c', hv, _, _, hc⟩ := Sl.rec encO3_len (by omega) h hx
  simp only [Value.slice.injEq] at hv
  obtain ⟨rfl, _, _⟩ := hv
  refine ⟨b, o, rfl, hc 0 (by omega), fun j u hu => ?_⟩
  have hj : j < 46 := by have := (List.getElem?_eq_some_iff.1 hu).1; exact this
  have := hc (1 + j) (by omega)
  rw [show o + i * 47 + 1 + j = o + (i * 47 + (1 + j)) by omega, this]
  show (encO3 x)[1 + j]? = some u
  unfold encO3
  rw [show 1 + j = j + 1 by omega, List.getElem?_cons_succ]
  exact hu
/-- A row of entries that the memory S does not touch. -/
structure RowS (w : World) (v : Value) (L : List En) (S : List Nat) : Prop where
  sl : SlN w 0 v L
  ap : ∀ b o n c, v = .slice (some ⟨b, o, none⟩) n c → 0 < n → b ∉ S ∧ b < w.heap.size
theorem RowS.nil (w : World) (S : List Nat) : RowS w (.slice none 0 0) [] S := ⟨Sl.nil _ _ _, fun b o n c h => by simp at h⟩
theorem RowS.new {w : World} {v : Value} {L : List En} {S : List Nat} {B : Nat} (h : SlN w B v L) (hS : ∀ x ∈ S, x < B) : RowS w v L S := by
  refine ⟨h.less (Nat.zero_le _), fun b o n c hv hn => ?_⟩
  have hl : n = L.length := by
    obtain ⟨A, c', hv2⟩ := Sl.form h
    rw [hv] at hv2
    simp only [Value.slice.injEq] at hv2
    exact hv2.2.1
  have hx : L[0]? = some L[0] := List.getElem?_eq_getElem (by omega)
  obtain ⟨b', o', c', hv', hB, _, hc⟩ := Sl.rec encN_len (by omega) h hx
  rw [hv] at hv'
  simp only [Value.slice.injEq, Option.some.injEq, Addr.mk.injEq, and_true] at hv'
  obtain ⟨⟨rfl, rfl⟩, _, _⟩ := hv'
  refine ⟨fun hm => by have := hS b hm; omega, ?_⟩
  have h0 := hc 0 (by omega)
  by_cases hb : b < w.heap.size
  · exact hb
  · have : w.heap[b]? = none := Array.getElem?_eq_none (by omega)
    simp only [World.cell?, this] at h0
    cases hl0 : (encN L[0])[0]? with
    | none => exact absurd (List.getElem?_eq_none_iff.1 hl0) (by rw [encN_len]; omega)
    | some u => rw [hl0] at h0; cases h0
theorem RowS.chg {w w' : World} {v : Value} {L : List En} {S T : List Nat} (h : RowS w v L S) (hc : Chg T w w') (hT : ∀ x ∈ T, x ∈ S ∨ w.heap.size ≤ x) : RowS w' v L S := by
  refine ⟨?_, fun b o n c hv hn => ⟨(h.ap b o n c hv hn).1, Nat.lt_of_lt_of_le (h.ap b o n c hv hn).2 hc.size⟩⟩
  obtain ⟨hl, A, c, rfl, hcap, hx⟩ := h.sl
  refine ⟨hl, A, c, rfl, hcap, fun h0 => ?_⟩
  obtain ⟨b, o, rfl, hB, hcell⟩ := hx h0
  obtain ⟨h1, h2⟩ := h.ap b o _ c rfl h0
  refine ⟨b, o, rfl, hB, fun j u hu => hc.cell (hcell j u hu) (fun hm => ?_)⟩
  rcases hT b hm with k | k
  · exact h1 k
  · omega
theorem RowS.grow {w : World} {v : Value} {L : List En} {S S' : List Nat} (h : RowS w v L S) (hS : ∀ x ∈ S', x ∈ S ∨ w.heap.size ≤ x) : RowS w v L S' :=
  ⟨h.sl, fun b o n c hv hn => ⟨fun hm => by
    obtain ⟨h1, h2⟩ := h.ap b o n c hv hn
    rcases hS b hm with k | k
    · exact h1 k
    · omega, (h.ap b o n c hv hn).2⟩⟩
theorem RowS.chg0 {w w' : World} {v : Value} {L : List En} {S : List Nat} (h : RowS w v L S) (hc : Chg [] w w') : RowS w' v L S := h.chg hc (by simp)
/-- The table is as it was where a block that is not its own has changed. -/
theorem CtS.far {W w w' : World} {tb K g : Nat} {c : TC} {S : List Nat} (h : CtS W w tb K c S) (hc : Chg [g] w w') (hg : g ∉ S) (hW : W.heap.size ≤ g) : CtS W w' tb K c S := by
  obtain ⟨⟨m1, m2, m3, q, nn, vs, sq, its, h1, h2, hr⟩, h3, h4, h5⟩ := h
  exact ⟨⟨m1, m2, m3, q, nn, vs, sq, its, h1.chg hc (fun x hx hm => by simp at hm; subst hm; rw [h2] at hg; exact hg hx), h2, hr⟩, h3, h4.trans' hc (by intro x hx; simp at hx; subst hx; exact .inr hW), h5⟩
/-- What holds of both sides behind K calls. -/
structure JC (W w : World) (tb gw K : Nat) (n : Int) (c : TC) (S : List Nat) (v : Value) (L : List En) : Prop where
  ct : CtS W w tb K c S
  bl : Blk w gw 110 (arrT n c.now v)
  gS : gw ∉ S
  gW : W.heap.size ≤ gw
  row : RowS w v L (gw :: S)
  rc : RC c L
  n : c.n = n
  ok : ∀ e ∈ L, okN e
theorem JC.chg0 {W w w' : World} {tb gw K : Nat} {n : Int} {c : TC} {S : List Nat} {v : Value} {L : List En} (h : JC W w tb gw K n c S v L) (hc : Chg [] w w') : JC W w' tb gw K n c S v L :=
  ⟨h.ct.chg0 hc, h.bl.chg hc (by simp), h.gS, h.gW, h.row.chg0 hc, h.rc, h.n, h.ok⟩
theorem JC.okL {W w : World} {tb gw K : Nat} {n : Int} {c : TC} {S : List Nat} {v : Value} {L : List En} (h : JC W w tb gw K n c S v L) : okL L := fun e he => (h.ok e he).fl
theorem JC.len {W w : World} {tb gw K : Nat} {n : Int} {c : TC} {S : List Nat} {v : Value} {L : List En} (h : JC W w tb gw K n c S v L) : L.length = c.l.length ∧ L.length ≤ 64 := by
  have := h.rc.len
  have := h.ct.ci.len
  have := h.ct.ci.n1
  omega
/-- The table's side has gone on. -/
theorem JC.step {W w w' : World} {tb gw K K' : Nat} {n : Int} {c c' : TC} {S S' : List Nat} {v : Value} {L : List En} (h : JC W w tb gw K n c S v L) (ht : CtS W w' tb K' c' S') (hc : Chg S w w') (hf : ∀ x ∈ S', x ∈ S ∨ w.heap.size ≤ x) :
    gw ∉ S' ∧ Blk w' gw 110 (arrT n c.now v) ∧ RowS w' v L (gw :: S') := by
  refine ⟨fun hm => (hf gw hm).elim h.gS (fun k => by have := h.bl.lt; omega), h.bl.chg hc h.gS, ?_⟩
  have h1 : RowS w v L (gw :: S ++ S') := h.row.grow (fun x hx => by
    rcases List.mem_append.1 hx with hx | hx
    · exact .inl hx
    · exact (hf x hx).imp (List.mem_cons_of_mem _) id)
  have h2 : RowS w' v L (gw :: S ++ S') := h1.chg hc (fun x hx => .inl (by simp [hx]))
  exact h2.grow (fun x hx => .inl (by
    rcases List.mem_cons.1 hx with rfl | hx
    · simp
    · simp [hx]))
theorem JC.fin {W w1 w2 w3 : World} {tb gw K' : Nat} {n : Int} {c' : TC} {S' : List Nat} {v2 : Value} {L2 : List En} (ht : CtS W w1 tb K' c' S') (hgS : gw ∉ S') (hgW : W.heap.size ≤ gw) (hc : Chg [] w1 w2) (hc3 : Chg [gw] w2 w3)
    (hB : Blk w3 gw 110 (arrT n c'.now v2)) (hrow : RowS w3 v2 L2 (gw :: S')) (hrc : RC c' L2) (hn : c'.n = n) (hok : ∀ e ∈ L2, okN e) : JC W w3 tb gw K' n c' S' v2 L2 :=
  ⟨(ht.chg0 hc).far hc3 hgS hgW, hB, hgS, hgW, hrow, hrc, hn, hok⟩
/-- A new row behind the store. -/
theorem row_new {W w1 w2 w3 : World} {tb gw K' : Nat} {c' : TC} {S' : List Nat} {v2 : Value} {L2 : List En} (ht : CtS W w1 tb K' c' S') (hg : gw < w1.heap.size) (hs : SlN w2 w1.heap.size v2 L2) (hc3 : Chg [gw] w2 w3) : RowS w3 v2 L2 (gw :: S') := by
  refine RowS.new (B := w1.heap.size) (Sl.chg hs hc3 (by intro x hx; simp at hx; subst hx; exact hg)) (fun x hx => ?_)
  rcases List.mem_cons.1 hx with rfl | hx
  · exact hg
  · exact ht.lt x hx
theorem rdrop_sub {L : List En} {f : Fl} {e : En} (h : e ∈ rdropL L f) : e ∈ L := by
  unfold rdropL at h
  split at h
  · exact h
  · rcases List.mem_append.1 h with h | h
    · exact List.mem_of_mem_take h
    · exact List.mem_of_mem_drop h
theorem rput_sub {L : List En} {x e : En} (h : e ∈ rputL L x) : e ∈ L ∨ e = x := by
  unfold rputL at h
  rcases List.mem_append.1 h with h | h
  · exact .inl (rdrop_sub (List.mem_of_mem_take h))
  · rcases List.mem_cons.1 h with h | h
    · exact .inr h
    · exact .inl (rdrop_sub (List.mem_of_mem_drop h))
theorem put_cases {c : TC} {L : List En} (h : RC c L) (x : En) :
    (putC c x = (c, false) ∧ ((x.kind ≠ 1 ∧ x.kind ≠ 2) ∨ (idxE L x.fl = none ∧ c.n ≤ (L.length : Int)))) ∨
    (putC c x = (⟨c.n, c.now, c.last + 1, dropL c.l x.fl ++ [(x, c.last + 1)]⟩, true) ∧ (x.kind = 1 ∨ x.kind = 2) ∧ (idxE L x.fl ≠ none ∨ (L.length : Int) < c.n)) := by
  have hh := h.has x.fl
  have hl := h.len
  by_cases hk : x.kind = 1 ∨ x.kind = 2
  · by_cases hr : hasC c x.fl = false ∧ c.n ≤ (c.l.length : Int)
    · refine .inl ⟨?_, .inr ⟨?_, by omega⟩⟩
      · unfold putC
        rw [if_neg (by omega), if_pos hr]
      · rw [hr.1] at hh
        cases hi : idxE L x.fl with
        | none => rfl
        | some i => rw [hi] at hh; cases hh
    · refine .inr ⟨?_, hk, ?_⟩
      · unfold putC
        rw [if_neg (by omega), if_neg hr]
      · by_cases h2 : (L.length : Int) < c.n
        · exact .inr h2
        · refine .inl (fun hi => hr ⟨?_, by omega⟩)
          rw [hh, hi]; rfl
  · refine .inl ⟨?_, .inl (by omega)⟩
    unfold putC
    rw [if_pos (by omega)]
@[reducible] def arrC (e : En) : Array Value := #[.int .i64 e.st, .int .u32 e.cf, .int .u32 e.co, .int .u32 e.cn, .int .u32 e.cs, .int .i64 e.cg, .int .u32 e.cm]
theorem rgN_cn {w : World} {b o : Nat} {e : En} (h : w.rangeAt b o (arrN e).toList) : w.rangeAt b (o + 39) (arrC e).toList := fun j u hu => by
  have h1 : (encN e)[39 + j]? = some u := by
    unfold encN
    rw [List.getElem?_append_right (by rw [encF_len]; omega), encF_len, show 39 + j - 34 = j + 5 by omega]
    exact hu
  have h2 := h (39 + j) u h1
  rw [show o + 39 + j = o + (39 + j) by omega]
  exact h2
set_option maxRecDepth 100000 in
set_option maxHeartbeats 1000000 in
theorem rref30 (e : En) (w : World) : Calls Try.prog 44 #[.agg (arrN e)] w fun r w' => r = .returned (.agg (arrN e)) ∧ Chg [] w w' := by
  have hA := ((Chg.refl [] w).alloc (.cells (arrN e) 96)).alloc (.cells arrN0 115)
  have hBe : Blk ((w.alloc (.cells (arrN e) 96)).alloc (.cells arrN0 115)) w.heap.size 96 (arrN e) := (Blk.new _ _ _).alloc _
  have hBl : Blk ((w.alloc (.cells (arrN e) 96)).alloc (.cells arrN0 115)) (w.heap.size + 1) 115 arrN0 := Blk.new' (by simp)
  have hz : ((w.alloc (.cells (arrN e) 96)).alloc (.cells arrN0 115)).heap.size = w.heap.size + 2 := by simp
  have HI := Lib.hid (And.intro hA (And.intro hBe (And.intro hBl hz)))
  clear hA hBe hBl hz
  go_enter Try.func44, Try.ntmps44
  go_upto_region 1 with fail
  generalize (w.alloc (.cells (arrN e) 96)).alloc (.cells arrN0 115) = w1 at *
  generalize hge : w.heap.size = ge at *
  have rf := Lib.hid (rgN_fl HI.out.2.1.rangeQ)
  have rc : Hid (w1.rangeAt ge (0 + 39) (arrC e).toList) := Lib.hid (rgN_cn HI.out.2.1.rangeQ)
  have k34 : w1.cell? ⟨ge, 34, none⟩ = some (.int .i64 e.kind) := HI.out.2.1.cell 34
  have k35 : w1.cell? ⟨ge, 35, none⟩ = some (.int .u32 e.first) := HI.out.2.1.cell 35
  have k36 : w1.cell? ⟨ge, 36, none⟩ = some (.int .i64 e.floor) := HI.out.2.1.cell 36
  have k37 : w1.cell? ⟨ge, 37, none⟩ = some (.int .i64 e.passed) := HI.out.2.1.cell 37
  have k38 : w1.cell? ⟨ge, 38, none⟩ = some (.int .i64 e.til) := HI.out.2.1.cell 38
  have hBl := HI.out.2.2.1
  have infC : (Try.prog.info? 94).map (·.size) = some (arrC e).size := by
    show _ = some 7
    kernel_rfl
  go_wp2_with (first
    | (refine wpList_row 73 (.tmp 3) rfl rfl ge 0 rfl (arrF e.fl) _ rf.out Try.underlying73 rfl infF ?_)
    | (refine wpList_row 94 (.tmp 15) rfl rfl ge 39 rfl (arrC e) _ rc.out Try.underlying94 rfl infC ?_)
    | (refine wpList_store_blk rfl 115 _ _ rfl rfl hBl rfl rfl rfl (infN2 (e := e)) rfl ?_; intro w5 hB5 hc5)
    | fail)
  exact bodyPost_ret (results_blk rfl rfl hB5 _ Try.underlying115 rfl (by kernel_rfl)) rfl ⟨rfl, HI.out.1.trans' hc5 (by intro y hy; simp at hy; subst hy; exact .inr (by omega))⟩
end Go.Proofs.Ytgbdbeaflilmlaa
namespace Go.Proofs.Ytgbdbeaflilmlaa
open Go.RowKit Go.Maps

theorem step_row {P : Program} {ops : Array Oper} {o : Oper} {a : Act} {w : World} {K : Act → World → Prop} {Q : Exit → Act → World → Prop} {E : Prop} (hgd : o.guard = none) (ty : TypeId) (x : Operand) (ho : o.op = .load ty x) (b off : Nat) (hx : a.eval x = .pointer (some ⟨b, off, none⟩)) (cs : Array Value) (d : TypeDesc) (hS : w.rangeAt b off cs.toList)
    (hu : P.underlying ty = some d) (hd : d.isRow = true) (hi : (P.info? ty).map (·.size) = some cs.size) (h : K (a.put o.dst (.agg cs)) w) : if Region.wanted o (yielded ops a.tmps) = true then Oper.wp P o a w K Q else E := by
  rw [if_pos (by simp [Region.wanted, hgd])]
  exact wp_load_mid (P := P) (op := o) (a := a) (w := w) (K := K) (Q := Q) ty x ho b off hx cs.toList d hS hu hd (by simpa using hi) (by simpa using h)
def putL (c : TC) (L : List En) (x : En) : List En := if (putC c x).2 = true then rputL L x else L
def RowTo (W w' : World) (v : Value) (L : List En) (v2 : Value) (L2 : List En) : Prop := (v2 = v ∧ L2 = L) ∨ SlN w' W.heap.size v2 L2
theorem rput_both {W : World} {v : Value} {L : List En} {n : Int} {c : TC} (h : SlN W 0 v L) (hok : okL L) (hL : L.length ≤ 64) {x : En} (hx : okF x.fl) (hrc : RC c L) (hn : c.n = n) :
    Calls Try.prog 43 #[.agg (arrT n c.now v), .agg (arrN x)] W fun r w' => ∃ v2, r = .returned (.tuple #[.agg (arrT n c.now v2), .bool (putC c x).2]) ∧ Chg [] W w' ∧ RowTo W w' v L v2 (putL c L x) := by
  rcases put_cases hrc x with ⟨e1, e2⟩ | ⟨e1, e2, e3⟩
  · unfold putL
    rw [e1]
    refine (rput30_no (n := n) (now := c.now) h hok hL hx (by rw [← hn]; exact e2)).mono ?_
    rintro r w' ⟨rfl, hc⟩
    exact ⟨v, rfl, hc, .inl ⟨rfl, rfl⟩⟩
  · unfold putL
    rw [e1]
    refine (rput30_yes (n := n) (now := c.now) h hok hL hx e2 (by rw [← hn]; exact e3)).mono ?_
    rintro r w' ⟨v2, rfl, hs, hc⟩
    exact ⟨v2, rfl, hc, .inr hs⟩
theorem putL_rc {c : TC} {L : List En} (h : RC c L) (x : En) : RC (putC c x).1 (putL c L x) ∧ (putC c x).1.n = c.n ∧ (putC c x).1.now = c.now ∧ ∀ e ∈ putL c L x, e ∈ L ∨ e = x := by
  unfold putL
  rcases put_cases h x with ⟨e1, e2⟩ | ⟨e1, e2, e3⟩
  · rw [e1]; exact ⟨h, rfl, rfl, fun e he => .inl he⟩
  · rw [e1]; exact ⟨h.put x _, rfl, rfl, fun e he => rput_sub he⟩
theorem RowTo.form {W w' : World} {v v2 : Value} {L L2 : List En} (h : RowTo W w' v L v2 L2) (hv : SlN W 0 v L) : ∃ A n c, v2 = .slice A n c := by
  rcases h with ⟨rfl, _⟩ | h
  · obtain ⟨A, c, e⟩ := Sl.form hv; exact ⟨A, _, c, e⟩
  · obtain ⟨A, c, e⟩ := Sl.form h; exact ⟨A, _, c, e⟩
/-- Both sides behind a call. -/
theorem JC.both {W w w1 Wc w2 w3 : World} {tb gw K K' : Nat} {n : Int} {c c' : TC} {S S' : List Nat} {v v2 : Value} {L L2 : List En} (h : JC W w tb gw K n c S v L) (ht : CtS W w1 tb K' c' S') (hc : Chg S w w1) (hf : ∀ x ∈ S', x ∈ S ∨ w.heap.size ≤ x)
    (hW : Chg [] w1 Wc) (hc2 : Chg [] Wc w2) (hr : RowTo Wc w2 v L v2 L2) (hc3 : Chg [gw] w2 w3) (hB : Blk w3 gw 110 (arrT n c'.now v2)) (hrc : RC c' L2) (hn : c'.n = n) (hok : ∀ e ∈ L2, okN e) : JC W w3 tb gw K' n c' S' v2 L2 := by
  obtain ⟨g1, g2, g3⟩ := h.step ht hc hf
  refine JC.fin ht g1 h.gW (hW.trans hc2) hc3 hB ?_ hrc hn hok
  rcases hr with ⟨rfl, rfl⟩ | hs
  · exact (g3.chg0 (hW.trans hc2)).chg hc3 (fun x hx => .inl (by simp at hx; subst hx; simp))
  · exact row_new ht g2.lt (SlN.less hs hW.size) hc3
end Go.Proofs.Ytgbdbeaflilmlaa
