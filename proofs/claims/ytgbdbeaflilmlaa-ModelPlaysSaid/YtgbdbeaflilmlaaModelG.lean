/-
  WALKS over the document's answer of chapter 44: with. Condition: at most 300 flows.
-/
import Derived.Test.YtgbdbeaflilmlaaModelF
set_option linter.unusedVariables false
set_option linter.unusedSimpArgs false
namespace Go.Proofs.Ytgbdbeaflilmlaa
open Go.RowKit Go.Maps

theorem elR : El Try.prog 67 78 (.agg arrZ78) 37 88 := ⟨Try.underlying67, by kernel_rfl, rfl, by omega⟩
theorem litR (w : World) (r : Rf) : Sl (w.alloc (.cells (arrR r) 78)) 0 37 (.slice (some ⟨w.heap.size, 0, none⟩) 1 1) 1 (encR r) :=
  Sl.of_own (own_lit (base := 0) w 78 37 1 (arrR r) (Nat.zero_le _) (by simp [maxLen]) rfl)
def updR (r y : Rf) : Rf := if y.f = r.f then r else y
def hasR (R : List Rf) (f : Fl) : Bool := R.any fun y => decide (y.f = f)
def withR (R : List Rf) (r : Rf) : List Rf := if hasR R r.f then R.map (updR r) else R ++ [r]
theorem hasR_take {R : List Rf} {f : Fl} {k : Nat} {y : Rf} (hy : R[k]? = some y) : hasR (R.take (k + 1)) f = (hasR (R.take k) f || decide (y.f = f)) := by
  unfold hasR
  rw [List.take_add_one, hy, List.any_append]
  simp
theorem map_take {R : List Rf} {r y : Rf} {k : Nat} (hy : R[k]? = some y) : (R.take (k + 1)).map (updR r) = (R.take k).map (updR r) ++ [updR r y] := by
  rw [List.take_add_one, hy, List.map_append]; rfl
set_option maxRecDepth 100000 in
set_option maxHeartbeats 2000000 in
theorem rwith_any {w : World} {B : Nat} {v : Value} {R : List Rf} {r : Rf} (h : SlR w B v R) (hR : R.length ≤ 300) (hr : okR w B r) (hB : B ≤ w.heap.size) :
    Calls Try.prog 63 #[v, .agg (arrR r)] w fun e w' => ∃ v', e = .returned v' ∧ SlR w' B v' (withR R r) ∧ Chg [] w w' := by
  obtain ⟨A, c, rfl⟩ := Sl.form h.1
  have hcA := (Chg.refl [] w).alloc (.cells (arrR r) 78)
  have hBx : Blk (w.alloc (.cells (arrR r) 78)) w.heap.size 78 (arrR r) := Blk.new _ _ _
  have HI := Lib.hid (And.intro hcA hBx)
  have HR := Lib.hid (fun W (hc : Chg [] w W) i (y : Rf) (hy : R[i]? = some y) => SlR.one (h.chg0 hc) rfl hy)
  have HX : Hid (∀ i, i < R.length → ∃ y, R[i]? = some y ∧ okR w B y) := Lib.hid fun i hi => ⟨_, List.getElem?_eq_getElem hi, h.2 _ (List.getElem_mem hi)⟩
  have HOK := Lib.hid (And.intro hr h.2)
  have hwz : w.heap.size ≤ (w.alloc (.cells (arrR r) 78)).heap.size := by simp
  clear h hcA hBx hr
  generalize hN : R.length = N at *
  have HNN : Hid (R.length = N) := Lib.hid hN
  clear hN
  go_enter Try.func63, Try.ntmps63
  go_upto_region 1 with fail
  generalize w.alloc (.cells (arrR r) 78) = w1 at *
  generalize hg : w.heap.size = gx at *
  have h0 : w1.ownsRow w1.heap.size 78 37 (.slice none 0 0) ((R.take 0).map (updR r)).length (((R.take 0).map (updR r)).flatMap encR) := by
    rw [List.take_zero]; exact World.ownsRow_nil ..
  go_wp2_with fail
  go_loopw [5, 6, 7] (fun ov dv iv wr => ∃ k : Nat, k ≤ N ∧ iv = .int .i64 k ∧ dv = .bool (hasR (R.take k) r.f) ∧ wr.ownsRow w1.heap.size 78 37 ov ((R.take k).map (updR r)).length (((R.take k).map (updR r)).flatMap encR) ∧ Hid (Chg [] w1 wr)) (fun _ _ iv _ => N - (intOf iv).toNat)
  case atStart => exact ⟨0, by omega, rfl, by rw [List.take_zero]; rfl, h0, Lib.hid (Chg.refl _ _)⟩
  case round =>
    obtain ⟨k, hk, rfl, rfl, hrow, HC⟩ := hrel
    have hln : ((R.take k).map (updR r)).length = k := by have := HNN.out; simp; omega
    rw [hln] at hrow
    have hwr := HC.out.size
    clear h0
    by_cases hlt : k < N
    · obtain ⟨y, hy, hok⟩ := HX.out k hlt
      obtain ⟨b, o, rfl, hrg⟩ := HR.out _ (HI.out.1.trans HC.out) k y hy
      have R1 := Lib.hid (fun W (hc : Chg [] wr W) => rg_fl (rangeAt_chg hrg hc (by simp)))
      have R2 := Lib.hid (fun W (hc : Chg [] wr W) => rg_fl ((HI.out.2.chg (HC.out.trans hc) (by simp)).rangeQ))
      have R3 := Lib.hid (fun W (hc : Chg [] wr W) => (rangeAt_chg hrg hc (by simp)))
      have R4 := Lib.hid (fun W (hc : Chg [] wr W) => ((HI.out.2.chg (HC.out.trans hc) (by simp)).rangeQ))
      have hE1 := fun W => eq_fl W hok.1 HOK.out.1.1
      have HY := Lib.hid (And.intro hy hok)
      have HH := Lib.hid (hasR_take (f := r.f) hy)
      have HM := Lib.hid (map_take (r := r) hy)
      clear hy hok hrg
      by_cases he : y.f = r.f
      · have HU := Lib.hid (show updR r y = r by unfold updR; rw [if_pos he])
        rw [decide_eq_true he] at hE1 HH
        clear he
        go_upto_region 6 with fail
        refine wp_region_chg (by kernel_rfl) (by kernel_rfl) ?_
        (with_reducible refine wpQuiet_pure (v := ?_) ?_ (fun w => ?_) ?_); rotate_left; (focus rfl); (focus (go_simp <;> with_reducible rfl)); (try simp only [List.getElem_toArray, List.getElem_cons_succ, List.getElem_cons_zero, Act.put, List.setIfInBounds_toArray, List.set_cons_zero, List.set_cons_succ])
        (with_reducible refine wpQuiet_pure (v := ?_) ?_ (fun w => ?_) ?_); rotate_left; (focus rfl); (focus (go_simp <;> with_reducible rfl)); (try simp only [List.getElem_toArray, List.getElem_cons_succ, List.getElem_cons_zero, Act.put, List.setIfInBounds_toArray, List.set_cons_zero, List.set_cons_succ])
        (with_reducible refine wpQuiet_pure (v := ?_) ?_ (fun w => ?_) ?_); rotate_left; (focus rfl); (focus (go_simp <;> with_reducible rfl)); (try simp only [List.getElem_toArray, List.getElem_cons_succ, List.getElem_cons_zero, Act.put, List.setIfInBounds_toArray, List.set_cons_zero, List.set_cons_succ])
        (with_reducible refine wpQuiet_pure (v := ?_) ?_ (fun w => ?_) ?_); rotate_left; (focus rfl); (focus (go_simp <;> with_reducible rfl)); (try simp only [List.getElem_toArray, List.getElem_cons_succ, List.getElem_cons_zero, Act.put, List.setIfInBounds_toArray, List.set_cons_zero, List.set_cons_succ])
        (with_reducible refine wpQuiet_rowC 73 (.tmp 17) ?_ ?_ b _ ?_ (arrF y.f) _ R1.out Try.underlying73 ?_ infF ?_); (focus rfl); (focus rfl); (focus rfl); (focus rfl); (try simp only [List.getElem_toArray, List.getElem_cons_succ, List.getElem_cons_zero, Act.put, List.setIfInBounds_toArray, List.set_cons_zero, List.set_cons_succ])
        (with_reducible refine wpQuiet_pure (v := ?_) ?_ (fun w => ?_) ?_); rotate_left; (focus rfl); (focus (go_simp <;> with_reducible rfl)); (try simp only [List.getElem_toArray, List.getElem_cons_succ, List.getElem_cons_zero, Act.put, List.setIfInBounds_toArray, List.set_cons_zero, List.set_cons_succ])
        (with_reducible refine wpQuiet_rowC 73 (.tmp 19) ?_ ?_ gx 0 ?_ (arrF r.f) _ R2.out Try.underlying73 ?_ infF ?_); (focus rfl); (focus rfl); (focus rfl); (focus rfl); (try simp only [List.getElem_toArray, List.getElem_cons_succ, List.getElem_cons_zero, Act.put, List.setIfInBounds_toArray, List.set_cons_zero, List.set_cons_succ])
        (with_reducible refine wpQuiet_pure (v := ?_) ?_ (fun w => ?_) ?_); rotate_left; (focus rfl); (focus (go_simp <;> with_reducible rfl)); (try simp only [List.getElem_toArray, List.getElem_cons_succ, List.getElem_cons_zero, Act.put, List.setIfInBounds_toArray, List.set_cons_zero, List.set_cons_succ])
        refine wpQuiet_nil ?_
        intro w2 hc2
        have r4 := R4.out w2 hc2
        have hcat := litR w2 r
        have hone : Hid (∀ u ∈ encR r, u.oneCell' = true) := Lib.hid HOK.out.1.one
        have hrow2 := own_chg hrow hc2 (by simp)
        have hc3 := (Chg.refl [] w2).alloc (.cells (arrR r) 78)
        have hrow3 := own_chg hrow2 hc3 (by simp)
        have HC2 := Lib.hid (HC.out.trans hc2)
        have hz2 := hc2.size
        clear R1 R2 R3 R4 hc2 hrow hrow2
        go_wp2_with (first
          | (refine wpList_row 78 (.tmp 3) rfl rfl gx 0 rfl (arrR r) _ r4 Try.underlying78 rfl infR ?_)
          | (at_builtin; refine wpList_app elR rfl (.tmp 22) (.tmp 24) rfl w1.heap.size rfl hrow3 rfl hcat hone.out (by unfold maxLen; omega) (by omega) (by simp; omega) ?_; intro v9 w9 hown9 hc9 hb9)
          | fail)
        have hlt9 := own_lt hrow3
        have HC9 : Hid (Chg [] w1 w9) := Lib.hid ((HC2.out.trans hc3).trans' hc9 (fun y hy => .inr (hlt9 y hy).1))
        have hrow9 : w9.ownsRow w1.heap.size 78 37 v9 ((R.take (k + 1)).map (updR r)).length (((R.take (k + 1)).map (updR r)).flatMap encR) := by
          rw [HM.out, HU.out, ← flat_snoc, List.length_append, hln]; exact hown9
        clear hc9 hb9 hcat hrow3 hlt9 hown9 hc3
        go_roundw
        case rel => exact ⟨k + 1, by omega, by go_num, by rw [HH.out]; simp, hrow9, HC9⟩
        case measure => simp [intOf]; omega
      · have HU := Lib.hid (show updR r y = y by unfold updR; rw [if_neg he])
        rw [decide_eq_false he] at hE1 HH
        clear he
        go_upto_region 6 with fail
        refine wp_region_chg (by kernel_rfl) (by kernel_rfl) ?_
        (with_reducible refine wpQuiet_pure (v := ?_) ?_ (fun w => ?_) ?_); rotate_left; (focus rfl); (focus (go_simp <;> with_reducible rfl)); (try simp only [List.getElem_toArray, List.getElem_cons_succ, List.getElem_cons_zero, Act.put, List.setIfInBounds_toArray, List.set_cons_zero, List.set_cons_succ])
        (with_reducible refine wpQuiet_pure (v := ?_) ?_ (fun w => ?_) ?_); rotate_left; (focus rfl); (focus (go_simp <;> with_reducible rfl)); (try simp only [List.getElem_toArray, List.getElem_cons_succ, List.getElem_cons_zero, Act.put, List.setIfInBounds_toArray, List.set_cons_zero, List.set_cons_succ])
        (with_reducible refine wpQuiet_pure (v := ?_) ?_ (fun w => ?_) ?_); rotate_left; (focus rfl); (focus (go_simp <;> with_reducible rfl)); (try simp only [List.getElem_toArray, List.getElem_cons_succ, List.getElem_cons_zero, Act.put, List.setIfInBounds_toArray, List.set_cons_zero, List.set_cons_succ])
        (with_reducible refine wpQuiet_pure (v := ?_) ?_ (fun w => ?_) ?_); rotate_left; (focus rfl); (focus (go_simp <;> with_reducible rfl)); (try simp only [List.getElem_toArray, List.getElem_cons_succ, List.getElem_cons_zero, Act.put, List.setIfInBounds_toArray, List.set_cons_zero, List.set_cons_succ])
        (with_reducible refine wpQuiet_rowC 73 (.tmp 17) ?_ ?_ b _ ?_ (arrF y.f) _ R1.out Try.underlying73 ?_ infF ?_); (focus rfl); (focus rfl); (focus rfl); (focus rfl); (try simp only [List.getElem_toArray, List.getElem_cons_succ, List.getElem_cons_zero, Act.put, List.setIfInBounds_toArray, List.set_cons_zero, List.set_cons_succ])
        (with_reducible refine wpQuiet_pure (v := ?_) ?_ (fun w => ?_) ?_); rotate_left; (focus rfl); (focus (go_simp <;> with_reducible rfl)); (try simp only [List.getElem_toArray, List.getElem_cons_succ, List.getElem_cons_zero, Act.put, List.setIfInBounds_toArray, List.set_cons_zero, List.set_cons_succ])
        (with_reducible refine wpQuiet_rowC 73 (.tmp 19) ?_ ?_ gx 0 ?_ (arrF r.f) _ R2.out Try.underlying73 ?_ infF ?_); (focus rfl); (focus rfl); (focus rfl); (focus rfl); (try simp only [List.getElem_toArray, List.getElem_cons_succ, List.getElem_cons_zero, Act.put, List.setIfInBounds_toArray, List.set_cons_zero, List.set_cons_succ])
        (with_reducible refine wpQuiet_pure (v := ?_) ?_ (fun w => ?_) ?_); rotate_left; (focus rfl); (focus (go_simp <;> with_reducible rfl)); (try simp only [List.getElem_toArray, List.getElem_cons_succ, List.getElem_cons_zero, Act.put, List.setIfInBounds_toArray, List.set_cons_zero, List.set_cons_succ])
        refine wpQuiet_nil ?_
        intro w2 hc2
        have r3 := R3.out w2 hc2
        have hcat := litR w2 y
        have hone : Hid (∀ u ∈ encR y, u.oneCell' = true) := Lib.hid HY.out.2.one
        have hrow2 := own_chg hrow hc2 (by simp)
        have hc3 := (Chg.refl [] w2).alloc (.cells (arrR y) 78)
        have hrow3 := own_chg hrow2 hc3 (by simp)
        have HC2 := Lib.hid (HC.out.trans hc2)
        have hz2 := hc2.size
        clear R1 R2 R3 R4 hc2 hrow hrow2
        go_wp2_with (first
          | (refine wpList_row 78 (.tmp 29) rfl rfl b _ rfl (arrR y) _ r3 Try.underlying78 rfl infR ?_)
          | (at_builtin; refine wpList_app elR rfl (.tmp 26) (.tmp 31) rfl w1.heap.size rfl hrow3 rfl hcat hone.out (by unfold maxLen; omega) (by omega) (by simp; omega) ?_; intro v9 w9 hown9 hc9 hb9)
          | fail)
        have hlt9 := own_lt hrow3
        have HC9 : Hid (Chg [] w1 w9) := Lib.hid ((HC2.out.trans hc3).trans' hc9 (fun y hy => .inr (hlt9 y hy).1))
        have hrow9 : w9.ownsRow w1.heap.size 78 37 v9 ((R.take (k + 1)).map (updR r)).length (((R.take (k + 1)).map (updR r)).flatMap encR) := by
          rw [HM.out, HU.out, ← flat_snoc, List.length_append, hln]; exact hown9
        clear hc9 hb9 hcat hrow3 hlt9 hown9 hc3
        go_roundw
        case rel => exact ⟨k + 1, by omega, by go_num, by rw [HH.out]; simp, hrow9, HC9⟩
        case measure => simp [intOf]; omega
    · obtain rfl : k = N := by omega
      have htk : R.take k = R := by rw [List.take_of_length_le (by have := HNN.out; omega)]
      rw [htk] at hrow hln
      have HTK := Lib.hid htk
      rw [htk]
      clear htk
      cases hh : hasR R r.f with
      | true =>
        have HW := Lib.hid (show withR R r = R.map (updR r) by unfold withR; rw [hh]; rfl)
        have HS := Lib.hid (Sl.of_own hrow)
        clear hrow hh
        go_wp2_with fail
        go_ret
        have hcz := HI.out.1.trans HC.out
        refine ⟨_, rfl, ⟨?_, fun y hy => ?_⟩, hcz⟩
        · rw [HW.out, hln]; exact HS.out.less (by omega)
        · rw [HW.out] at hy
          obtain ⟨z, hz, rfl⟩ := List.mem_map.1 hy
          unfold updR
          split
          · exact HOK.out.1.chg hcz (by simp)
          · exact (HOK.out.2 z hz).chg hcz (by simp)
      | false =>
        have HW := Lib.hid (show withR R r = R ++ [r] by unfold withR; rw [hh]; rfl)
        have hmp : R.map (updR r) = R := by
          have : ∀ y ∈ R, updR r y = y := fun y hy => by
            unfold updR
            rw [if_neg (fun e => by
              have : hasR R r.f = true := by unfold hasR; rw [List.any_eq_true]; exact ⟨y, hy, by simpa using e⟩
              rw [hh] at this; cases this)]
          rw [List.map_congr_left this, List.map_id']
        rw [hmp] at hrow hln
        have r4 := (HI.out.2.chg HC.out (by simp)).rangeQ
        have hcat := litR wr r
        have hone : Hid (∀ u ∈ encR r, u.oneCell' = true) := Lib.hid HOK.out.1.one
        have hc3 := (Chg.refl [] wr).alloc (.cells (arrR r) 78)
        have hrow3 := own_chg hrow hc3 (by simp)
        clear hrow hh hmp
        go_wp2_with (first
          | (refine wpList_row 78 (.tmp 3) rfl rfl gx 0 rfl (arrR r) _ r4 Try.underlying78 rfl infR ?_)
          | (at_builtin; refine wpList_app elR rfl (.tmp 35) (.tmp 37) rfl w1.heap.size rfl hrow3 rfl hcat hone.out (by unfold maxLen; omega) (by omega) (by simp; omega) ?_; intro v9 w9 hown9 hc9 hb9)
          | fail)
        have hlt9 := own_lt hrow3
        have HC9 : Hid (Chg [] w w9) := Lib.hid (((HI.out.1.trans HC.out).trans hc3).trans' hc9 (fun y hy => .inr (by have := (hlt9 y hy).1; omega)))
        have HS := Lib.hid (Sl.of_own hown9)
        clear hc9 hb9 hcat hrow3 hlt9 hown9 hc3
        go_ret
        refine ⟨_, rfl, ⟨?_, fun y hy => ?_⟩, HC9.out⟩
        · rw [HW.out, ← flat_snoc, List.length_append, hln]; exact HS.out.less (by omega)
        · rw [HW.out] at hy
          rcases List.mem_append.1 hy with hy | hy
          · exact (HOK.out.2 y hy).chg HC9.out (by simp)
          · simp at hy; subst hy; exact HOK.out.1.chg HC9.out (by simp)
end Go.Proofs.Ytgbdbeaflilmlaa
