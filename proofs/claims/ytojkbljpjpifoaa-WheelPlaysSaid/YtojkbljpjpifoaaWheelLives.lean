/-
  WALKS: two rows of integers compared; chapter 23's example. No condition.
-/
import Derived.Test.YtojkbljpjpifoaaWheelA
import Derived.Test.YtojkbljpjpifoaaPickPlain
set_option linter.unusedVariables false
set_option linter.unusedSimpArgs false
namespace Go.Proofs.Ytojkbljpjpifoaa
open Go.RowKit Go.Maps

def SlZ (w : World) (B : Nat) (v : Value) (l : List Int) : Prop := Sl w B 1 v l.length (l.map (Value.int .i64))
theorem SlZ.chg0 {w w' : World} {B : Nat} {v : Value} {l : List Int} (h : SlZ w B v l) (hc : Chg [] w w') : SlZ w' B v l := Sl.chg0 h hc
theorem SlZ.one {w : World} {B : Nat} {A : Option Addr} {c : Nat} {l : List Int} {n : Nat} (h : SlZ w B (.slice A n c) l) (hn : l.length = n) {i : Nat} (hi : i < n) :
    ∃ b o, A = some ⟨b, o, none⟩ ∧ w.cell? ⟨b, o + i, none⟩ = some (.int .i64 (l[i]?.getD 0)) := by
  obtain ⟨b, o, c', hv, _, _, hx⟩ := Sl.at_ h (k := i) (by omega) (by omega)
  simp only [Value.slice.injEq] at hv
  obtain ⟨rfl, _, _⟩ := hv
  refine ⟨b, o, rfl, ?_⟩
  have := hx 0 (by omega)
  simp only [Nat.mul_one, Nat.add_zero, List.getElem?_map] at this
  rw [this, List.getElem?_eq_getElem (by omega)]
  rfl
theorem lit_Z {w : World} (l : List Int) (hl : l.length ≤ 600) : SlZ (w.alloc (.cells (l.map (Value.int .i64)).toArray 3)) w.heap.size (.slice (some ⟨w.heap.size, 0, none⟩) l.length l.length) l := by
  have := own_lit (base := w.heap.size) w 3 1 l.length (l.map (Value.int .i64)).toArray (Nat.le_refl _) (by simp only [maxLen]; omega) (by simp)
  unfold SlZ
  exact Sl.of_own (by simpa using this)

set_option maxRecDepth 100000 in
set_option maxHeartbeats 1000000 in
theorem ints_any {w : World} {B B' : Nat} {v v' : Value} {l l' : List Int} (h : SlZ w B v l) (h' : SlZ w B' v' l') (hl : l.length ≤ 600) (hl' : l'.length ≤ 600) :
    Calls Try.prog 15 #[v, v'] w fun e w' => e = .returned (.bool (decide (l = l'))) ∧ ∃ d, w' = w.drewN d := by
  obtain ⟨A1, c1, rfl⟩ := Sl.form h
  obtain ⟨A2, c2, rfl⟩ := Sl.form h'
  have H1 := Lib.hid h
  have H2 := Lib.hid h'
  have hext : Hid (l.length = l'.length → (∀ i, i < l.length → l[i]?.getD 0 = l'[i]?.getD 0) → l = l') := Lib.hid fun he hx => List.ext_getElem he fun i h1 h2 => by
    have := hx i h1
    rw [List.getElem?_eq_getElem h1, List.getElem?_eq_getElem h2] at this
    exact this
  clear h h'
  by_cases hnm : l.length = l'.length
  · rw [← hnm] at H2
    generalize hn : l.length = n at *
    have hm : l'.length = n := hnm.symm
    rw [← hnm]
    clear hnm
    go_enter Try.func15, Try.ntmps15
    go_wp2_with fail
    go_loopw [5] (fun iv wr => ∃ k : Nat, k ≤ n ∧ iv = .int .i64 k ∧ Hid (∀ i, i < k → l[i]?.getD 0 = l'[i]?.getD 0) ∧ ∃ d, wr = w.drewN d) (fun iv _ => n - (intOf iv).toNat)
    case atStart => exact ⟨0, by omega, rfl, Lib.hid (fun i hi => by omega), 0, rfl⟩
    case round =>
      obtain ⟨k, hk, rfl, HE, d, rfl⟩ := hrel
      by_cases hlt : k < n
      · obtain ⟨b, o, rfl, hca⟩ := H1.out.one hn (i := k) hlt
        obtain ⟨b', o', rfl, hcb⟩ := H2.out.one hm (i := k) hlt
        have hca' := ((Chg.refl [] w).drewN d).cell hca (by simp)
        have hcb' := ((Chg.refl [] w).drewN d).cell hcb (by simp)
        have hne : Hid (¬ l[k]?.getD 0 = l'[k]?.getD 0 → decide (l = l') = false) := Lib.hid fun h => by simp only [decide_eq_false_iff_not]; intro e; exact h (by rw [e])
        have hnx : Hid (l[k]?.getD 0 = l'[k]?.getD 0 → ∀ i, i < k + 1 → l[i]?.getD 0 = l'[i]?.getD 0) := Lib.hid fun h i hi => by
          rcases Nat.lt_or_ge i k with h1 | h1
          · exact HE.out i h1
          · rw [show i = k by omega]; exact h
        have hdd : Hid (∀ q, (w.drewN d).drewN q = w.drewN (d + q)) := Lib.hid fun q => World.drewN_drewN _ _ _
        have hkI : (k : Int) < (n : Int) := by omega
        generalize l[k]?.getD 0 = x at *
        generalize l'[k]?.getD 0 = y at *
        clear H1 H2 HE hext hca hcb
        generalize w.drewN d = wd at *
        by_cases hxy : x = y
        · have hb : (x != y) = false := by simp [hxy]
          have HN := Lib.hid (hnx.out hxy)
          clear hne hnx
          go_wp2_with fail
          go_quiet (fail)
          go_wp2_with fail
          go_roundw
          case rel => exact ⟨k + 1, by omega, by go_num, HN, _, hdd.out _⟩
          case measure => simp [intOf]; omega
        · have hb : (x != y) = true := by simp [hxy]
          have HN := Lib.hid (hne.out hxy)
          clear hne hnx
          go_wp2_with fail
          go_quiet (fail)
          go_wp2_with fail
          go_ret
          rw [HN.out]
          exact ⟨rfl, _, hdd.out _⟩
      · obtain rfl : k = n := by omega
        have he : Hid (decide (l = l') = true) := Lib.hid (decide_eq_true (hext.out hm.symm (fun i hi => HE.out i hi)))
        clear H1 H2 hext HE
        go_wp2_with fail
        go_ret
        rw [he.out]
        exact ⟨rfl, d, rfl⟩
  · have hne : Hid (decide (l = l') = false) := Lib.hid (by simp only [decide_eq_false_iff_not]; intro e; exact hnm (by rw [e]))
    generalize l.length = n at *
    generalize l'.length = m at *
    have hb : ((n : Int) != (m : Int)) = true := by simp; omega
    clear hext
    go_enter Try.func15, Try.ntmps15
    go_wp2_with fail
    go_ret
    rw [hne.out]
    exact ⟨rfl, 0, rfl⟩

def lsA : Nat → List TM := setT (setT ls0 3 2) 1 2
def MA : Int → Option Int := inM (noM (inM (noM M0 3) 3 2) 1) 1 2
theorem due1 : dueOf (0 + 1) (lsA ((0 + 1) % 16 : Int).toNat) = [] := by decide +kernel
theorem due2 : dueOf (0 + 1 + 1) (foldL [] lsA ((0 + 1 + 1) % 16 : Int).toNat) = [3, 1] := by decide +kernel
theorem sort_eq {l s : List Int} (hp : s.Perm l) (hs : s.Pairwise (· < ·)) : l.mergeSort (fun x y => decide (x ≤ y)) = s := by
  have hn : l.Nodup := hp.nodup_iff.1 (hs.imp (fun h => by omega))
  exact List.Perm.eq_of_pairwise (le := (· < · : Int → Int → Prop)) (fun a b _ _ h1 h2 => by omega) (sorted_rising hn) hs ((List.mergeSort_perm l _).trans hp.symm)
theorem sort2 : ([3, 1] : List Int).mergeSort (fun x y => decide (x ≤ y)) = [1, 3] := sort_eq (List.Perm.swap 3 1 []) (by decide)
theorem size2 : sizeM (foldM [3, 1] (foldM [] MA)) = 0 := by decide +kernel

set_option maxRecDepth 100000 in
set_option maxHeartbeats 1000000 in
theorem lives23 (w : World) : Calls Try.prog 19 #[] w fun e w' => e = .returned (.bool true) ∧ Chg [] w w' := by
  have KI := Lib.hid (fun (w1 w2 : World) (B : Nat) (v : Value) (hc : Chg [] (w1.alloc (.cells #[.int .i64 1, .int .i64 3] 3)) w2) (hv : SlZ w2 B v [1, 3]) =>
    ints_any (w := w2) hv (SlZ.chg0 (show SlZ (w1.alloc (.cells #[.int .i64 1, .int .i64 3] 3)) w1.heap.size (.slice (some ⟨w1.heap.size, 0, none⟩) 2 2) [1, 3] from lit_Z [1, 3] (by decide)) hc) (by decide) (by decide))
  go_enter Try.func19, Try.ntmps19
  go_wp2_with fail
  refine (new_any w).mono ?_
  rintro e w1 ⟨b, m, rfl, h1, hc1, hf1⟩
  go_wp2_with fail
  refine (set_any 3 2 2 h1 (by omega) (by omega) (by omega) (by omega) (by omega) (by decide) (by decide)).mono ?_
  rintro e w2 ⟨rfl, vs2, h2, hc2, hf2⟩
  go_wp2_with fail
  refine (set_any 1 2 2 h2 (by omega) (by omega) (by omega) (by omega) (by omega) (by decide) (by decide)).mono ?_
  rintro e w3 ⟨rfl, vs3, h3, hc3, hf3⟩
  have h3' : Wh w3 b m (0 + 1 + 1) 0 vs3 lsA MA := h3
  go_wp2_with fail
  refine (advance_any h3' (by omega) (by omega)).mono ?_
  rintro e w4 ⟨va, D, rfl, hD, hsa, vs4, h4, hc4, hf4⟩
  rw [due1] at hD
  subst hD
  obtain ⟨Aa, ca, rfl⟩ := Sl.form hsa
  go_wp2_with fail
  refine (advance_any h4 (by omega) (by omega)).mono ?_
  rintro e w5 ⟨vb, D, rfl, hD, hsb, vs5, h5, hc5, hf5⟩
  rw [due2] at hD
  subst hD
  rw [sort2] at hsb
  have hsb' : SlZ w5 w4.heap.size vb [1, 3] := hsb
  have H5 := Lib.hid h5
  have f2 : ∀ x ∈ foot b m vs2, w.heap.size ≤ x := fun x hx => (hf2 x hx).elim (hf1 x) (fun h => by have := hc1.size; omega)
  have d2 : Chg [] w w2 := hc1.trans' hc2 (fun x hx => .inr (hf1 x hx))
  have f3 : ∀ x ∈ foot b m vs3, w.heap.size ≤ x := fun x hx => (hf3 x hx).elim (f2 x) (fun h => by have := d2.size; omega)
  have d3 : Chg [] w w3 := d2.trans' hc3 (fun x hx => .inr (f2 x hx))
  have f4 : ∀ x ∈ foot b m vs4, w.heap.size ≤ x := fun x hx => (hf4 x hx).elim (f3 x) (fun h => by have := d3.size; omega)
  have d4 : Chg [] w w4 := d3.trans' hc4 (fun x hx => .inr (f3 x hx))
  have d5 : Chg [] w w5 := d4.trans' hc5 (fun x hx => .inr (f4 x hx))
  have D5 := Lib.hid d5
  have HB := Lib.hid hsb'
  clear hc1 hc2 hc3 hc4 hc5 hf1 hf2 hf3 hf4 hf5 h1 h2 h3 h3' h4 h5 hsa hsb hsb' f2 f3 f4 d2 d3 d4 d5
  go_wp2_with fail
  refine (KI.out w5 _ _ vb (Chg.refl _ _) (HB.out.chg0 ((Chg.refl _ _).alloc _))).mono ?_
  rintro e w6 ⟨rfl, d, rfl⟩
  have h6 := H5.out.chg0 (((Chg.refl [] w5).alloc (.cells #[.int .i64 1, .int .i64 3] 3)).drewN d)
  have d6 := (D5.out.alloc (.cells #[.int .i64 1, .int .i64 3] 3)).drewN d
  have N6 := Lib.hid (now_any h6)
  have L6 := Lib.hid (len_any h6)
  have S6 := Lib.hid (set_no 256 3 h6 (by omega))
  rw [size2] at L6
  have D6 := Lib.hid d6
  clear h6 d6 D5 H5 HB KI
  generalize (w5.alloc (.cells #[.int .i64 1, .int .i64 3] 3)).drewN d = w6 at *
  go_wp2_with fail
  refine N6.out.mono ?_
  rintro e w7 ⟨rfl, rfl⟩
  go_wp2_with fail
  refine L6.out.mono ?_
  rintro e w7 ⟨rfl, rfl⟩
  go_wp2_with fail
  refine S6.out.mono ?_
  rintro e w7 ⟨rfl, rfl⟩
  go_wp2_with fail
  go_ret
  exact ⟨rfl, D6.out⟩
end Go.Proofs.Ytojkbljpjpifoaa
