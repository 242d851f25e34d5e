/-
  WALKS: the closing of a gap, taking out, a cell, a new table. Conditions: as in SlotW.
-/
import Derived.Test.YtelbaooifmkpkaaSlotW
import Derived.BigRegion
set_option linter.unusedVariables false
set_option linter.unusedSimpArgs false
namespace Go.Proofs.Ytelbaooifmkpkaa
open Go.RowKit

theorem farOf_eq {n i j : Nat} (hn : 1 ≤ n) : farOf n i j = (j + n - i) % n := rfl

set_option maxHeartbeats 1000000 in
theorem close_any {b c n : Nat} {cs : Nat → SC} {m : Int} (hole : Nat) {w : World} (h : Tab w b c n cs m) (hh : hole < n) (hu : (cs hole).used = false) :
    Calls Try.prog 38 #[.pointer (some ⟨b, 0, none⟩), .int .i64 hole] w fun e w' =>
      e = .returned (.tuple #[]) ∧ Tab w' b c n (closeIn (homeOf n) n n cs hole hole) m ∧ Chg [c] w w' := by
  have h0 := h.c0
  have h1 := h.c1
  have hn := h.lo
  have hn' := h.hi
  have HU := Lib.hid hu
  clear hu
  go_enter Try.func38, Try.ntmps38
  go_wp2_with fail
  go_loopw [1, 4, 13] (fun ho a i wr => ∃ (x y j : Nat) (cs' : Nat → SC), x < n ∧ y < n ∧ j ≤ n ∧ ho = .int .i64 x ∧ a = .int .i64 y ∧ i = .int .i64 j ∧ Chg [c] w wr ∧ Tab wr b c n cs' m ∧ (cs' x).used = false ∧
    closeIn (homeOf n) n (n - j) cs' x y = closeIn (homeOf n) n n cs hole hole) (fun _ _ i _ => n - (intOf i).toNat)
  case atStart => exact ⟨hole, hole, 0, cs, hh, hh, by omega, rfl, rfl, rfl, Chg.refl _ _, h, HU.out, rfl⟩
  case round =>
    obtain ⟨x, y, j, cs', hx, hy, hj, rfl, rfl, rfl, hcg, ht, hux, hf⟩ := hrel
    have h1 := ht.c1
    have hy' : (y + 1) % n < n := Nat.mod_lt _ hn
    obtain ⟨z, hz⟩ : ∃ z, z = (y + 1) % n := ⟨_, rfl⟩
    rw [← hz] at hy'
    obtain ⟨g0, g1, g2⟩ := ht.cells hy'
    have HZ := Lib.hid hz
    have HF := Lib.hid hf
    have HUX := Lib.hid hux
    clear hf hux hz
    by_cases hlt : j < n
    · obtain ⟨q, hq⟩ : ∃ q, n - j = q + 1 := ⟨n - j - 1, by omega⟩
      have HQ := Lib.hid hq
      clear hq
      by_cases hu : (cs' z).used = false
      · have hr : closeIn (homeOf n) n n cs hole hole = cs' := by
          rw [← HF.out, HQ.out]; simp [closeIn, ← HZ.out, hu]
        have HR := Lib.hid hr
        clear hr
        rw [hu] at g0
        clear hu
        go_wp2_with fail
        refine (next_any y ht hy).mono ?_
        rw [← HZ.out]
        rintro e w' ⟨rfl, rfl⟩
        go_wp2_with fail
        refine bodyPost_ret (results_none rfl _ _ _) rfl ?_
        rw [HR.out]
        exact ⟨rfl, ht.chg0 ((Chg.refl _ _).alloc _), hcg.alloc _⟩
      · have hu : (cs' z).used = true := by simpa using hu
        have hxz : x ≠ z := by rintro rfl; rw [HUX.out] at hu; simp at hu
        have HQ' : Hid (q = n - (j + 1)) := by have := HQ.out; show q = _; omega
        rw [hu] at g0
        have HU2 := Lib.hid hu
        clear hu
        by_cases hd : farOf n x z ≤ farOf n (homeOf n (cs' z).k) z
        · have hr : closeIn (homeOf n) n n cs hole hole = closeIn (homeOf n) n q (upd (upd cs' x (cs' z)) z free) z z := by
            rw [← HF.out, HQ.out]; simp [closeIn, ← HZ.out, HU2.out, hd]
          have HR := Lib.hid hr
          clear hr
          obtain ⟨k0, k1, k2⟩ := ht.cells hx
          go_wp2_with fail
          refine (next_any y ht hy).mono ?_
          rw [← HZ.out]
          rintro e w' ⟨rfl, rfl⟩
          go_wp2_with fail
          have ht1 := ht.chg0 ((Chg.refl _ _).alloc (.cells #[.bool true, .int .i64 (cs' z).k, .int .i64 (cs' z).v] 75))
          refine (home_any (cs' z).k ht1).mono ?_
          rintro e w' ⟨rfl, d, rfl⟩
          have ht2 := ht1.chg0 ((Chg.refl _ _).drewN d)
          go_wp2_with fail
          refine (far_any (homeOf n (cs' z).k) z ht2 (homeOf_lt _ _ hn) hy').mono ?_
          rw [← farOf_eq hn]
          rintro e w' ⟨rfl, rfl⟩
          go_wp2_with fail
          refine (far_any x z ht2 hx hy').mono ?_
          rw [← farOf_eq hn]
          rintro e w' ⟨rfl, rfl⟩
          go_wp2_with fail
          have hcg2 : Chg [c] w ((wr.alloc (.cells #[.bool true, .int .i64 (cs' z).k, .int .i64 (cs' z).v] 75)).drewN d) := (hcg.alloc _).drewN _
          have hbx : Blk ((wr.alloc (.cells #[.bool true, .int .i64 (cs' z).k, .int .i64 (cs' z).v] 75)).drewN d) wr.heap.size 75 #[.bool true, .int .i64 (cs' z).k, .int .i64 (cs' z).v] := Blk.new _ _ _
          have hlt2 := ht.lt
          generalize hs : wr.heap.size = s at *
          clear hs
          generalize (wr.alloc (.cells #[.bool true, .int .i64 (cs' z).k, .int .i64 (cs' z).v] 75)).drewN d = W at *
          have m1 := ht2.c1
          have mf := ht2.fc
          obtain ⟨a0, a1, a2⟩ := ht2.cells hx
          obtain ⟨b0, b1, b2⟩ := ht2.cells hy'
          have e0 := hbx.cell 0
          have e1 := hbx.cell 1
          have e2 := hbx.cell 2
          have hcs : c ≠ s := by omega
          clear g0 g1 g2 k0 k1 k2 h1 ht ht1 hcg h0
          go_region
          go_wp2_with fail
          go_roundw
          case rel =>
            have hT := ((ht2.store hx true (cs' z).k (cs' z).v).store hy' false 0 0)
            have hz : (⟨true, (cs' z).k, (cs' z).v⟩ : SC) = cs' z := by
              have := HU2.out
              cases hcz : cs' z; rw [hcz] at this; simp at this; simp [this]
            rw [hz] at hT
            exact ⟨z, z, j + 1, _, hy', hy', by omega, rfl, rfl, by go_num, ((hcg2.cellsC (by simp) _ _ _ _ _ _).cellsC (by simp) _ _ _ _ _ _).drew, hT.chg0 (Chg.refl _ _).drew, by rw [upd_same], by rw [← HQ'.out]; exact HR.out.symm⟩
          case measure => simp [intOf]; omega
        · have hr : closeIn (homeOf n) n n cs hole hole = closeIn (homeOf n) n q cs' x z := by
            rw [← HF.out, HQ.out]; simp [closeIn, ← HZ.out, HU2.out, hd]
          have HR := Lib.hid hr
          clear hr
          go_wp2_with fail
          refine (next_any y ht hy).mono ?_
          rw [← HZ.out]
          rintro e w' ⟨rfl, rfl⟩
          go_wp2_with fail
          have ht1 := ht.chg0 ((Chg.refl _ _).alloc (.cells #[.bool true, .int .i64 (cs' z).k, .int .i64 (cs' z).v] 75))
          refine (home_any (cs' z).k ht1).mono ?_
          rintro e w' ⟨rfl, d, rfl⟩
          have ht2 := ht1.chg0 ((Chg.refl _ _).drewN d)
          go_wp2_with fail
          refine (far_any (homeOf n (cs' z).k) z ht2 (homeOf_lt _ _ hn) hy').mono ?_
          rw [← farOf_eq hn]
          rintro e w' ⟨rfl, rfl⟩
          go_wp2_with fail
          refine (far_any x z ht2 hx hy').mono ?_
          rw [← farOf_eq hn]
          rintro e w' ⟨rfl, rfl⟩
          go_wp2_with fail
          go_roundw
          case rel => exact ⟨x, z, j + 1, cs', hx, hy', by omega, rfl, rfl, by go_num, (hcg.alloc _).drewN _, ht2, HUX.out, by rw [← HQ'.out]; exact HR.out.symm⟩
          case measure => simp [intOf]; omega
    · have hr : closeIn (homeOf n) n n cs hole hole = cs' := by
        rw [← HF.out, show n - j = 0 by omega]; rfl
      have HR := Lib.hid hr
      clear hr
      go_wp2_with fail
      go_end0
      rw [HR.out]
      exact ⟨rfl, ht, hcg⟩

/-- What a take-out makes of the cells. -/
def delC (cs : Nat → SC) (n : Nat) (k : Int) : Nat → SC :=
  match findIn cs n k n (homeOf n k) with
  | none => cs
  | some i => if (cs i).used then closeIn (homeOf n) n n (upd cs i free) i i else cs

theorem getV_none {cs : Nat → SC} {n : Nat} {k : Int} (h : findIn cs n k n (homeOf n k) = none) : getV cs n k = none ∧ delC cs n k = cs := by
  unfold getV delC; rw [h]; exact ⟨rfl, rfl⟩
theorem getV_some {cs : Nat → SC} {n : Nat} {k : Int} {i : Nat} (h : findIn cs n k n (homeOf n k) = some i) :
    getV cs n k = (if (cs i).used then some (cs i).v else none) ∧ delC cs n k = (if (cs i).used then closeIn (homeOf n) n n (upd cs i free) i i else cs) := by
  unfold getV delC; rw [h]; exact ⟨rfl, rfl⟩

set_option maxHeartbeats 400000 in
theorem del_any {b c n : Nat} {cs : Nat → SC} {m : Int} (k : Int) {w : World} (h : Tab w b c n cs m) (hm0 : 0 ≤ m) (hm : m ≤ 256) :
    Calls Try.prog 13 #[.pointer (some ⟨b, 0, none⟩), .int .i64 k] w fun e w' =>
      e = .returned (.bool (getV cs n k).isSome) ∧ Tab w' b c n (delC cs n k) (m - if (getV cs n k).isSome then 1 else 0) ∧ Chg [b, c] w w' := by
  have h0 := h.c0
  have hh := homeOf_lt n k h.lo
  obtain ⟨m', hm'⟩ : ∃ m', m' = (m - if (getV cs n k).isSome then 1 else 0) := ⟨_, rfl⟩
  rw [← hm']
  have HM := Lib.hid hm'
  clear hm'
  cases hf : findIn cs n k n (homeOf n k) with
  | none =>
    have HG := Lib.hid (getV_none hf)
    have HF := Lib.hid hf
    clear hf
    go_enter Try.func13, Try.ntmps13
    go_wp2_with fail
    refine (is_any b w h0).mono ?_
    rintro e w' ⟨rfl, rfl⟩
    go_wp2_with fail
    refine (find_any k h).mono ?_
    rw [HF.out]
    rintro e w1 ⟨rfl, hc1⟩
    go_wp2_with fail
    go_ret
    rw [HM.out, HG.out.1, HG.out.2]
    exact ⟨rfl, by simpa using h.chg0 hc1, hc1.more (by simp)⟩
  | some i =>
    have hi := findIn_lt h.lo hh hf
    have HG := Lib.hid (getV_some hf)
    have HF := Lib.hid hf
    clear hf
    go_enter Try.func13, Try.ntmps13
    go_wp2_with fail
    refine (is_any b w h0).mono ?_
    rintro e w' ⟨rfl, rfl⟩
    go_wp2_with fail
    refine (find_any k h).mono ?_
    rw [HF.out]
    rintro e w1 ⟨rfl, hc1⟩
    have ht := h.chg0 hc1
    have t1 := ht.c1
    have t2 := ht.c2
    have f1 := ht.f
    have f2 := ht.fc
    have hne := ht.ne
    have hne' := hne.symm
    have hn' := ht.hi
    obtain ⟨g0, g1, g2⟩ := ht.cells hi
    cases hu : (cs i).used with
    | true =>
      rw [hu] at g0
      have HU := Lib.hid hu
      clear hu
      go_wp2_with fail
      refine (close_any i ((ht.store hi false 0 0).many (m - 1)) hi (by rw [upd_same])).mono ?_
      rintro e w2 ⟨rfl, ht2, hc2⟩
      go_wp2_with fail
      go_ret
      rw [HM.out, HG.out.1, HG.out.2, HU.out]
      exact ⟨rfl, ht2, (((hc1.more (by simp)).cellsC (by simp) _ _ _ _ _ _).setCell (.inl (by simp)) _).trans' hc2 (by simp)⟩
    | false =>
      rw [hu] at g0
      have HU := Lib.hid hu
      clear hu
      go_wp2_with fail
      go_ret
      rw [HM.out, HG.out.1, HG.out.2, HU.out]
      exact ⟨rfl, by simpa using ht, hc1.more (by simp)⟩

set_option maxHeartbeats 400000 in
theorem cell_any {b c n : Nat} {cs : Nat → SC} {m : Int} (i : Nat) {w : World} (h : Tab w b c n cs m) (hi : i < n) :
    Calls Try.prog 23 #[.pointer (some ⟨b, 0, none⟩), .int .i64 i] w fun e w' =>
      e = .returned (if (cs i).used then .tuple #[.int .i64 (cs i).k, .int .i64 (cs i).v, .bool true] else .tuple #[.int .i64 0, .int .i64 0, .bool false]) ∧ Chg [] w w' := by
  have t1 := h.c1
  have hn' := h.hi
  have d1 : decide ((i : Int) < 0) = false := by simp
  have d2 : decide (n ≤ i) = false := by simp; omega
  obtain ⟨g0, g1, g2⟩ := h.cells hi
  cases hu : (cs i).used with
  | true =>
    rw [hu] at g0
    have HU := Lib.hid hu
    clear hu
    go_enter Try.func23, Try.ntmps23
    go_wp2_with fail
    refine (cap_any h).mono ?_
    rintro e w' ⟨rfl, rfl⟩
    go_wp2_with fail
    go_quiet (fail)
    go_wp2_with fail
    go_ret3
    exact ⟨rfl, (Chg.refl _ _).drewN _⟩
  | false =>
    rw [hu] at g0
    have HU := Lib.hid hu
    clear hu
    go_enter Try.func23, Try.ntmps23
    go_wp2_with fail
    refine (cap_any h).mono ?_
    rintro e w' ⟨rfl, rfl⟩
    go_wp2_with fail
    go_ret3
    exact ⟨rfl, Chg.refl _ _⟩

theorem infoC : (Try.prog.info? 75).map (fun i => (i.zero, i.size, i.bytes)) = some (some (.agg #[.bool false, .int .i64 0, .int .i64 0]), 3, 24) := by kernel_rfl

set_option maxHeartbeats 400000 in
theorem new_any (n : Nat) (w : World) (lo : 1 ≤ n) (hi : n ≤ 256) :
    Calls Try.prog 8 #[.int .i64 n, .func (.func 9) #[] #[]] w fun e w' =>
      ∃ b c, e = .returned (.pointer (some ⟨b, 0, none⟩)) ∧ w.heap.size ≤ b ∧ w.heap.size ≤ c ∧ Tab w' b c n (fun _ => free) 0 ∧ Chg [] w w' := by
  have hnf := run_eql_func_nil (P := Try.prog) Try.underlying25
  obtain ⟨i0, hi0, hz0, hz1, hz2⟩ := info_parts infoC
  have hmk := fun W => make_run (P := Try.prog) 61 75 i0 _ Try.underlying61 hi0 hz0 n n (Nat.le_refl _) (by rw [hz2]; omega) (by omega) W
  rw [hz1] at hmk
  have d1 : decide ((n : Int) < 1) = false := by simp; omega
  have d2 : decide ((256 : Int) < n) = false := by simp; omega
  have d3 : decide (n < 1) = false := by simp; omega
  have d4 : decide (256 < n) = false := by simp; omega
  clear hi0 hz0 hz1 hz2
  go_enter Try.func8, Try.ntmps8
  go_wp2_with fail
  go_ret
  refine ⟨w.heap.size + 1, w.heap.size, rfl, by simp, Nat.le_refl _, ⟨lo, hi, Blk.new' (by simp), _, (Blk.new _ _ _).alloc _, fun i hi' => ?_⟩, ((Chg.refl _ _).alloc _).alloc _⟩
  rw [madeCells_at _ _ _ (by omega), madeCells_at _ _ _ (by omega), madeCells_at _ _ _ (by omega)]
  have e0 : i * 3 % 3 = 0 := by omega
  have e1 : (i * 3 + 1) % 3 = 1 := by omega
  have e2 : (i * 3 + 2) % 3 = 2 := by omega
  simp only [List.size_toArray, List.length_cons, List.length_nil, Nat.zero_add, Nat.reduceAdd, e0, e1, e2]
  exact ⟨rfl, rfl, rfl⟩

set_option maxHeartbeats 400000 in
theorem new_no (n : Int) (w : World) (h : n < 1 ∨ 256 < n) :
    Calls Try.prog 8 #[.int .i64 n, .func (.func 9) #[] #[]] w fun e w' =>
      e = .returned (.pointer none) ∧ w = w' := by
  have hnf := run_eql_func_nil (P := Try.prog) Try.underlying25
  rcases h with h | h
  · have d1 : decide (n < 1) = true := by simp; omega
    go_enter Try.func8, Try.ntmps8
    go_wp2_with fail
    go_ret
    exact ⟨rfl, rfl⟩
  · have d1 : decide (n < 1) = false := by simp; omega
    have d2 : decide (256 < n) = true := by simp; omega
    go_enter Try.func8, Try.ntmps8
    go_wp2_with fail
    go_ret
    exact ⟨rfl, rfl⟩
end Go.Proofs.Ytelbaooifmkpkaa
