/-
  WALKS: the library's heap functions at the queue's items. Condition: a row is at most 3000 items.
-/
import Derived.Test.YtgbdbeaflilmlaaDue
import Derived.Test.YtgbdbeaflilmlaaInv
set_option linter.unusedVariables false
set_option linter.unusedSimpArgs false
namespace Go.Proofs.Ytgbdbeaflilmlaa
open Go.RowKit

/-- The queue's block, and its row; in whatever order. -/
structure HQ (w : World) (q g c cap : Nat) (sq : Int) (l : List It) : Prop where
  blk : Blk w q 158 #[.bool true, .slice (some ⟨g, 0, none⟩) l.length cap, .int .i64 sq]
  row : RowI w g c l
  hc : c = cap * 3
  hl : l.length ≤ cap
  qg : q ≠ g
  hm : cap ≤ maxLen
theorem HQ.chg0 {w w' : World} {q g c cap : Nat} {sq : Int} {l : List It} (h : HQ w q g c cap sq l) (hc : Chg [] w w') : HQ w' q g c cap sq l := ⟨h.blk.chg hc (by simp), h.row.chg hc (by simp), h.hc, h.hl, h.qg, h.hm⟩
theorem HQ.swap {w w' : World} {q g c cap i k : Nat} {sq : Int} {l : List It} {x y : It} (h : HQ w q g c cap sq l) (hr : RowI w' g c (Heap.swap l i k x y)) (hc : Chg [g] w w') : HQ w' q g c cap sq (Heap.swap l i k x y) :=
  ⟨by rw [Heap.swap_len]; exact h.blk.chg hc (by simpa using h.qg), hr, h.hc, by rw [Heap.swap_len]; exact h.hl, h.qg, h.hm⟩

/-- The queue's methods, asked for by name. -/
theorem mLess {w : World} {q : Nat} {v : Value} (hc : w.cell? ⟨q, 1, none⟩ = some v) : (method (349 + 1) 160 (.pointer (some ⟨q, 1, none⟩)) "Less").run Try.prog w = .ok (172, v) w :=
  run_method_val (by kernel_rfl) Try.underlying160 Try.underlying156 rfl hc
theorem mSwap {w : World} {q : Nat} {v : Value} (hc : w.cell? ⟨q, 1, none⟩ = some v) : (method (349 + 1) 160 (.pointer (some ⟨q, 1, none⟩)) "Swap").run Try.prog w = .ok (173, v) w :=
  run_method_val (by kernel_rfl) Try.underlying160 Try.underlying156 rfl hc
theorem mLen {w : World} {q : Nat} {v : Value} (hc : w.cell? ⟨q, 1, none⟩ = some v) : (method (349 + 1) 160 (.pointer (some ⟨q, 1, none⟩)) "Len").run Try.prog w = .ok (171, v) w :=
  run_method_val (by kernel_rfl) Try.underlying160 Try.underlying156 rfl hc
theorem mPush (q : Nat) (w : World) : (method (349 + 1) 160 (.pointer (some ⟨q, 1, none⟩)) "Push").run Try.prog w = .ok (176, .pointer (some ⟨q, 1, none⟩)) w :=
  run_method_ptr (by kernel_rfl) Try.underlying160 _ w
theorem mPop (q : Nat) (w : World) : (method (349 + 1) 160 (.pointer (some ⟨q, 1, none⟩)) "Pop").run Try.prog w = .ok (175, .pointer (some ⟨q, 1, none⟩)) w :=
  run_method_ptr (by kernel_rfl) Try.underlying160 _ w

set_option maxRecDepth 100000 in
set_option maxHeartbeats 1000000 in
theorem up_any {w : World} {q g c cap : Nat} {sq : Int} {l : List It} {j : Nat} (h : HQ w q g c cap sq l) (hu : Heap.Up ltI l j) (hj : j < l.length) (hl : l.length ≤ 3000) :
    Calls Try.prog 124 #[.iface 160 (.pointer (some ⟨q, 1, none⟩)), .int .i64 j] w fun e w' => e = .returned (.tuple #[]) ∧ ∃ l', HQ w' q g c cap sq l' ∧ Heap.OK ltI l' ∧ l'.Perm l ∧ Chg [g] w w' := by
  have H0 := Lib.hid h
  have HU0 := Lib.hid hu
  clear h hu
  go_enter Try.func124, Try.ntmps124
  go_wp2_with fail
  go_loopw [1] (fun jv wr => ∃ (j : Nat) (l' : List It), jv = .int .i64 j ∧ Hid (HQ wr q g c cap sq l') ∧ Hid (Heap.Up ltI l' j) ∧ j < l'.length ∧ l'.length ≤ 3000 ∧ Hid (l'.Perm l) ∧ Hid (Chg [g] w wr)) (fun jv _ => (intOf jv).toNat)
  case atStart => exact ⟨j, l, rfl, H0, HU0, hj, hl, Lib.hid (List.Perm.refl _), Lib.hid (Chg.refl _ _)⟩
  case round =>
    clear H0 HU0 hj hl
    obtain ⟨j, l', rfl, H, HU, hj, hl, HP, HC⟩ := hrel
    rcases Nat.eq_zero_or_pos j with hj0 | hj0
    · subst hj0
      go_wp2_with fail
      go_end0
      exact ⟨rfl, l', H.out, HU.out.top, HP.out, HC.out⟩
    · obtain ⟨i, hi⟩ : ∃ i, i = (j - 1) / 2 := ⟨_, rfl⟩
      have hij : i < j := by omega
      have hx : l'[i]? = some (l'[i]'(by omega)) := List.getElem?_eq_getElem _
      have hy : l'[j]? = some (l'[j]'hj) := List.getElem?_eq_getElem _
      generalize l'[i]'(by omega) = x at hx
      generalize l'[j]'hj = y at hy
      have hd : ((j : Int) - 1) / 2 = (i : Int) := by omega
      have hd2 : ((j - 1 : Nat) : Int) / 2 = (i : Int) := by omega
      have hne : ((i : Int) == (j : Int)) = false := beq_eq_false_iff_ne.2 (by omega)
      have hne2 : ¬ (i : Int) = (j : Int) := by omega
      have hjm : (0 : Int) ≤ (j : Int) - 1 := by omega
      have F1 := Lib.hid (iLess_any (cap := cap) H.out.row rfl hy hx)
      have F2 := Lib.hid (fun W (hc : Chg [] wr W) => iSwap_any (cap := cap) (H.out.row.chg hc (by simp)) rfl (by have := H.out.hc; have := H.out.hl; omega) hx hy)
      have c1 : wr.cell? ⟨q, 1, none⟩ = some (.slice (some ⟨g, 0, none⟩) l'.length cap) := H.out.blk.cell 1
      have m1 := mLess c1
      have HX := Lib.hid hx
      have HY := Lib.hid hy
      have HI := Lib.hid hi
      clear hx hy hi
      generalize hnl : l'.length = nl at *
      have HN := Lib.hid hnl
      clear hnl
      cases hr : ltI y x with
      | false =>
        have HO := Lib.hid (HU.out.stop' HI.out HX.out HY.out hr)
        rw [hr] at F1
        clear hr F2 HU
        go_wp2_with fail
        refine F1.out.mono ?_
        rintro e w2 ⟨rfl, hc2⟩
        go_wp2_with fail
        go_end0
        exact ⟨rfl, l', H.out.chg0 hc2, HO.out, HP.out, HC.out.trans (hc2.more (by simp))⟩
      | true =>
        have HO := Lib.hid (HU.out.step' ltI_lt HI.out hj0 HX.out HY.out hr)
        have HPm := Lib.hid ((Heap.swap_perm HX.out HY.out).trans HP.out)
        have HLn := Lib.hid (Heap.swap_len l' i j x y)
        rw [hr] at F1
        clear hr HU HP
        go_wp2_with fail
        refine F1.out.mono ?_
        rintro e w2 ⟨rfl, hc2⟩
        clear m1 F1
        have c2 := hc2.cell c1 (by simp)
        have m2 := mSwap c2
        have F3 := Lib.hid (F2.out w2 hc2)
        have H2 := Lib.hid (H.out.chg0 hc2)
        have HC2 := Lib.hid (HC.out.trans (hc2.more (T := [g]) (by simp)))
        clear F2 H HC hc2 c1
        go_wp2_with fail
        refine F3.out.mono ?_
        rintro e w3 ⟨rfl, hr3, hc3⟩
        have H3 := Lib.hid (H2.out.swap hr3 hc3)
        have HC3 := Lib.hid (HC2.out.trans hc3)
        clear F3 H2 HC2 hr3 hc3 m2 c2
        go_wp2_with fail
        go_roundw
        case rel => exact ⟨i, _, rfl, H3, HO, by rw [HLn.out, HN.out]; omega, by rw [HLn.out, HN.out]; omega, HPm, HC3⟩
        case measure => simp [intOf]; omega
end Go.Proofs.Ytgbdbeaflilmlaa
