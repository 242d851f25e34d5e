/-
  WALKS: a checker that there is not, or that no call made; HealthNil. No condition.
-/
import Derived.Test.YtgbdbeaflilmlaaHealthL
set_option linter.unusedVariables false
set_option linter.unusedSimpArgs false
namespace Go.Proofs.Ytgbdbeaflilmlaa
open Go.RowKit Go.Maps

def NoK (w : World) (pv : Value) : Prop := pv = .pointer none ∨ ∃ b, pv = .pointer (some ⟨b, 0, none⟩) ∧ w.cell? ⟨b, 1, none⟩ = some (.map none)
theorem NoK.chg {w w' : World} {pv : Value} (h : NoK w pv) (hc : Chg [] w w') : NoK w' pv := by
  rcases h with h | ⟨b, h, hb⟩
  · exact .inl h
  · exact .inr ⟨b, h, hc.cell hb (by simp)⟩

set_option maxHeartbeats 400000 in
theorem kis_no (pv : Value) {w : World} (h : NoK w pv) : Calls Try.prog 54 #[pv] w fun e w' => e = .returned (.bool false) ∧ w = w' := by
  have hn := fun w => run_neq_map_nil (P := Try.prog) w 59 _ _ none Try.underlying59
  rcases h with rfl | ⟨b, rfl, hb⟩
  · go_enter Try.func54, Try.ntmps54
    go_wp2
    go_ret
    exact ⟨rfl, rfl⟩
  · go_enter Try.func54, Try.ntmps54
    go_wp2
    go_ret
    exact ⟨rfl, rfl⟩
set_option maxHeartbeats 400000 in
theorem kget_no (pv : Value) (n : Int) {w : World} (h : NoK w pv) : Calls Try.prog 53 #[pv, .int .i64 n] w fun e w' => e = .returned (.tuple #[.pointer none, .bool false]) ∧ w = w' := by
  go_enter Try.func53, Try.ntmps53
  go_wp2_with fail
  refine (kis_no pv h).mono ?_
  rintro e w' ⟨rfl, rfl⟩
  go_wp2_with fail
  go_ret2
  exact ⟨rfl, rfl⟩
set_option maxHeartbeats 400000 in
theorem kadd_no (pv : Value) (n : Int) {w : World} (h : NoK w pv) : Calls Try.prog 13 #[pv, .int .i64 n] w fun e w' => e = .returned (.bool false) ∧ w = w' := by
  go_enter Try.func13, Try.ntmps13
  go_wp2_with fail
  refine (kget_no pv n h).mono ?_
  rintro e w' ⟨rfl, rfl⟩
  go_wp2_with fail
  refine (kis_no pv h).mono ?_
  rintro e w' ⟨rfl, rfl⟩
  go_wp2_with fail
  go_ret
  exact ⟨rfl, rfl⟩
set_option maxHeartbeats 400000 in
theorem krem_no (pv : Value) (n : Int) {w : World} (h : NoK w pv) : Calls Try.prog 20 #[pv, .int .i64 n] w fun e w' => e = .returned (.bool false) ∧ w = w' := by
  go_enter Try.func20, Try.ntmps20
  go_wp2_with fail
  refine (kget_no pv n h).mono ?_
  rintro e w' ⟨rfl, rfl⟩
  go_wp2_with fail
  go_ret
  exact ⟨rfl, rfl⟩
set_option maxHeartbeats 400000 in
theorem kup_no (pv : Value) (n : Int) {w : World} (h : NoK w pv) : Calls Try.prog 16 #[pv, .int .i64 n] w fun e w' => e = .returned (.bool false) ∧ w = w' := by
  go_enter Try.func16, Try.ntmps16
  go_wp2_with fail
  refine (kget_no pv n h).mono ?_
  rintro e w' ⟨rfl, rfl⟩
  go_wp2_with fail
  go_ret
  exact ⟨rfl, rfl⟩
set_option maxHeartbeats 400000 in
theorem ktick_no (pv : Value) {w : World} (h : NoK w pv) : Calls Try.prog 14 #[pv] w fun e w' => e = .returned (.tuple #[.slice none 0 0, .slice none 0 0]) ∧ w = w' := by
  go_enter Try.func14, Try.ntmps14
  go_wp2_with fail
  refine (kis_no pv h).mono ?_
  rintro e w' ⟨rfl, rfl⟩
  go_wp2_with fail
  go_ret2
  exact ⟨rfl, rfl⟩
set_option maxHeartbeats 400000 in
theorem knodes_no (pv : Value) {w : World} (h : NoK w pv) : Calls Try.prog 23 #[pv] w fun e w' => e = .returned (.slice none 0 0) ∧ w = w' := by
  go_enter Try.func23, Try.ntmps23
  go_wp2_with fail
  refine (kis_no pv h).mono ?_
  rintro e w' ⟨rfl, rfl⟩
  go_wp2_with fail
  go_ret
  exact ⟨rfl, rfl⟩
set_option maxHeartbeats 400000 in
theorem kans_no (pv : Value) (n s : Int) {w : World} (h : NoK w pv) : Calls Try.prog 15 #[pv, .int .i64 n, .int .i64 s] w fun e w' => e = .returned (.tuple #[.agg #[.int .i64 0, .bool false], .bool false]) ∧ Chg [] w w' := by
  have hA := (Chg.refl [] w).alloc (.cells #[.int .i64 0, .bool false] 34)
  have hB : Blk (w.alloc (.cells #[.int .i64 0, .bool false] 34)) w.heap.size 34 #[.int .i64 0, .bool false] := Blk.new _ _ _
  have h2 := h.chg hA
  have HA := Lib.hid hA
  clear hA
  go_enter Try.func15, Try.ntmps15
  go_wp2_with fail
  refine (kget_no pv n h2).mono ?_
  rintro e w1 ⟨rfl, rfl⟩
  go_wp2_with (first
    | (refine wpList_store_blk rfl 34 _ _ rfl rfl hB rfl rfl rfl (by kernel_rfl) rfl ?_; intro w5 hB5 hc5)
    | fail)
  exact bodyPost_ret (results_blk2 rfl rfl hB5 _ Try.underlying34 rfl (by kernel_rfl)) rfl ⟨rfl, HA.out.trans' hc5 (by simp)⟩

set_option maxRecDepth 100000 in
set_option maxHeartbeats 2000000 in
theorem nil36 (n s : Int) (w : World) : Calls Try.prog 5 #[.int .i64 n, .int .i64 s] w fun e w' => e = .returned (.bool true) ∧ Chg [] w w' := by
  have hA := (Chg.refl [] w).alloc (.cells #[.int .i64 0, .map none, .pointer none] 62)
  have n2 : NoK (w.alloc (.cells #[.int .i64 0, .map none, .pointer none] 62)) (.pointer (some ⟨w.heap.size, 0, none⟩)) := .inr ⟨_, rfl, (Blk.new w 62 _).cell 1⟩
  go_enter Try.func5, Try.ntmps5
  go_wp2_with fail
  generalize w.alloc _ = w0 at *
  generalize hb : w.heap.size = b at *
  have N1 : ∀ w, NoK w (.pointer none) := fun w => .inl rfl
  have N2 := Lib.hid (fun w1 (hc : Chg [] w0 w1) => n2.chg hc)
  have hz := Chg.refl [] w0
  clear n2
  refine (ktick_no (.pointer none) (N1 _)).mono ?_
  rintro e w9 ⟨rfl, rfl⟩
  go_wp2_with fail
  refine (ktick_no (.pointer (some ⟨b, 0, none⟩)) (N2.out _ hz)).mono ?_
  rintro e w9 ⟨rfl, rfl⟩
  go_wp2_with fail
  refine (kans_no (.pointer none) n s (N1 _)).mono ?_
  rintro e w1 ⟨rfl, hc1⟩
  replace hz := hz.trans hc1
  have hz1 := hz.alloc (.cells #[.int .i64 0, .bool false] 34)
  have hB1 : Blk (w1.alloc (.cells #[.int .i64 0, .bool false] 34)) w1.heap.size 34 #[.int .i64 0, .bool false] := Blk.new _ _ _
  clear hc1
  go_wp2_with (first
    | (refine wpList_store_blk rfl 34 _ _ rfl rfl hB1 rfl rfl rfl (by kernel_rfl) rfl ?_; intro w2 hB2 hc2)
    | fail)
  have hz2 := hz1.trans' hc2 (by intro x hx; simp at hx; subst hx; exact .inr hz.size)
  clear hB1 hz1 hB2 hc2 hz
  refine (kans_no (.pointer (some ⟨b, 0, none⟩)) n s (N2.out _ hz2)).mono ?_
  rintro e w3 ⟨rfl, hc3⟩
  have hz := hz2.trans hc3
  have hz3 := hz.alloc (.cells #[.int .i64 0, .bool false] 34)
  have hB3 : Blk (w3.alloc (.cells #[.int .i64 0, .bool false] 34)) w3.heap.size 34 #[.int .i64 0, .bool false] := Blk.new _ _ _
  clear hc3 hz2
  go_wp2_with (first
    | (refine wpList_store_blk rfl 34 _ _ rfl rfl hB3 rfl rfl rfl (by kernel_rfl) rfl ?_; intro w4 hB4 hc4)
    | fail)
  have hz4 := hz3.trans' hc4 (by intro x hx; simp at hx; subst hx; exact .inr hz.size)
  clear hB3 hz3 hB4 hc4 hz
  refine (kadd_no (.pointer none) n (N1 _)).mono ?_
  rintro e w9 ⟨rfl, rfl⟩
  go_wp2_with fail
  refine (kadd_no (.pointer (some ⟨b, 0, none⟩)) n (N2.out _ hz4)).mono ?_
  rintro e w9 ⟨rfl, rfl⟩
  go_wp2_with fail
  refine (krem_no (.pointer none) n (N1 _)).mono ?_
  rintro e w9 ⟨rfl, rfl⟩
  go_wp2_with fail
  refine (krem_no (.pointer (some ⟨b, 0, none⟩)) n (N2.out _ hz4)).mono ?_
  rintro e w9 ⟨rfl, rfl⟩
  go_wp2_with fail
  refine (kup_no (.pointer none) n (N1 _)).mono ?_
  rintro e w9 ⟨rfl, rfl⟩
  go_wp2_with fail
  refine (kup_no (.pointer (some ⟨b, 0, none⟩)) n (N2.out _ hz4)).mono ?_
  rintro e w9 ⟨rfl, rfl⟩
  go_wp2_with fail
  refine (knodes_no (.pointer none) (N1 _)).mono ?_
  rintro e w9 ⟨rfl, rfl⟩
  go_wp2_with fail
  refine (knodes_no (.pointer (some ⟨b, 0, none⟩)) (N2.out _ hz4)).mono ?_
  rintro e w9 ⟨rfl, rfl⟩
  go_wp2_with fail
  refine (lives36 _).mono ?_
  rintro e w9 ⟨rfl, hc9⟩
  go_wp2_with fail
  go_ret
  exact ⟨rfl, (hA.trans hz4).trans hc9⟩
end Go.Proofs.Ytgbdbeaflilmlaa
