/-
  WALK: the example of chapter 29 holds. No condition.
-/
import Derived.Test.YtelbaooifmkpkaaEpW5
set_option linter.unusedVariables false
set_option linter.unusedSimpArgs false
namespace Go.Proofs.Ytelbaooifmkpkaa
open Go.RowKit

theorem elB : El Try.prog 43 5 (.int .u8 0) 1 1 := ⟨Try.underlying43, by kernel_rfl, rfl, by omega⟩
theorem bytes_lit (w : World) (l : List Int) (h : l.length ≤ maxLen) {n : Nat} (hn : n = w.heap.size) : SlB (w.alloc (.cells (l.map (Value.int .u8)).toArray 5)) w.heap.size (.slice (some ⟨n, 0, none⟩) l.length l.length) l := by
  subst hn
  exact Sl.of_own (own_lit w 5 1 l.length (l.map (Value.int .u8)).toArray (Nat.le_refl _) h (by simp))
theorem lives_take : takeF (startF 5 9) ⟨0, 0, 6, 10, 16, 0, 0, 0⟩ [1, 2] = (⟨2, 5, 9, 8, 10, 2, 33⟩, [segF 10 8 16]) := by kernel_rfl
theorem lives_mix : mixF 1 [2] = 33 := by decide +kernel

set_option maxHeartbeats 1000000 in
theorem lives29 (w : World) : Calls Try.prog 19 #[] w fun e w' => e = .returned (.bool true) ∧ Chg [] w w' := by
  go_enter Try.func19, Try.ntmps19
  go_wp2_with fail
  refine (start_any 5 9 _).mono ?_
  rintro e w1 ⟨rfl, hc1⟩
  have hpay : SlB (w1.alloc (.cells #[.int .u8 1, .int .u8 2] 5)) 0 (.slice (some ⟨w1.heap.size, 0, none⟩) 2 2) [1, 2] := Sl.less (bytes_lit w1 [1, 2] (by simp [maxLen]) rfl) (Nat.zero_le _)
  go_wp2_with fail
  refine (take_any (startF 5 9) ⟨0, 0, 6, 10, 16, 0, 0, 0⟩ (.slice none 0 0) _ [1, 2] _ hpay (by simp) (by simp) (by simp [startF]) (by simp [startF]) (by simp [startF])).mono ?_
  rw [lives_take]
  rintro e w2 ⟨v, rfl, hs, hc2⟩
  obtain ⟨vb, vo, vc, hv, _, _, hcell⟩ := Sl.rec (l := [segF 10 8 16]) (i := 0) encT_len (by omega) hs rfl
  have k3 : w2.cell? ⟨vb, vo + 3, none⟩ = some (.int .u32 8) := (hcell 3 (by omega)).trans rfl
  have hvb := World.block_lt_of_cell? _ _ k3
  have hcg : Chg [] w w2 := (hc1.alloc _).trans hc2
  subst hv
  clear hs hcell
  unfold enC
  go_wp2_with fail
  have hp2 : SlB ((w2.alloc (.cells #[.int .i64 2, .int .u32 5, .int .u32 9, .int .u32 8, .int .u32 10, .int .i64 2, .int .u32 33] 46)).alloc (.cells #[.int .u8 2] 5)) 0 (.slice (some ⟨w2.heap.size + 1, 0, none⟩) 1 1) [2] := Sl.less (bytes_lit _ [2] (by simp [maxLen]) (by simp)) (Nat.zero_le _)
  refine (mix_any 1 hp2 (by simp) (by simp)).mono ?_
  rw [lives_mix]
  rintro e w' ⟨rfl, rfl⟩
  go_wp2_with fail
  go_ret
  exact ⟨rfl, (hcg.alloc _).alloc _⟩
end Go.Proofs.Ytelbaooifmkpkaa
