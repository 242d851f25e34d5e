/-
  WALKS: harrierref07.Same of one segment without options and bytes. No condition.
-/
import Derived.Test.YtelbaooifmkpkaaTellsW
import Derived.Laws.BytesArg
set_option linter.unusedVariables false
set_option linter.unusedSimpArgs false
namespace Go.Proofs.Ytelbaooifmkpkaa
open Go.RowKit

set_option maxHeartbeats 400000 in
theorem nosame (w : World) :
    Calls Try.prog 49 #[.slice none 0 0, .slice none 0 0] w fun e w' => e = .returned (.bool true) ∧ w = w' := by
  go_enter Try.func49, Try.ntmps49
  go_wp2_with fail
  refine wp_loop_rounds 2 ?_
  rw [rounds_succ]
  go_wp2_with fail
  go_ret
  exact ⟨rfl, rfl⟩

set_option maxHeartbeats 1000000 in
theorem same_any (t : TC) (w : World) :
    Calls Try.prog 27 #[.agg (enT t (.slice none 0 0) (.slice none 0 0)), .agg (enT t (.slice none 0 0) (.slice none 0 0))] w fun e w' => e = .returned (.bool true) ∧ Chg [] w w' := by
  have d0 : (t.sport == t.sport) = true := by simp
  have d1 : (t.dport == t.dport) = true := by simp
  have d2 : (t.seq == t.seq) = true := by simp
  have d3 : (t.ack == t.ack) = true := by simp
  have d4 : (t.flags == t.flags) = true := by simp
  have d5 : (t.window == t.window) = true := by simp
  have d6 : (t.ck == t.ck) = true := by simp
  have d7 : (t.urgent == t.urgent) = true := by simp
  have hcv : ∀ w : World, (convert 43 9 (.slice none 0 0)).run Try.prog w = .ok (.string .empty) w := fun w => run_convert_bytes_nil w 43 5 Try.underlying43 Try.underlying5 0 0 9 Try.underlying9
  unfold enT
  go_enter Try.func27, Try.ntmps27
  go_wp2_with fail
  refine (nosame _).mono ?_
  rintro e w1 ⟨rfl, rfl⟩
  go_wp2_with fail
  go_ret
  exact ⟨rfl, (by repeat (first | with_reducible assumption | with_reducible exact Chg.refl _ _ | with_reducible refine Chg.drew ?_ | with_reducible refine Chg.drewN ?_ _ | with_reducible refine Chg.alloc ?_ _ | (with_reducible refine Chg.setCell ?_ ?_ _; rotate_left; first | (exact .inr (by simp)) | (exact .inr (by simp; omega)) | (exact .inr (by omega)) | (exact .inl (by simp)))))⟩
end Go.Proofs.Ytelbaooifmkpkaa
