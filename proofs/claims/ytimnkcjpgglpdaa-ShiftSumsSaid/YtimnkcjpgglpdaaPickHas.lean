/-
  WALKS: whether a backend has a slot, and chapter 18's example. Condition: the table reads as at most 300 integers.
-/
import Derived.Test.YtimnkcjpgglpdaaPickRef
import Derived.Test.YtimnkcjpgglpdaaShelfC
set_option linter.unusedVariables false
set_option linter.unusedSimpArgs false
namespace Go.Proofs.Ytimnkcjpgglpdaa
open Go.RowKit

theorem nodes_any {w : World} {B : Nat} {v : Value} {l : List Int} (h : SlZ w B v l) (hl : l.length ≤ 600) (hwz : ∀ x ∈ l, (Lit.int .i64 x).wf = true) :
    Calls Try.prog 17 #[v] w fun e w' => ∃ v' ns, e = .returned v' ∧ IsNodes l ns ∧ SlZ w' w.heap.size v' ns ∧ Below w.heap.size w w' :=
  nodes_any' Try.slices_Sort_int Try.slices_Sort_int_none h hl hwz

theorem search_any {w : World} {B : Nat} {v : Value} {ns : List Int} (x : Int) (h : SlZ w B v ns) (hl : ns.length ≤ 600) (hs : ns.Pairwise (· < ·)) :
    Calls Try.prog 46 #[v, .int .i64 x] w fun e w' => (∃ i, e = .returned (.tuple #[.int .i64 i, .bool (decide (x ∈ ns))])) ∧ ∃ q, w' = w.drewN q := by
  rcases Nat.eq_zero_or_pos ns.length with h0 | h0
  · obtain ⟨_, A, c, rfl, _⟩ := h
    obtain rfl : ns = [] := List.eq_nil_of_length_eq_zero h0
    refine (Try.slices_BinarySearch_int_empty A c x w).mono ?_
    rintro e w' ⟨rfl, rfl⟩
    exact ⟨⟨0, by simp⟩, 0, rfl⟩
  · obtain ⟨b, off, c, rfl, _, hb, _, hc⟩ := h.all h0
    refine (Try.slices_BinarySearch_int b off ns.length c ns x w (Nat.le_refl _) (by omega) (fun j hj => by rw [hc j hj]; simp [List.getD]) (by rw [List.take_length]; exact hs.imp (fun h => by omega))).mono ?_
    rintro e w' ⟨rfl, q, rfl⟩
    exact ⟨⟨_, by rw [List.take_length, List.contains_eq_mem]⟩, q, rfl⟩

set_option maxHeartbeats 400000 in
theorem has_any {w : World} {B : Nat} {v : Value} {l : List Int} (x : Int) (h : SlZ w B v l) (hl : l.length ≤ 600) (hwz : ∀ x ∈ l, (Lit.int .i64 x).wf = true) :
    Calls Try.prog 19 #[v, .int .i64 x] w fun e w' => e = .returned (.bool (decide (0 < x ∧ x ∈ l))) ∧ Chg [] w w' := by
  have F1 := Lib.hid (nodes_any h hl hwz)
  go_enter Try.func19, Try.ntmps19
  go_wp2_with fail
  refine F1.out.mono ?_
  rintro e w1 ⟨v', ns, rfl, hN, hs, hB⟩
  have hln := hN.length_le
  have F2 := Lib.hid (search_any x hs (by omega) hN.1)
  have HD : decide (x ∈ ns) = decide (0 < x ∧ x ∈ l) := by simp [hN.2 x]
  rw [HD] at F2
  generalize hq : decide (0 < x ∧ x ∈ l) = q at *
  have HQ := Lib.hid hq
  clear hq
  have hc1 : Chg [] w w1 := Chg.of_below hB
  clear hs hB hN F1 HD
  go_wp2_with fail
  refine F2.out.mono ?_
  rintro e w2 ⟨⟨i, rfl⟩, d, rfl⟩
  go_wp2_with fail
  go_ret
  exact ⟨by rw [HQ.out]; rfl, hc1.drewN d⟩

theorem dec_no {x : Int} {l : List Int} (h : ¬ (0 < x ∧ x ∈ l)) : decide (0 < x ∧ x ∈ l) = false := by simp only [decide_eq_false_iff_not]; exact h

def t335 : List Int := [3, 3, 5]
def t503 : List Int := [5, 0, 3]
def t0 : List Int := [0]
theorem lit_Z {w : World} (l : List Int) (hl : l.length ≤ 600) : SlZ (w.alloc (.cells (l.map (Value.int .i64)).toArray 3)) w.heap.size (.slice (some ⟨w.heap.size, 0, none⟩) l.length l.length) l := by
  have := own_lit (base := w.heap.size) w 3 1 l.length (l.map (Value.int .i64)).toArray (Nat.le_refl _) (by simp only [maxLen]; omega) (by simp)
  unfold SlZ
  exact Sl.of_own (by simpa using this)

end Go.Proofs.Ytimnkcjpgglpdaa
