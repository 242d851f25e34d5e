/-
  CONTRACTS: are two steps the same, two rows of steps; the example. Conditions: Gl, lengths.
-/
import Derived.Test.YtljgemknccodeaaDoorScO
set_option linter.unusedVariables false
set_option linter.unusedSimpArgs false
namespace Go.Proofs.YtljgemknccodeaaDoor
open Go.RowKit

theorem run_strA {w : World} {B : Nat} {v : Value} {l : Bs} (h : SlY w B v l) : (convert 30 9 v).run Tryd.prog w = .ok (str l) w := by
  rcases Nat.eq_zero_or_pos l.length with h0 | h0
  · obtain ⟨_, A, c, rfl, _, _⟩ := h
    have hl : l = [] := List.eq_nil_of_length_eq_zero h0
    subst hl
    cases A with
    | none =>
      rw [run_convert_bytes_string (P := Tryd.prog) w 30 9 5 none _ c Tryd.underlying30 Tryd.underlying5 Tryd.underlying9]
      rfl
    | some a => exact run_convert_bytes_back w 30 9 5 a c [] Tryd.underlying30 Tryd.underlying5 Tryd.underlying9 (fun j hj => absurd hj (by simp))
  · obtain ⟨A, c, rfl⟩ := Sl.form h
    obtain ⟨b, o, c', e, _, _⟩ := SlY.at_ h (List.getElem?_eq_getElem h0)
    cases e
    refine run_str rfl (fun j x hx => ?_)
    obtain ⟨b', o', c'', e', _, hcell⟩ := SlY.at_ h hx
    cases e'
    exact hcell
set_option maxRecDepth 100000 in
set_option maxHeartbeats 4000000 in
theorem Same_true {w : World} {B B' : Nat} {v v' : Value} {s : St} (h : SlY w B v s.b) (h' : SlY w B' v' s.b) : Calls Tryd.prog 12 #[.agg (arrSt s v), .agg (arrSt s v')] w fun e w' => e = .returned (.bool true) ∧ Chg [] w w' := by
  obtain ⟨A, c, rfl⟩ := Sl.form h
  obtain ⟨A', c', rfl⟩ := Sl.form h'
  have h1 := ((Chg.refl [] w).alloc (.cells (arrSt s (.slice A s.b.length c)) 35)).alloc (.cells (arrSt s (.slice A' s.b.length c')) 35)
  have b2 : Blk ((w.alloc (.cells (arrSt s (.slice A s.b.length c)) 35)).alloc (.cells (arrSt s (.slice A' s.b.length c')) 35)) w.heap.size 35 (arrSt s (.slice A s.b.length c)) := (Blk.new _ _ _).alloc _
  have b3 : Blk ((w.alloc (.cells (arrSt s (.slice A s.b.length c)) 35)).alloc (.cells (arrSt s (.slice A' s.b.length c')) 35)) (w.heap.size + 1) 35 (arrSt s (.slice A' s.b.length c')) := Blk.new' (by simp)
  have r1 := run_strA (Sl.chg0 h h1)
  have r2 := run_strA (Sl.chg0 h' h1)
  have HC := Lib.hid h1
  have a0 := b2.cell 0
  have a1 := b2.cell 1
  have a2 := b2.cell 2
  have a3 := b2.cell 3
  have a4 := b2.cell 4
  have d0 := b3.cell 0
  have d1 := b3.cell 1
  have d2 := b3.cell 2
  have d3 := b3.cell 3
  have d4 := b3.cell 4
  simp only [List.getElem?_toArray, List.getElem?_cons_succ, List.getElem?_cons_zero] at a0 a1 a2 a3 a4 d0 d1 d2 d3 d4
  clear h h' h1 b2 b3
  go_enter Tryd.func12, Tryd.ntmps12
  go_upto_region 1 with fail
  generalize (w.alloc (.cells (arrSt s (.slice A s.b.length c)) 35)).alloc (.cells (arrSt s (.slice A' s.b.length c')) 35) = w1 at *
  generalize w.heap.size = g at *
  go_wp2_with fail
  go_ret
  exact ⟨rfl, HC.out⟩
end Go.Proofs.YtljgemknccodeaaDoor
