/-
  flow.Sort: all of a row of flows, each once, in order. Condition: at most 1000 flows.
-/
import Derived.Test.YtldgdpekhjignaaGreatFlowSft
import Derived.Shelf.SlSortCmp.NoneTotal
set_option linter.unusedVariables false
set_option linter.unusedSimpArgs false
namespace Go.Proofs.YtldgdpekhjignaaGreat
open Go.RowKit Go.Maps Go.Sort Go.Proofs Go.Lib Go.Shelf

theorem sortFl : SortFlSays := fun w base gl v L hc hown hok hnd hlen hgl => by
  by_cases hne : v = .slice none 0 0
  · subst hne
    have h0 : L = [] := by
      rcases hown.2 with ⟨_, h0⟩ | ⟨g, cap, cur, e, _⟩
      · exact List.eq_nil_of_length_eq_zero h0
      · cases e
    subst h0
    have hcon := AnyF.slices_SortFunc_none Tryz.sortFl none 0 (.func (.func 89) #[] #[.pointer (some ⟨gl, 0, none⟩)]) w
    refine hcon.mono ?_
    rintro e w' ⟨rfl, rfl⟩
    exact ⟨rfl, [], List.Perm.refl _, List.Pairwise.nil, Sl.nil _ _ _, Chg.refl _ _⟩
  · exact sortFl_some hc hown hok hnd hlen hgl hne

set_option maxHeartbeats 400000 in
theorem fsort_any {w : World} {v : Value} {l : List Fl} (h : SlF w v l) (hl : l.length ≤ 1000) (hok : ∀ x ∈ l, okF x) :
    Calls Tryz.prog 41 #[v] w fun e w' => ∃ v' L, e = .returned v' ∧ L.Perm (onceF l) ∧ SrtF L ∧ Sl w' w.heap.size 34 v' L.length (L.flatMap encF) ∧ Chg [] w w' := by
  have F1 := Lib.hid (ordered_any sortFl h hl hok)
  clear h hl hok
  go_enter Tryz.func41, Tryz.ntmps41
  go_wp2_with fail
  refine F1.out.mono ?_
  rintro e w1 ⟨v1, L, rfl, hp, hs, hsl, hc⟩
  clear F1
  go_wp2_with fail
  go_ret
  exact ⟨_, L, rfl, hp, hs, hsl, hc⟩
end Go.Proofs.YtldgdpekhjignaaGreat
