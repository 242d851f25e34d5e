/-
  SMALL LAWS: a range over a map of the walk's own, across what else happens. No condition.
-/
import Derived.Test.YtgbdbeaflilmlaaMapV
set_option linter.unusedVariables false
set_option linter.unusedSimpArgs false
namespace Go.Proofs.Ytgbdbeaflilmlaa
open Go.RowKit Go.Maps
section
variable {P : Program} {k e : TypeId} {κ : Type} {K : KV P k κ} {w w' : World} {b r n s cnt : Nat} {M : κ → Option Value} {left : Lit → Bool} {ss : List (κ × Value)}
theorem OMR.kept (h : OMR K w b r n M s left cnt ss) {row : Option Nat} (hg : w.grownBy w' row) (hb : some b ≠ row) (hr : some r ≠ row) : OMR K w' b r n M s left cnt ss := by
  obtain ⟨D, h1, h2⟩ := h
  exact ⟨D, h1.kept hg hb hr, h2⟩
theorem OMR.alloc (h : OMR K w b r n M s left cnt ss) (o : Obj) : OMR K (w.alloc o) b r n M s left cnt ss := by
  obtain ⟨D, h1, h2⟩ := h
  exact ⟨D, h1.alloc o, h2⟩
theorem OMR.left_eq (h : OMR K w b r n M s left cnt ss) : w.rangeLeft b r = cnt := by
  obtain ⟨D, h1, h2⟩ := h
  exact h1.left_eq
theorem OMR.lt (h : OMR K w b r n M s left cnt ss) : b < w.heap.size ∧ r < w.heap.size := by
  obtain ⟨D, h1, h2⟩ := h
  exact ⟨h1.owns.lt, h1.lt⟩
theorem OMR.came (h : OMR K w b r n M s left cnt ss) : (ss.map Prod.fst).Nodup ∧ ∀ p ∈ ss, K.ok p.1 ∧ M p.1 = some p.2 := by
  obtain ⟨D, _, _, _, h4⟩ := h
  exact ⟨h4.1, fun p hp => ⟨((h4.2 p).1 hp).1, ((h4.2 p).1 hp).2.1⟩⟩
end
end Go.Proofs.Ytgbdbeaflilmlaa
