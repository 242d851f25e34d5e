/-
  SMALL LAWS: a whole row of cells loaded, in a quiet region, under a guard. No condition.
-/
import Derived.Test.YtldgdpekhjignaaGreatRow
import Derived.Deep.MidRow
import Derived.Deep.QuietTactic
import Derived.Shelf.SlSortCmp.QuietGrown
set_option linter.unusedVariables false
set_option linter.unusedSimpArgs false
namespace Go.Proofs.YtldgdpekhjignaaGreat
open Go.RowKit

theorem Blk.rangeQ {w : World} {g : Nat} {t : TypeId} {cs : Array Value} (h : Blk w g t cs) : w.rangeAt g 0 cs.toList := fun j v hj => by
  rw [Nat.zero_add, h.cell]; simpa using hj
theorem rangeAt_chg {w w' : World} {S : List Nat} {b o : Nat} {cs : List Value} (h : w.rangeAt b o cs) (hc : Chg S w w') (hb : b ∉ S) : w'.rangeAt b o cs := fun j v hv => hc.cell (h j v hv) hb
section
variable {P : Program} {ops : Array Oper} {rest : List Oper} {o : Oper} {a : Act}
/-- A whole row loaded in a quiet region. -/
theorem wpQuiet_row {w : World} {Q : Act → Prop} (ty : TypeId) (x : Operand) (ho : o.op = .load ty x) (hw : Region.wanted o (yielded ops a.tmps) = true) (b off : Nat) (hx : a.eval x = .pointer (some ⟨b, off, none⟩)) (cs : Array Value) (d : TypeDesc) (hS : w.rangeAt b off cs.toList)
    (hu : P.underlying ty = some d) (hd : d.isRow = true) (hi : (P.info? ty).map (·.size) = some cs.size) (h : wpQuiet P ops (fun w' => ∃ n, w' = w.drewN n) Q rest (a.put o.dst (.agg cs))) : wpQuiet P ops (fun w' => ∃ n, w' = w.drewN n) Q (o :: rest) a := by
  unfold wpQuiet
  rw [if_pos hw]
  refine ⟨.agg cs, fun w' ⟨n, hn⟩ => ?_, h⟩
  subst hn
  unfold Oper.quietAt execOp
  simp only [ho, hx, Instr.loadAt, Instr.sureAddr, Sem.run_bind, Sem.run_pure, Result.andThen_ok, run_loadVar_mid (w.drewN n) b off ty cs.toList d (rangeAt_chg hS ((Chg.refl [] w).drewN n) (by simp)) hu hd (by simpa using hi)]
  exact ⟨rfl, rfl⟩
/-- .. in whatever class of worlds. -/
theorem wpQuiet_rowC {C : World → Prop} {Q : Act → Prop} (ty : TypeId) (x : Operand) (ho : o.op = .load ty x) (hw : Region.wanted o (yielded ops a.tmps) = true) (b off : Nat) (hx : a.eval x = .pointer (some ⟨b, off, none⟩)) (cs : Array Value) (d : TypeDesc) (hS : ∀ w', C w' → w'.rangeAt b off cs.toList)
    (hu : P.underlying ty = some d) (hd : d.isRow = true) (hi : (P.info? ty).map (·.size) = some cs.size) (h : wpQuiet P ops C Q rest (a.put o.dst (.agg cs))) : wpQuiet P ops C Q (o :: rest) a := by
  unfold wpQuiet
  rw [if_pos hw]
  refine ⟨.agg cs, fun w' hC => ?_, h⟩
  unfold Oper.quietAt execOp
  simp only [ho, hx, Instr.loadAt, Instr.sureAddr, Sem.run_bind, Sem.run_pure, Result.andThen_ok, run_loadVar_mid w' b off ty cs.toList d (hS w' hC) hu hd (by simpa using hi)]
  exact ⟨rfl, rfl⟩
/-- An operation whose guard is not met; one whose guard is met. -/
theorem wpQuiet_skip {C : World → Prop} {Q : Act → Prop} (hw : Region.wanted o (yielded ops a.tmps) = false) (h : wpQuiet P ops C Q rest (a.put o.dst undef)) : wpQuiet P ops C Q (o :: rest) a := by
  unfold wpQuiet
  rw [if_neg (by rw [hw]; simp)]
  exact h
theorem wpQuiet_do {C : World → Prop} {Q : Act → Prop} (hw : Region.wanted o (yielded ops a.tmps) = true) (h : ∀ K : Act → Prop, (∀ a, wpQuiet P ops C Q rest a → K a) → o.quiet P a C K) : wpQuiet P ops C Q (o :: rest) a := by
  unfold wpQuiet
  rw [if_pos hw]
  exact h _ (fun _ h => h)
/-- A whole row loaded, under a guard that is met or under none. -/
theorem wpList_row {w : World} {Q : Exit → Act → World → Prop} (ty : TypeId) (x : Operand) (ho : o.op = .load ty x) (hw : Region.wanted o (yielded ops a.tmps) = true) (b off : Nat) (hx : a.eval x = .pointer (some ⟨b, off, none⟩)) (cs : Array Value) (d : TypeDesc) (hS : w.rangeAt b off cs.toList)
    (hu : P.underlying ty = some d) (hd : d.isRow = true) (hi : (P.info? ty).map (·.size) = some cs.size) (h : wpList P ops Q rest (a.put o.dst (.agg cs)) w) : wpList P ops Q (o :: rest) a w := by
  unfold wpList
  rw [if_pos hw]
  have := wp_load_mid (P := P) (op := o) (a := a) (w := w) (K := wpList P ops Q rest) (Q := Q) ty x ho b off hx cs.toList d hS hu hd (by simpa using hi) (by simpa using h)
  exact .inl this
end
/-- A world of the class of grown ones. -/
theorem grown_chg {w w' : World} (h : ∃ p : GrownBy, w' = Go.Sort.grow (w.drewN p.n) p.os) : Chg [] w w' := by
  obtain ⟨⟨q, os⟩, rfl⟩ := h
  refine ⟨rfl, rfl, rfl, by simp [Go.Sort.grow, World.drewN], fun k hk _ => ?_⟩
  simp [Go.Sort.grow, World.drewN]
  rw [Array.getElem?_append_left hk]
end Go.Proofs.YtldgdpekhjignaaGreat
