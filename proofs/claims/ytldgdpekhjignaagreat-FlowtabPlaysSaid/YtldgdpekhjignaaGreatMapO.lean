/-
  SMALL LAWS: maps that a walk owns, across what a call may change; integers as keys and elements. No condition.
-/
import Derived.Test.YtldgdpekhjignaaGreatStruct
import Derived.Maps.OwnSet
import Derived.Maps.OwnOps
import Derived.Maps.RangeWalk
set_option linter.unusedVariables false
set_option linter.unusedSimpArgs false
namespace Go.Proofs.YtldgdpekhjignaaGreat
open Go.RowKit Go.Maps

theorem lawZ : Keyed Tryz.prog 3 := int_keyed Tryz.underlying3
theorem zeroZ (w : World) : (zeroValue 3).run Tryz.prog w = .ok (.int .i64 0) w := by kernel_rfl
theorem elZ : El Tryz.prog 59 3 (.int .i64 0) 1 8 := ⟨Tryz.underlying59, by kernel_rfl, rfl, by omega⟩
def dI (x : Int) : DataW Unit := .lit (.int .i64 x)
theorem ownsMap_chg {P : Program} {k : TypeId} {R : Value → Option (DataW Unit × List MemPlace)} {w w' : World} {b n : Nat} {D : DataW Unit} {S : List Nat} (h : w.ownsMap P k R b n D) (hc : Chg S w w') (hb : b ∉ S) : w'.ownsMap P k R b n D := by
  have hl := h.lt
  obtain ⟨es, clock, h1, r⟩ := h
  exact ⟨es, clock, (hc.block b hl hb).trans h1, r⟩
theorem Chg.toGrown {w w' : World} {r : Option Nat} (h : Chg r.toList w w') : w.grownBy w' r :=
  ⟨h.os, h.tape, h.output, h.size, fun k hk hne => h.block k hk (fun hm => by simp at hm; exact hne hm.symm)⟩
end Go.Proofs.YtldgdpekhjignaaGreat
