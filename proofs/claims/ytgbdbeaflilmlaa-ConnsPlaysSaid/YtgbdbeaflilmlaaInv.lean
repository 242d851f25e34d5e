/-
  SMALL LAWS: a method of an interface value that holds a pointer: which function it is, and what its receiver. No condition.
-/
import Derived.Test.YtgbdbeaflilmlaaReg
set_option linter.unusedVariables false
set_option linter.unusedSimpArgs false
namespace Go.Proofs.Ytgbdbeaflilmlaa
open Go.RowKit

def selOf (P : Program) (t : TypeId) (name : String) : Option (Nat × Option (FuncId × Bool)) := ((P.info? t).bind fun i => i.methods.find? (·.name == name)).map fun m => (m.path.size, m.func)
section
variable {P : Program} {t e : TypeId} {name : String} {f : FuncId} {N : Nat}
theorem sel_parts {b : Bool} (h : selOf P t name = some (0, some (f, b))) : ∃ i m, P.info? t = some i ∧ i.methods.find? (·.name == name) = some m ∧ m.path = #[] ∧ m.func = some (f, b) := by
  unfold selOf at h
  cases hi : P.info? t with
  | none => rw [hi] at h; simp at h
  | some i =>
    rw [hi] at h
    cases hm : i.methods.find? (·.name == name) with
    | none => simp [hm] at h
    | some m =>
      simp [hm] at h
      exact ⟨i, m, rfl, hm, h.1, h.2⟩
/-- A method with a pointer receiver. -/
theorem run_method_ptr (h : selOf P t name = some (0, some (f, true))) (ht : P.underlying t = some (.pointer e)) (v : Value) (w : World) : (method (N + 1) t v name).run P w = .ok (f, v) w := by
  obtain ⟨i, m, hi, hm, hp, hf⟩ := sel_parts h
  simp [method, typeInfo, hi, hm, hp, hf, follow, receiverAt, run_underlying ht, Place.get, Result.andThen]
theorem run_wrap (ts : Array TypeId) (ty : TypeId) (a : Addr) (x y : String) (w : World) : (Builtin.ssaWrapNilChk_ ts ty #[.pointer (some a), strVal x, strVal y]).run P w = .ok (.pointer (some a)) w := rfl
/-- A method with a value receiver: what the pointer leads to. -/
theorem run_method_val (h : selOf P t name = some (0, some (f, false))) (ht : P.underlying t = some (.pointer e)) {d : TypeDesc} (he : P.underlying e = some d) (hd : d.isRow = false) {w : World} {b o : Nat} {v : Value} (hc : w.cell? ⟨b, o, none⟩ = some v) :
    (method (N + 1) t (.pointer (some ⟨b, o, none⟩)) name).run P w = .ok (f, v) w := by
  obtain ⟨i, m, hi, hm, hp, hf⟩ := sel_parts h
  simp [method, typeInfo, hi, hm, hp, hf, follow, receiverAt, run_underlying ht, Place.get, Result.andThen, run_wrap, asAddr, run_loadVar_one w ⟨b, o, none⟩ e d v hc he hd]
/-- 'x.(T)', T no interface, x of T. -/
theorem run_assert {d : TypeDesc} (ht : P.underlying t = some d) (hd : (match d with | .interface _ => false | _ => true) = true) (v : Value) (i : TypeId) (w : World) : (Instr.typeAssert (.iface t v) i t false).run P w = .ok v w := by
  cases d <;> simp_all [Instr.typeAssert, run_underlying ht, Result.andThen]
end
end Go.Proofs.Ytgbdbeaflilmlaa
