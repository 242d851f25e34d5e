/-
  WHOLE STRUCTS in blocks known whole: stored, loaded, handed back. No condition.
-/
import Derived.Test.YtldgdpekhjignaaGreatMem
import Derived.Deep.MidRow
import Derived.Laws.Rows
import Derived.ScopeJumps
set_option linter.unusedVariables false
set_option linter.unusedSimpArgs false
namespace Go.Proofs.YtldgdpekhjignaaGreat
open Go.RowKit

section
variable {P : Program} {w w' : World} {g : Nat} {e : TypeId} {cs vs : Array Value} {S : List Nat}
/-- The cells from o on written anew. -/
def putAt (cs : Array Value) : Nat → List Value → Array Value
  | _, [] => cs
  | o, v :: r => putAt (cs.setIfInBounds o v) (o + 1) r
theorem putAt_size : ∀ (vs : List Value) (o : Nat) (cs : Array Value), (putAt cs o vs).size = cs.size
  | [], _, _ => rfl
  | v :: r, o, cs => by unfold putAt; rw [putAt_size r]; simp
theorem putAt_get : ∀ (vs : List Value) (o : Nat) (cs : Array Value) (j : Nat), j < cs.size → (putAt cs o vs)[j]? = if o ≤ j ∧ j < o + vs.length then vs[j - o]? else cs[j]?
  | [], o, cs, j, hj => by
    rw [if_neg (by simp)]; rfl
  | v :: r, o, cs, j, hj => by
    unfold putAt
    rw [putAt_get r (o + 1) _ j (by simpa using hj)]
    by_cases h0 : j = o
    · subst h0
      rw [if_neg (by omega), if_pos (by simp)]
      simp [hj]
    · by_cases h1 : o + 1 ≤ j ∧ j < o + 1 + r.length
      · rw [if_pos h1, if_pos (by simp; omega)]
        rw [show j - o = (j - (o + 1)) + 1 by omega, List.getElem?_cons_succ]
      · rw [if_neg h1, if_neg (by simp; omega), Array.getElem?_setIfInBounds, if_neg (by omega)]
theorem putAt_all (h : vs.size = cs.size) : putAt cs 0 vs.toList = vs := by
  apply Array.ext_getElem?
  intro j
  by_cases hj : j < cs.size
  · rw [putAt_get _ _ _ _ hj, if_pos (by simp; omega)]
    simp
  · rw [Array.getElem?_eq_none (by rw [putAt_size]; omega), Array.getElem?_eq_none (by omega)]
theorem Blk.setCells : ∀ (l : List Value) (o : Nat) (cs : Array Value) {w : World}, Blk w g e cs → Blk (w.setCells g o l) g e (putAt cs o l)
  | [], _, _, _, h => h
  | v :: r, o, cs, w, h => Blk.setCells r (o + 1) _ (h.set_ o v)
theorem Chg.setCells : ∀ (l : List Value) (o : Nat) {w : World}, Chg [g] w (w.setCells g o l)
  | [], _, w => Chg.refl _ _
  | v :: r, o, w => ((Chg.refl [g] w).setCell (p := ⟨g, o, none⟩) (.inl (by simp)) v).trans (Chg.setCells r (o + 1))

theorem Blk.setAll (h : Blk w g e cs) (l : List Value) (hl : l.length = cs.size) : Blk (w.setCells g 0 l) g e l.toArray := by
  have h1 := Blk.setCells l 0 cs h
  have e1 := putAt_all (cs := cs) (vs := l.toArray) (by simpa using hl)
  have h2 : Blk (w.setCells g 0 l) g e (putAt cs 0 l.toArray.toList) := h1
  rw [e1] at h2
  exact h2
/-- A struct stored over a whole block. -/
theorem wpList_store_blk {ops : Array Oper} {rest : List Oper} {op : Oper} {a : Act} {Q : Exit → Act → World → Prop} (hgd : op.guard = none) (ty : TypeId) (x y : Operand) (ho : op.op = .store ty x y) (hd : op.dst = none)
    (hb : Blk w g e cs) (hx : a.eval x = .pointer (some ⟨g, 0, none⟩)) (hy : a.eval y = .agg vs) (hsz : vs.size = cs.size) (hi : (P.info? ty).map (·.size) = some vs.size) (h1 : vs.toList.all (·.oneCell') = true)
    (h : ∀ w', Blk w' g e vs → Chg [g] w w' → wpList P ops Q rest a w') : wpList P ops Q (op :: rest) a w := by
  refine wpList_store_mid hgd ty x y ho g 0 vs hx hy (fun j hj => ?_) hi ?_ ?_
  · rw [Nat.zero_add, hb.cell, hb.frozen]
    exact ⟨by rw [Array.getElem?_eq_getElem (show j < cs.size by omega)]; rfl, rfl⟩
  · simpa using h1
  · have e1 : a.put op.dst undef = a := by rw [hd]; rfl
    rw [e1]
    have hb' := Blk.setCells vs.toList 0 cs hb
    rw [putAt_all hsz] at hb'
    exact h _ hb' (Chg.setCells _ _)
/-- A struct loaded out of a whole block. -/
theorem wpList_load_blk {ops : Array Oper} {rest : List Oper} {op : Oper} {a : Act} {Q : Exit → Act → World → Prop} (hgd : op.guard = none) (ty : TypeId) (x : Operand) (ho : op.op = .load ty x)
    (hb : Blk w g e cs) (hx : a.eval x = .pointer (some ⟨g, 0, none⟩)) (d : TypeDesc) (hu : P.underlying ty = some d) (hd : d.isRow = true) (hi : (P.info? ty).map (·.size) = some cs.size)
    (h : wpList P ops Q rest (a.put op.dst (.agg cs)) w) : wpList P ops Q (op :: rest) a w :=
  wpList_load_mid hgd ty x ho g 0 hx cs.toList d (fun j v hv => by rw [Nat.zero_add, hb.cell]; simpa using hv) hu hd (by simpa using hi) (by simpa using h)
/-- A struct handed back out of its block. -/
theorem results_blk {fn : Func} {p : Tmp} {ty : TypeId} (h : fn.results = #[.cell p ty]) {tmps : Array Value} (hp : tmps.getD p undef = .pointer (some ⟨g, 0, none⟩)) (hb : Blk w g e cs)
    (d : TypeDesc) (hu : P.underlying ty = some d) (hd : d.isRow = true) (hi : (P.info? ty).map (·.size) = some cs.size) : (results fn tmps).run P w = .ok (.agg cs) w :=
  results_cell_row h tmps w g e cs (0, 0) d hp hb hu (by cases d <;> simp_all) hi
theorem run_loadVar_blk (hb : Blk w g e cs) (ty : TypeId) (d : TypeDesc) (hu : P.underlying ty = some d) (hd : d.isRow = true) (hi : (P.info? ty).map (·.size) = some cs.size) :
    (loadVar ty ⟨g, 0, none⟩).run P w = .ok (.agg cs) w :=
  run_loadVar_row (P := P) w g e ty cs (0, 0) d hb hu (by cases d <;> simp_all) hi
/-- A struct and a value more handed back. -/
theorem results_blk2 {fn : Func} {p q : Tmp} {ty : TypeId} (h : fn.results = #[.cell p ty, .tmp q]) {tmps : Array Value} (hp : tmps.getD p undef = .pointer (some ⟨g, 0, none⟩)) (hb : Blk w g e cs)
    (d : TypeDesc) (hu : P.underlying ty = some d) (hd : d.isRow = true) (hi : (P.info? ty).map (·.size) = some cs.size) : (results fn tmps).run P w = .ok (.tuple #[.agg cs, tmps.getD q undef]) w := by
  have hp' : tmps[p]?.getD undef = .pointer (some ⟨g, 0, none⟩) := by simpa using hp
  simp [results, h, hp', asAddr, run_loadVar_blk hb ty d hu hd hi]
end

/-- A scope in which a goto leads ahead to one label. -/
theorem wp_scope_fwd {P : Program} {a : Act} {w : World} {Q : Exit → Act → World → Prop} {c rest : Code} (l : Nat) (hf : findLabel c l = some rest)
    (h : c.wp P (Exit.jump l (fun a w => rest.wp P (Exit.noGoto Q) a w) Q) a w) : (Code.scope c).wp P Q a w :=
  wp_scope_jumps l _ (fun _ _ => 0) hf h (fun a w hJ => wp_mono hJ (fun e a w q => by cases e <;> first | exact q | exact q.elim))
theorem jump_ret {l : Nat} {J : Act → World → Prop} {Q : Exit → Act → World → Prop} {a : Act} {w : World} : Exit.jump l J Q .ret a w = Q .ret a w := rfl
end Go.Proofs.YtldgdpekhjignaaGreat
