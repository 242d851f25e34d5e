/-
  WALKS over package flow: flows each once (the first part of Sort). Condition: at most 1000 flows.
-/
import Derived.Test.YtldgdpekhjignaaGreatFlowOrd
import Derived.Test.YtldgdpekhjignaaGreatBump
import Derived.Test.YtldgdpekhjignaaGreatReg
set_option linter.unusedVariables false
set_option linter.unusedSimpArgs false
namespace Go.Proofs.YtldgdpekhjignaaGreat
open Go.RowKit Go.Maps

/-- Each once, as they come. -/
def onceF (l : List Fl) : List Fl := l.foldl (fun o x => if x ∈ o then o else o ++ [x]) []
theorem onceF_snoc (l : List Fl) (x : Fl) : onceF (l ++ [x]) = if x ∈ onceF l then onceF l else onceF l ++ [x] := by unfold onceF; rw [List.foldl_append]; rfl
theorem onceF_rec (P : List Fl → List Fl → Prop) (h0 : P [] []) (hs : ∀ l x o, P l o → P (l ++ [x]) (if x ∈ o then o else o ++ [x])) : ∀ l, P l (onceF l) := by
  intro l
  generalize hn : l.length = n
  induction n generalizing l with
  | zero => rw [List.eq_nil_of_length_eq_zero hn]; exact h0
  | succ n ih =>
    obtain ⟨l', x, rfl⟩ : ∃ l' x, l = l' ++ [x] := ⟨l.dropLast, l.getLast (by intro e; simp [e] at hn), (List.dropLast_concat_getLast _).symm⟩
    rw [onceF_snoc]
    exact hs _ _ _ (ih l' (by simp at hn; exact hn))
theorem mem_onceF {l : List Fl} : ∀ {x : Fl}, x ∈ onceF l ↔ x ∈ l := by
  refine onceF_rec (fun l o => ∀ {x}, x ∈ o ↔ x ∈ l) (by simp) (fun l x o h => ?_) l
  intro y
  split
  · next hm =>
    rw [List.mem_append, h]
    constructor
    · exact .inl
    · rintro (h1 | h1)
      · exact h1
      · simp at h1; subst h1; exact h.1 hm
  · rw [List.mem_append, List.mem_append, h]
theorem nodup_onceF (l : List Fl) : (onceF l).Nodup := by
  refine onceF_rec (fun l o => o.Nodup) List.nodup_nil (fun l x o h => ?_) l
  split
  · exact h
  · next hm => exact List.nodup_append.2 ⟨h, by simp, fun a ha b hb e => by simp at hb; subst hb; subst e; exact hm ha⟩
theorem onceF_len (l : List Fl) : (onceF l).length ≤ l.length := (nodup_onceF l).length_le_of_subset fun x hx => mem_onceF.1 hx
/-- How often each has come. -/
def cntF (l : List Fl) (y : Fl) : Nat := l.count y
def MCF (l : List Fl) : Fl → Option Value := fun y => if l.count y = 0 then none else some (.int .i64 (l.count y))
theorem MCF_nil : MCF [] = fun _ => none := by funext y; simp [MCF]
theorem MCF_get (l : List Fl) (y : Fl) : (MCF l y).getD (.int .i64 0) = .int .i64 (l.count y) := by
  unfold MCF
  split
  · next h => simp [h]
  · rfl
theorem MCF_snoc (l : List Fl) (x : Fl) : (fun y => if y = x then some (.int .i64 ((l.count x : Int) + 1)) else MCF l y) = MCF (l ++ [x]) := by
  funext y
  unfold MCF
  rw [List.count_append]
  by_cases h : y = x
  · subst h
    rw [if_pos rfl, if_neg (by simp)]
    simp
  · have hb : (x == y) = false := by simpa using fun e : x = y => h e.symm
    rw [if_neg h, List.count_singleton, hb]
    simp
theorem count_once (l : List Fl) (x : Fl) : (l.count x = 0) ↔ x ∉ onceF l := by rw [mem_onceF, List.count_eq_zero]

section
variable {P : Program} {ops : Array Oper} {o : Oper} {a : Act} {S : World → Prop}
theorem yields_lookup (hw : Region.wanted o (yielded ops a.tmps) = true) (t : TypeId) (m k : Operand) (ho : o.op = .lookup t m k false) {mv kv v : Value} (hm : a.eval m = mv) (hk : a.eval k = kv) (hS : ∀ w, S w → (Instr.lookup t mv kv false).run P w = .ok v w) : YieldsIf P ops S o v a :=
  .inl ⟨hw, fun w hw' => by
    unfold execOp
    simp only [ho, hm, hk, Sem.run_bind, Sem.run_pure, Result.andThen_ok, hS w hw']⟩
theorem step_lookup {w w' : World} {K : Act → World → Prop} {Q : Exit → Act → World → Prop} {E : Prop} (hgd : o.guard = none) (t : TypeId) (m k : Operand) (ho : o.op = .lookup t m k false) {mv kv v : Value} (hm : a.eval m = mv) (hk : a.eval k = kv)
    (hr : (Instr.lookup t mv kv false).run P w = .ok v w') (h : K (a.put o.dst v) w') : if Region.wanted o (yielded ops a.tmps) = true then Oper.wp P o a w K Q else E := by
  rw [if_pos (by simp [Region.wanted, hgd])]
  unfold Oper.wp execOp
  simp only [ho, hm, hk, Sem.run_bind, Sem.run_pure, Result.andThen_ok, hr]
  exact h
theorem step_mapEntry {w w' : World} {K : Act → World → Prop} {Q : Exit → Act → World → Prop} {E : Prop} (hgd : o.guard = none) (t : TypeId) (m k : Operand) (ho : o.op = .mapEntry t m k) {mv kv v : Value} (hm : a.eval m = mv) (hk : a.eval k = kv)
    (hr : (Instr.mapEntry t mv kv).run P w = .ok v w') (h : K (a.put o.dst v) w') : if Region.wanted o (yielded ops a.tmps) = true then Oper.wp P o a w K Q else E := by
  rw [if_pos (by simp [Region.wanted, hgd])]
  unfold Oper.wp execOp
  simp only [ho, hm, hk, Sem.run_bind, Sem.run_pure, Result.andThen_ok, hr]
  exact h
theorem step_entryStore {w w' : World} {K : Act → World → Prop} {Q : Exit → Act → World → Prop} {E : Prop} (hgd : o.guard = none) (t : TypeId) (m s x : Operand) (ho : o.op = .entryStore t m s x) (hd : o.dst = none) {mv sv xv : Value} (hm : a.eval m = mv) (hs : a.eval s = sv) (hx : a.eval x = xv)
    (hr : (Instr.entryStore t mv sv xv).run P w = .ok () w') (h : K a w') : if Region.wanted o (yielded ops a.tmps) = true then Oper.wp P o a w K Q else E := by
  rw [if_pos (by simp [Region.wanted, hgd])]
  unfold Oper.wp execOp
  simp only [ho, hm, hs, hx, Sem.run_bind, Sem.run_pure, Result.andThen_ok, hr]
  rw [Oper.upon_skip, hd]
  exact h
end

theorem elFl : El Tryz.prog 68 38 (.agg #[.int .u8 0, .int .u8 0, .int .u8 0, .int .u8 0, .int .u8 0, .int .u8 0, .int .u8 0, .int .u8 0, .int .u8 0, .int .u8 0, .int .u8 0, .int .u8 0, .int .u8 0, .int .u8 0, .int .u8 0, .int .u8 0, .int .i64 0, .int .u8 0, .int .u8 0, .int .u8 0, .int .u8 0, .int .u8 0, .int .u8 0, .int .u8 0, .int .u8 0, .int .u8 0, .int .u8 0, .int .u8 0, .int .u8 0, .int .u8 0, .int .u8 0, .int .u8 0, .int .u8 0, .int .i64 0]) 34 48 := ⟨Tryz.underlying68, by kernel_rfl, rfl, by omega⟩
def SlF (w : World) (v : Value) (l : List Fl) : Prop := Sl w 0 34 v l.length (l.flatMap encF)
def OwF (w : World) (B : Nat) (v : Value) (l : List Fl) : Prop := w.ownsRow B 38 34 v l.length (l.flatMap encF)
theorem SlF.chg0 {w w' : World} {v : Value} {l : List Fl} (h : SlF w v l) (hc : Chg [] w w') : SlF w' v l := Sl.chg0 h hc
theorem SlF.one {w : World} {A : Option Addr} {n c : Nat} {l : List Fl} (h : SlF w (.slice A n c) l) (hn : l.length = n) {i : Nat} {x : Fl} (hx : l[i]? = some x) :
    ∃ b o, A = some ⟨b, o, none⟩ ∧ w.rangeAt b (o + i * 34) (arrF x).toList := by
  obtain ⟨b, o, c', hv, _, _, hc⟩ := Sl.rec encF_len (by omega) h hx
  simp only [Value.slice.injEq] at hv
  obtain ⟨rfl, _, _⟩ := hv
  refine ⟨b, o, rfl, fun j u hu => ?_⟩
  have hj : j < 34 := by have := (List.getElem?_eq_some_iff.1 hu).1; exact this
  rw [Nat.add_assoc, hc j hj]
  exact hu
theorem litFl (w : World) (f : Fl) : Sl (w.alloc (.cells (arrF f) 38)) 0 34 (.slice (some ⟨w.heap.size, 0, none⟩) 1 1) 1 (encF f) :=
  Sl.of_own (own_lit (base := 0) w 38 34 1 (arrF f) (Nat.zero_le _) (by simp [maxLen]) rfl)
theorem one_arrF (f : Fl) : (arrF f).toList.all (·.oneCell') = true := rfl
end Go.Proofs.YtldgdpekhjignaaGreat
