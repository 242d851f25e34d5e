/-
  WALKS over package due: items in order, in a row of the queue's own. Condition: a row is at most 3000 items.
-/
import Derived.Test.YtgbdbeaflilmlaaHeapP
import Derived.Test.YtgbdbeaflilmlaaClear
import Derived.Test.YtgbdbeaflilmlaaReg
import Derived.StillTailTactics
set_option linter.unusedVariables false
set_option linter.unusedSimpArgs false
namespace Go.Proofs.Ytgbdbeaflilmlaa
open Go.RowKit

/-- An item. -/
structure It where
  at_ : Int
  id : Int
  seq : Int
deriving DecidableEq, Inhabited
@[reducible] def arrI (x : It) : Array Value := #[.int .i64 x.at_, .int .i64 x.id, .int .i64 x.seq]
@[reducible] def It.v (x : It) : Value := .agg #[.int .i64 x.at_, .int .i64 x.id, .int .i64 x.seq]
def encI (x : It) : List Value := [.int .i64 x.at_, .int .i64 x.id, .int .i64 x.seq]
theorem encI_len (x : It) : (encI x).length = 3 := rfl
theorem encI_one (x : It) : ∀ u ∈ encI x, u.oneCell' = true := by intro u hu; simp [encI] at hu; rcases hu with rfl | rfl | rfl <;> rfl
theorem elI : El Try.prog 156 162 (.agg #[.int .i64 0, .int .i64 0, .int .i64 0]) 3 24 := ⟨Try.underlying156, by kernel_rfl, rfl, by omega⟩
theorem infI {x : It} : (Try.prog.info? 162).map (·.size) = some (arrI x).size := by
  show _ = some 3
  kernel_rfl
abbrev RowI (w : World) (g c : Nat) (l : List It) : Prop := RowB encI 3 w g 162 c l
def ltI (x y : It) : Bool := if x.at_ = y.at_ then (if x.id = y.id then decide (x.seq < y.seq) else decide (x.id < y.id)) else decide (x.at_ < y.at_)
theorem ltI_lt : Heap.Lt ltI := by
  constructor
  · intro a b h
    unfold ltI at *
    split at h <;> (try split at h) <;> simp at h <;> (split <;> (try split) <;> simp <;> omega)
  · intro a b c h h'
    unfold ltI at *
    split at h <;> (try split at h) <;> simp at h <;> (split at h' <;> (try split at h') <;> simp at h' <;> (split <;> (try split) <;> simp <;> omega))

set_option maxHeartbeats 400000 in
theorem iless_any (x y : It) (w : World) : Calls Try.prog 174 #[x.v, y.v] w fun e w' => e = .returned (.bool (ltI x y)) ∧ Chg [] w w' := by
  obtain ⟨a1, b1, c1⟩ := x
  obtain ⟨a2, b2, c2⟩ := y
  have hA := ((Chg.refl [] w).alloc (.cells #[.int .i64 a1, .int .i64 b1, .int .i64 c1] 162)).alloc (.cells #[.int .i64 a2, .int .i64 b2, .int .i64 c2] 162)
  have HA := Lib.hid hA
  clear hA
  by_cases h1 : a1 = a2
  · by_cases h2 : b1 = b2
    · have hv : Hid (ltI ⟨a1, b1, c1⟩ ⟨a2, b2, c2⟩ = decide (c1 < c2)) := Lib.hid (by simp [ltI, h1, h2])
      have e1 : (a1 != a2) = false := by simp [h1]
      have e2 : (b1 != b2) = false := by simp [h2]
      clear h1 h2
      go_enter Try.func174, Try.ntmps174
      go_wp2
      go_ret
      rw [hv.out]
      exact ⟨rfl, HA.out⟩
    · have hv : Hid (ltI ⟨a1, b1, c1⟩ ⟨a2, b2, c2⟩ = decide (b1 < b2)) := Lib.hid (by simp [ltI, h1, h2])
      have e1 : (a1 != a2) = false := by simp [h1]
      have e2 : (b1 != b2) = true := by simp [h2]
      clear h1 h2
      go_enter Try.func174, Try.ntmps174
      go_wp2
      go_ret
      rw [hv.out]
      exact ⟨rfl, HA.out⟩
  · have hv : Hid (ltI ⟨a1, b1, c1⟩ ⟨a2, b2, c2⟩ = decide (a1 < a2)) := Lib.hid (by simp [ltI, h1])
    have e1 : (a1 != a2) = true := by simp [h1]
    clear h1
    go_enter Try.func174, Try.ntmps174
    go_wp2
    go_ret
    rw [hv.out]
    exact ⟨rfl, HA.out⟩

theorem RowB.range {w : World} {g c : Nat} {l : List It} (h : RowI w g c l) {i : Nat} {x : It} (hx : l[i]? = some x) : w.rangeAt g (i * 3) (arrI x).toList := fun j v hv => (h.at_ encI_len hx (j := j) hv).1
theorem RowB.zero {w : World} {g c : Nat} {l : List It} (h : RowI w g c l) {i : Nat} {x : It} (hx : l[i]? = some x) : w.rangeAt g (0 + i * 3) (arrI x).toList := by rw [Nat.zero_add]; exact h.range hx

set_option maxHeartbeats 1000000 in
theorem iLess_any {w : World} {g c cap n i k : Nat} {l : List It} {x y : It} (h : RowI w g c l) (hn : l.length = n) (hx : l[i]? = some x) (hy : l[k]? = some y) :
    Calls Try.prog 172 #[.slice (some ⟨g, 0, none⟩) n cap, .int .i64 i, .int .i64 k] w fun e w' => e = .returned (.bool (ltI x y)) ∧ Chg [] w w' := by
  have hi : i < n := by have := (List.getElem?_eq_some_iff.1 hx).1; omega
  have hk : k < n := by have := (List.getElem?_eq_some_iff.1 hy).1; omega
  have H1 := Lib.hid (fun W (hc : Chg [] w W) => (h.chg hc (by simp)).range hx)
  have H2 := Lib.hid (fun W (hc : Chg [] w W) => (h.chg hc (by simp)).range hy)
  have H3 := Lib.hid (fun W (hc : Chg [] w W) => (iless_any x y W).mono fun e w' h => And.intro h.1 (hc.trans h.2))
  have hi0 : (0 : Int) ≤ (i : Int) := by omega
  have hk0 : (0 : Int) ≤ (k : Int) := by omega
  have hiI : (i : Int) < (n : Int) := by omega
  have hkI : (k : Int) < (n : Int) := by omega
  clear h hx hy hn
  generalize ltI x y = r at *
  go_enter Try.func172, Try.ntmps172
  go_wp2_with fail
  refine wp_region_chg (by kernel_rfl) (by kernel_rfl) ?_
  repeat (first
    | ((with_reducible refine wpQuiet_rowC 162 (.tmp 9) ?_ ?_ g _ ?_ (arrI x) _ H1.out Try.underlying162 ?_ infI ?_); (focus rfl); (focus rfl); (focus rfl); (focus rfl); (try simp only [List.getElem_toArray, List.getElem_cons_succ, List.getElem_cons_zero, Act.put, List.setIfInBounds_toArray, List.set_cons_zero, List.set_cons_succ]))
    | ((with_reducible refine wpQuiet_rowC 162 (.tmp 13) ?_ ?_ g _ ?_ (arrI y) _ H2.out Try.underlying162 ?_ infI ?_); (focus rfl); (focus rfl); (focus rfl); (focus rfl); (try simp only [List.getElem_toArray, List.getElem_cons_succ, List.getElem_cons_zero, Act.put, List.setIfInBounds_toArray, List.set_cons_zero, List.set_cons_succ]))
    | ((with_reducible refine wpQuiet_pure (v := ?_) ?_ (fun w => ?_) ?_); rotate_left; (focus rfl); (focus (go_simp <;> with_reducible rfl)); (try simp only [List.getElem_toArray, List.getElem_cons_succ, List.getElem_cons_zero, Act.put, List.setIfInBounds_toArray, List.set_cons_zero, List.set_cons_succ]))
    | ((with_reducible refine wpQuiet_do ?_ (fun K hK => ?_)); (focus rfl); go_simp; (apply Exists.intro); (refine ⟨fun W hW => ?_, hK _ ?_⟩); (first | exact H3.out W hW); (clear hK K); (try simp only [List.getElem_toArray, List.getElem_cons_succ, List.getElem_cons_zero, Act.put, List.setIfInBounds_toArray, List.set_cons_zero, List.set_cons_succ])))
  refine wpQuiet_nil ?_
  intro w7 hc7
  go_wp2_with fail
  go_ret
  exact ⟨rfl, hc7⟩

set_option maxHeartbeats 400000 in
theorem iLen_any (g n cap : Nat) (w : World) : Calls Try.prog 171 #[.slice (some ⟨g, 0, none⟩) n cap] w fun e w' => e = .returned (.int .i64 n) ∧ w = w' := by
  go_enter Try.func171, Try.ntmps171
  go_wp2
  go_ret
  exact ⟨rfl, rfl⟩

/-- Whatever world. -/
def AnyW (_ : World) : Prop := True
/-- A whole row loaded in a still head. -/
theorem wpStill_row {P : Program} {ops : Array Oper} {rest : List Oper} {o : Oper} {a : Act} {w : World} {Q : Act → Prop} (ty : TypeId) (x : Operand) (ho : o.op = .load ty x) (hw : Region.wanted o (yielded ops a.tmps) = true) (b off : Nat) (hx : a.eval x = .pointer (some ⟨b, off, none⟩)) (cs : Array Value) (d : TypeDesc) (hS : w.rangeAt b off cs.toList)
    (hu : P.underlying ty = some d) (hd : d.isRow = true) (hi : (P.info? ty).map (·.size) = some cs.size) (h : wpStill P ops w Q rest (a.put o.dst (.agg cs))) : wpStill P ops w Q (o :: rest) a := by
  unfold wpStill
  rw [if_pos hw]
  unfold Oper.still execOp
  simp only [ho, hx, Instr.loadAt, Instr.sureAddr, Sem.run_bind, Sem.run_pure, Result.andThen_ok, run_loadVar_mid w b off ty cs.toList d hS hu hd (by simpa using hi)]
  exact ⟨rfl, h⟩
/-- A record loaded out of a row, in a region; one stored into it. -/
theorem step_load_row {P : Program} {ops : Array Oper} {op : Oper} {a : Act} {w : World} {K : Act → World → Prop} {Q : Exit → Act → World → Prop} {E : Prop} (hgd : op.guard = none) (ty : TypeId) (x : Operand) (ho : op.op = .load ty x) (b off : Nat) (hx : a.eval x = .pointer (some ⟨b, off, none⟩)) (cs : Array Value) (d : TypeDesc)
    (hS : w.rangeAt b off cs.toList) (hu : P.underlying ty = some d) (hd : d.isRow = true) (hi : (P.info? ty).map (·.size) = some cs.size) (h : K (a.put op.dst (.agg cs)) w) : if Region.wanted op (yielded ops a.tmps) = true then Oper.wp P op a w K Q else E := by
  rw [if_pos (by simp [Region.wanted, hgd])]
  exact wp_load_mid ty x ho b off hx cs.toList d hS hu hd (by simpa using hi) (by simpa using h)
theorem step_store_row {P : Program} {ops : Array Oper} {op : Oper} {a : Act} {w : World} {K : Act → World → Prop} {Q : Exit → Act → World → Prop} {E : Prop} {α : Type} {enc : α → List Value} {s g c : Nat} {e : TypeId} {l : List α} (he : ∀ x, (enc x).length = s) (hgd : op.guard = none) (ty : TypeId) (x y : Operand) (ho : op.op = .store ty x y)
    (hb : RowB enc s w g e c l) {i : Nat} (hi : i < l.length) (hsz : l.length * s ≤ c) (u : α) (hx : a.eval x = .pointer (some ⟨g, i * s, none⟩)) (hy : a.eval y = .agg (enc u).toArray) (hin : (P.info? ty).map (·.size) = some s) (h1 : ∀ v ∈ enc u, v.oneCell' = true)
    (h : ∀ w', RowB enc s w' g e c (l.set i u) → Chg [g] w w' → K (a.put op.dst undef) w') : if Region.wanted op (yielded ops a.tmps) = true then Oper.wp P op a w K Q else E := by
  rw [if_pos (by simp [Region.wanted, hgd])]
  have hp := hb.put he u hi hsz
  obtain ⟨cs, hk, hc, ht⟩ := hb
  have his : i * s + s ≤ c := by
    have := Nat.mul_le_mul_right s (show i + 1 ≤ l.length from hi)
    rw [Nat.add_mul, Nat.one_mul] at this
    omega
  refine wp_store_mid ty x y ho g (i * s) (enc u).toArray hx hy (fun j hj => ?_) (by simpa [he] using hin) (by simpa using h1) ?_
  · rw [hk.cell, hk.frozen]
    have hj' : j < s := by simpa [he] using hj
    exact ⟨by rw [Array.getElem?_eq_getElem (show i * s + j < cs.size by omega)]; rfl, rfl⟩
  · exact h _ hp (Chg.setCells _ _)

/-- .. outside a region's orders. -/
theorem wpList_store_row {P : Program} {ops : Array Oper} {rest : List Oper} {op : Oper} {a : Act} {w : World} {Q : Exit → Act → World → Prop} {α : Type} {enc : α → List Value} {s g c : Nat} {e : TypeId} {l : List α} (he : ∀ x, (enc x).length = s) (hgd : op.guard = none) (ty : TypeId) (x y : Operand) (ho : op.op = .store ty x y)
    (hb : RowB enc s w g e c l) {i : Nat} (hi : i < l.length) (hsz : l.length * s ≤ c) (u : α) (hx : a.eval x = .pointer (some ⟨g, i * s, none⟩)) (hy : a.eval y = .agg (enc u).toArray) (hin : (P.info? ty).map (·.size) = some s) (h1 : ∀ v ∈ enc u, v.oneCell' = true)
    (h : ∀ w', RowB enc s w' g e c (l.set i u) → Chg [g] w w' → wpList P ops Q rest (a.put op.dst undef) w') : wpList P ops Q (op :: rest) a w := by
  have hp := hb.put he u hi hsz
  obtain ⟨cs, hk, hc, ht⟩ := hb
  have his : i * s + s ≤ c := by
    have := Nat.mul_le_mul_right s (show i + 1 ≤ l.length from hi)
    rw [Nat.add_mul, Nat.one_mul] at this
    omega
  refine wpList_store_mid hgd ty x y ho g (i * s) (enc u).toArray hx hy (fun j hj => ?_) (by simpa [he] using hin) (by simpa using h1) ?_
  · rw [hk.cell, hk.frozen]
    have hj' : j < s := by simpa [he] using hj
    exact ⟨by rw [Array.getElem?_eq_getElem (show i * s + j < cs.size by omega)]; rfl, rfl⟩
  · exact h _ hp (Chg.setCells _ _)

set_option maxRecDepth 100000 in
set_option maxHeartbeats 1000000 in
theorem iSwap_any {w : World} {g c cap n i k : Nat} {l : List It} {x y : It} (h : RowI w g c l) (hn : l.length = n) (hcap : n * 3 ≤ c) (hx : l[i]? = some x) (hy : l[k]? = some y) :
    Calls Try.prog 173 #[.slice (some ⟨g, 0, none⟩) n cap, .int .i64 i, .int .i64 k] w fun e w' => e = .returned (.tuple #[]) ∧ RowI w' g c (Heap.swap l i k x y) ∧ Chg [g] w w' := by
  have hi : i < n := by have := (List.getElem?_eq_some_iff.1 hx).1; omega
  have hk : k < n := by have := (List.getElem?_eq_some_iff.1 hy).1; omega
  have R := Lib.hid (h.chg (Chg.refl [] w).drew (by simp))
  have H1 := Lib.hid (R.out.range hx)
  have H2 := Lib.hid (R.out.range hy)
  have hi0 : (0 : Int) ≤ (i : Int) := by omega
  have hk0 : (0 : Int) ≤ (k : Int) := by omega
  have hiI : (i : Int) < (n : Int) := by omega
  have hkI : (k : Int) < (n : Int) := by omega
  have HSW : Hid (Heap.swap l i k x y = (l.set i y).set k x) := Lib.hid rfl
  have hin : Hid ((Try.prog.info? 162).map (·.size) = some 3) := Lib.hid (by kernel_rfl)
  clear h hx hy
  go_enter Try.func173, Try.ntmps173
  go_wp2_with fail
  have hil : i < l.length := by omega
  have hkl : k < (l.set i y).length := by rw [List.length_set]; omega
  have hsz : l.length * 3 ≤ c := by omega
  have hsz2 : (l.set i y).length * 3 ≤ c := by rw [List.length_set]; omega
  have R0 := R.out
  have HZ := Lib.hid (Chg.refl [g] w).drew
  have hA : AnyW w.drew := trivial
  clear R hn hi hk
  refine wp_region_noPanic ?_
  refine wp_region_held_drew (S := AnyW) (by kernel_rfl) hA (fun _ => ?_)
  refine wpAnyH_take (i := 0) (v := ?_) rfl (by kernel_rfl) (by kernel_rfl) (by kernel_rfl) (fun _ _ _ h => h) (yields_pure (by rfl) (fun w => ?_)) (by with_reducible assumption) ?_
  rotate_left
  · (go_simp <;> with_reducible rfl)
  try simp only [List.getElem_toArray, List.getElem_cons_succ, List.getElem_cons_zero, Act.put, List.setIfInBounds_toArray, List.set_cons_zero, List.set_cons_succ]
  refine wpAnyH_take (i := 1) (v := ?_) rfl (by kernel_rfl) (by kernel_rfl) (by kernel_rfl) (fun _ _ _ h => h) (yields_pure (by rfl) (fun w => ?_)) (by with_reducible assumption) ?_
  rotate_left
  · (go_simp <;> with_reducible rfl)
  try simp only [List.getElem_toArray, List.getElem_cons_succ, List.getElem_cons_zero, Act.put, List.setIfInBounds_toArray, List.set_cons_zero, List.set_cons_succ]
  refine wpAnyH_take (i := 2) (v := ?_) rfl (by kernel_rfl) (by kernel_rfl) (by kernel_rfl) (fun _ _ _ h => h) (yields_pure (by rfl) (fun w => ?_)) (by with_reducible assumption) ?_
  rotate_left
  · (go_simp <;> with_reducible rfl)
  try simp only [List.getElem_toArray, List.getElem_cons_succ, List.getElem_cons_zero, Act.put, List.setIfInBounds_toArray, List.set_cons_zero, List.set_cons_succ]
  refine wpAnyH_take (i := 3) (v := ?_) rfl (by kernel_rfl) (by kernel_rfl) (by kernel_rfl) (fun _ _ _ h => h) (yields_pure (by rfl) (fun w => ?_)) (by with_reducible assumption) ?_
  rotate_left
  · (go_simp <;> with_reducible rfl)
  try simp only [List.getElem_toArray, List.getElem_cons_succ, List.getElem_cons_zero, Act.put, List.setIfInBounds_toArray, List.set_cons_zero, List.set_cons_succ]
  refine wpAnyH_take (i := 4) (v := ?_) rfl (by kernel_rfl) (by kernel_rfl) (by kernel_rfl) (fun _ _ _ h => h) (yields_pure (by rfl) (fun w => ?_)) (by with_reducible assumption) ?_
  rotate_left
  · (go_simp <;> with_reducible rfl)
  try simp only [List.getElem_toArray, List.getElem_cons_succ, List.getElem_cons_zero, Act.put, List.setIfInBounds_toArray, List.set_cons_zero, List.set_cons_succ]
  refine wpAnyH_take (i := 5) (v := ?_) rfl (by kernel_rfl) (by kernel_rfl) (by kernel_rfl) (fun _ _ _ h => h) (yields_pure (by rfl) (fun w => ?_)) (by with_reducible assumption) ?_
  rotate_left
  · (go_simp <;> with_reducible rfl)
  try simp only [List.getElem_toArray, List.getElem_cons_succ, List.getElem_cons_zero, Act.put, List.setIfInBounds_toArray, List.set_cons_zero, List.set_cons_succ]
  refine wpAnyH_take (i := 6) (v := ?_) rfl (by kernel_rfl) (by kernel_rfl) (by kernel_rfl) (fun _ _ _ h => h) (yields_pure (by rfl) (fun w => ?_)) (by with_reducible assumption) ?_
  rotate_left
  · (go_simp <;> with_reducible rfl)
  try simp only [List.getElem_toArray, List.getElem_cons_succ, List.getElem_cons_zero, Act.put, List.setIfInBounds_toArray, List.set_cons_zero, List.set_cons_succ]
  refine wpAnyH_take (i := 8) (v := ?_) rfl (by kernel_rfl) (by kernel_rfl) (by kernel_rfl) (fun _ _ _ h => h) (yields_pure (by rfl) (fun w => ?_)) (by with_reducible assumption) ?_
  rotate_left
  · (go_simp <;> with_reducible rfl)
  try simp only [List.getElem_toArray, List.getElem_cons_succ, List.getElem_cons_zero, Act.put, List.setIfInBounds_toArray, List.set_cons_zero, List.set_cons_succ]
  refine wpAnyH_take (i := 9) (v := ?_) rfl (by kernel_rfl) (by kernel_rfl) (by kernel_rfl) (fun _ _ _ h => h) (yields_pure (by rfl) (fun w => ?_)) (by with_reducible assumption) ?_
  rotate_left
  · (go_simp <;> with_reducible rfl)
  try simp only [List.getElem_toArray, List.getElem_cons_succ, List.getElem_cons_zero, Act.put, List.setIfInBounds_toArray, List.set_cons_zero, List.set_cons_succ]
  refine wpAnyH_take (i := 10) (v := ?_) rfl (by kernel_rfl) (by kernel_rfl) (by kernel_rfl) (fun _ _ _ h => h) (yields_pure (by rfl) (fun w => ?_)) (by with_reducible assumption) ?_
  rotate_left
  · (go_simp <;> with_reducible rfl)
  try simp only [List.getElem_toArray, List.getElem_cons_succ, List.getElem_cons_zero, Act.put, List.setIfInBounds_toArray, List.set_cons_zero, List.set_cons_succ]
  refine wpAnyH_ready (rs := [7, 11]) (by kernel_rfl) (by simp) (AllReadyH.cons rfl (fun K hK => ?_) (AllReadyH.cons rfl (fun K hK => ?_) AllReadyH.nil))
  · refine step_load_row rfl 162 (.tmp 12) rfl g (k * 3) rfl (arrI y) _ H2.out Try.underlying162 rfl infI ?_
    refine hK.out _ _ (by with_reducible assumption) (fun _ => ?_)
    clear hK K
    try simp only [List.getElem_toArray, List.getElem_cons_succ, List.getElem_cons_zero, Act.put, List.setIfInBounds_toArray, List.set_cons_zero, List.set_cons_succ]
    refine wpAnyH_ready (rs := [11]) (by kernel_rfl) (by simp) (AllReadyH.cons rfl (fun K hK => ?_) AllReadyH.nil)
    refine step_load_row rfl 162 (.tmp 16) rfl g (i * 3) rfl (arrI x) _ H1.out Try.underlying162 rfl infI ?_
    refine hK.out _ _ (by with_reducible assumption) (fun _ => ?_)
    clear hK K
    try simp only [List.getElem_toArray, List.getElem_cons_succ, List.getElem_cons_zero, Act.put, List.setIfInBounds_toArray, List.set_cons_zero, List.set_cons_succ]
    refine wpAnyH_take (i := 12) (v := ?_) rfl (by kernel_rfl) (by kernel_rfl) (by kernel_rfl) (fun _ _ _ h => h) (yields_pure (by rfl) (fun w => ?_)) (by with_reducible assumption) ?_
    rotate_left
    · (go_simp <;> with_reducible rfl)
    try simp only [List.getElem_toArray, List.getElem_cons_succ, List.getElem_cons_zero, Act.put, List.setIfInBounds_toArray, List.set_cons_zero, List.set_cons_succ]
    refine wpAnyH_ready (rs := [13]) (by kernel_rfl) (by simp) (AllReadyH.cons rfl (fun K hK => ?_) AllReadyH.nil)
    refine step_store_row encI_len rfl 162 (.tmp 18) (.tmp 13) rfl R0 hil hsz y rfl rfl hin.out (encI_one y) ?_
    intro w3 R3 hc3
    have hA3 : AnyW w3 := trivial
    refine hK.out _ _ (by with_reducible assumption) (fun _ => ?_)
    clear hK K
    try simp only [List.getElem_toArray, List.getElem_cons_succ, List.getElem_cons_zero, Act.put, List.setIfInBounds_toArray, List.set_cons_zero, List.set_cons_succ]
    refine wpAnyH_take (i := 14) (v := ?_) rfl (by kernel_rfl) (by kernel_rfl) (by kernel_rfl) (fun _ _ _ h => h) (yields_pure (by rfl) (fun w => ?_)) (by with_reducible assumption) ?_
    rotate_left
    · (go_simp <;> with_reducible rfl)
    try simp only [List.getElem_toArray, List.getElem_cons_succ, List.getElem_cons_zero, Act.put, List.setIfInBounds_toArray, List.set_cons_zero, List.set_cons_succ]
    refine wpAnyH_ready (rs := [15]) (by kernel_rfl) (by simp) (AllReadyH.cons rfl (fun K hK => ?_) AllReadyH.nil)
    refine step_store_row encI_len rfl 162 (.tmp 19) (.tmp 17) rfl R3 hkl hsz2 x rfl rfl hin.out (encI_one x) ?_
    intro w4 R4 hc4
    have hA4 : AnyW w4 := trivial
    refine hK.out _ _ (by with_reducible assumption) (fun _ => ?_)
    clear hK K
    try simp only [List.getElem_toArray, List.getElem_cons_succ, List.getElem_cons_zero, Act.put, List.setIfInBounds_toArray, List.set_cons_zero, List.set_cons_succ]
    refine wpAnyH_done (by kernel_rfl) ?_ _
    refine NoPanic.normal ?_
    go_end0
    rw [HSW.out]
    exact ⟨rfl, R4, HZ.out.trans (hc3.trans hc4)⟩
  · refine step_load_row rfl 162 (.tmp 16) rfl g (i * 3) rfl (arrI x) _ H1.out Try.underlying162 rfl infI ?_
    refine hK.out _ _ (by with_reducible assumption) (fun _ => ?_)
    clear hK K
    try simp only [List.getElem_toArray, List.getElem_cons_succ, List.getElem_cons_zero, Act.put, List.setIfInBounds_toArray, List.set_cons_zero, List.set_cons_succ]
    refine wpAnyH_ready (rs := [7]) (by kernel_rfl) (by simp) (AllReadyH.cons rfl (fun K hK => ?_) AllReadyH.nil)
    refine step_load_row rfl 162 (.tmp 12) rfl g (k * 3) rfl (arrI y) _ H2.out Try.underlying162 rfl infI ?_
    refine hK.out _ _ (by with_reducible assumption) (fun _ => ?_)
    clear hK K
    try simp only [List.getElem_toArray, List.getElem_cons_succ, List.getElem_cons_zero, Act.put, List.setIfInBounds_toArray, List.set_cons_zero, List.set_cons_succ]
    refine wpAnyH_take (i := 12) (v := ?_) rfl (by kernel_rfl) (by kernel_rfl) (by kernel_rfl) (fun _ _ _ h => h) (yields_pure (by rfl) (fun w => ?_)) (by with_reducible assumption) ?_
    rotate_left
    · (go_simp <;> with_reducible rfl)
    try simp only [List.getElem_toArray, List.getElem_cons_succ, List.getElem_cons_zero, Act.put, List.setIfInBounds_toArray, List.set_cons_zero, List.set_cons_succ]
    refine wpAnyH_ready (rs := [13]) (by kernel_rfl) (by simp) (AllReadyH.cons rfl (fun K hK => ?_) AllReadyH.nil)
    refine step_store_row encI_len rfl 162 (.tmp 18) (.tmp 13) rfl R0 hil hsz y rfl rfl hin.out (encI_one y) ?_
    intro w3 R3 hc3
    have hA3 : AnyW w3 := trivial
    refine hK.out _ _ (by with_reducible assumption) (fun _ => ?_)
    clear hK K
    try simp only [List.getElem_toArray, List.getElem_cons_succ, List.getElem_cons_zero, Act.put, List.setIfInBounds_toArray, List.set_cons_zero, List.set_cons_succ]
    refine wpAnyH_take (i := 14) (v := ?_) rfl (by kernel_rfl) (by kernel_rfl) (by kernel_rfl) (fun _ _ _ h => h) (yields_pure (by rfl) (fun w => ?_)) (by with_reducible assumption) ?_
    rotate_left
    · (go_simp <;> with_reducible rfl)
    try simp only [List.getElem_toArray, List.getElem_cons_succ, List.getElem_cons_zero, Act.put, List.setIfInBounds_toArray, List.set_cons_zero, List.set_cons_succ]
    refine wpAnyH_ready (rs := [15]) (by kernel_rfl) (by simp) (AllReadyH.cons rfl (fun K hK => ?_) AllReadyH.nil)
    refine step_store_row encI_len rfl 162 (.tmp 19) (.tmp 17) rfl R3 hkl hsz2 x rfl rfl hin.out (encI_one x) ?_
    intro w4 R4 hc4
    have hA4 : AnyW w4 := trivial
    refine hK.out _ _ (by with_reducible assumption) (fun _ => ?_)
    clear hK K
    try simp only [List.getElem_toArray, List.getElem_cons_succ, List.getElem_cons_zero, Act.put, List.setIfInBounds_toArray, List.set_cons_zero, List.set_cons_succ]
    refine wpAnyH_done (by kernel_rfl) ?_ _
    refine NoPanic.normal ?_
    go_end0
    rw [HSW.out]
    exact ⟨rfl, R4, HZ.out.trans (hc3.trans hc4)⟩
end Go.Proofs.Ytgbdbeaflilmlaa
