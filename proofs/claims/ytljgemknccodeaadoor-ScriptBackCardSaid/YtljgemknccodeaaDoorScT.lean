/-
  CONTRACT: strings.Builder's WriteString; the program's Show. Conditions: Gl, lengths.
-/
import Derived.Test.YtljgemknccodeaaDoorScS
import Derived.Lib.AppendStr
set_option linter.unusedVariables false
set_option linter.unusedSimpArgs false
namespace Go.Proofs.YtljgemknccodeaaDoor
open Go.RowKit

/-- append(bytes, string...). -/
theorem wpList_apps {ops : Array Oper} {rest : List Oper} {o : Oper} {a : Act} {w : World} {Q : Exit → Act → World → Prop} (hgd : o.guard = none) (s x : Operand)
    (ho : o.op = .call { callee := .builtin .append, args := #[s, x], argTypes := #[30, 9] })
    (base : Nat) {v : Value} {l : Bs} (hs : a.eval s = v) (hown : w.ownsRow base 5 1 v l.length (l.map yv)) {p : Bs} (hx : a.eval x = str p) (hl : l.length + p.length ≤ 1000000000) (hbase : base ≤ w.heap.size)
    (h : ∀ v' w', w'.ownsRow base 5 1 v' (l ++ p).length ((l ++ p).map yv) → Chg v.ownBlock.toList w w' → wpList Tryd.prog ops Q rest (a.put o.dst v') w') :
    wpList Tryd.prog ops Q (o :: rest) a w := by
  obtain ⟨i, hi, hz, hs1, hb1⟩ := info_parts elY.info
  obtain ⟨v', w', hr, h2, h3, _⟩ := Lib.run_append_own_string (P := Tryd.prog) w base 30 9 o.type 5 i Tryd.underlying30 Tryd.underlying9 hi hz hs1 hb1 v l.length (l.map yv) hown (bsA p) (by rw [bsA_size]; unfold maxLen; omega) (by rw [bsA_size]; omega) hbase
  refine wpList_plain hgd fun K hK => ?_
  unfold Oper.wp execOp
  simp only [ho, resolve, invoke, builtin, Sem.run_bind, Sem.run_pure, Result.andThen_ok, List.map_toArray, List.map_cons, List.map_nil, hs, hx, hr]
  refine hK _ _ (h v' w' ?_ ⟨h3.os, h3.tape, h3.output, h3.size, fun k hk hS => h3.block k hk (fun e => hS (by simp [← e]))⟩)
  have e : Lib.strCells (bsA p) = p.map yv := by unfold Lib.strCells; rw [bsA_data]
  rw [bsA_size, e] at h2
  rw [List.length_append, List.map_append]
  exact h2
theorem own_ne {w : World} {B g n : Nat} {T : TypeId} {v : Value} {xs : List Value} {cs : Array Value} (h : w.ownsRow B 5 1 v n xs) (hb : Blk w g T cs) (hT : T ≠ 5) : ∀ x ∈ v.ownBlock.toList, x ≠ g := by
  intro x hx e
  subst e
  rcases h.2 with ⟨h0, _⟩ | ⟨g', cap, cur, hv, hB, hg, _⟩
  · rw [h0] at hx; simp [Value.ownBlock] at hx
  · rw [hv] at hx
    simp [Value.ownBlock] at hx
    subst hx
    unfold Blk at hb
    rw [hg] at hb
    injection hb with hb
    injection hb with _ h2 _
    exact hT h2.symm
/-- A builder that holds bytes. -/
structure BdR (w : World) (B g : Nat) (p v : Value) (l : Bs) : Prop where
  ptr : p = .pointer none ∨ p = .pointer (some ⟨g, 0, none⟩)
  blk : Blk w g 69 #[p, v]
  own : w.ownsRow B 5 1 v l.length (l.map yv)
  low : B ≤ g
theorem BdR.ne {w : World} {B g : Nat} {p v : Value} {l : Bs} (h : BdR w B g p v l) : ∀ x ∈ v.ownBlock.toList, x ≠ g := own_ne h.own h.blk (by decide)
theorem BdR.chg0 {w w' : World} {B g : Nat} {p v : Value} {l : Bs} (h : BdR w B g p v l) (hc : Chg [] w w') : BdR w' B g p v l := ⟨h.ptr, h.blk.chg hc (by simp), own_chg h.own hc (by simp), h.low⟩
set_option maxRecDepth 100000 in
set_option maxHeartbeats 2000000 in
theorem check_any {w : World} {g : Nat} {p v : Value} (hp : p = .pointer none ∨ p = .pointer (some ⟨g, 0, none⟩)) (h : Blk w g 69 #[p, v]) :
    Calls Tryd.prog 42 #[.pointer (some ⟨g, 0, none⟩)] w fun e w' => e = .returned (.tuple #[]) ∧ Blk w' g 69 #[.pointer (some ⟨g, 0, none⟩), v] ∧ Chg [g] w w' := by
  have f0 := h.frozen 0
  rcases hp with rfl | rfl
  · have c0 : w.cell? ⟨g, 0, none⟩ = some (.pointer none) := h.cell 0
    have h1 : Blk (w.setCell ⟨g, 0, none⟩ (.pointer (some ⟨g, 0, none⟩))) g 69 #[.pointer (some ⟨g, 0, none⟩), v] := h.set_ 0 _
    have c1 : (w.setCell ⟨g, 0, none⟩ (.pointer (some ⟨g, 0, none⟩))).cell? ⟨g, 0, none⟩ = some (.pointer (some ⟨g, 0, none⟩)) := h1.cell 0
    have HF := Lib.hid (And.intro h1 (And.intro ((Chg.refl [g] w).setCell (p := ⟨g, 0, none⟩) (.inl (by simp)) (.pointer (some ⟨g, 0, none⟩))) (show w.shape? g = some (69, 2) by
      unfold World.shape?
      rw [show w.heap[g]? = _ from h]
      rfl)))
    clear h h1
    have hsh : w.shape? g = some (69, 2) := HF.out.2.2
    obtain ⟨j, hj, hjs⟩ := Option.map_eq_some_iff.1 Tryd.Builder_Extra_169.sizeBuilder
    have HJ := Lib.hid (And.intro hj (And.intro hjs hsh))
    clear hj hjs hsh
    go_enter Tryd.func42, Tryd.ntmps42
    go_wp2_with fail
    rw [Lib.run_to_unsafe w ⟨g, 0, none⟩ Tryd.underlying67 Tryd.underlying89 HJ.out.1 (by rw [HJ.out.2.1]; decide) HJ.out.2.2 (Nat.zero_lt_succ 1)]
    simp only [Result.andThen]
    rw [Oper.upon_value]
    go_wp2_with fail
    rw [run_callFunc_extern Tryd.func51 (by kernel_rfl) (by kernel_rfl) (by kernel_rfl) (e := Extern.AbiNoEscape.same) (by kernel_rfl)]
    rw [Lib.run_noEscape]
    simp only [Result.andThen]
    rw [Oper.upon_value]
    go_wp2_with fail
    rw [Lib.run_from_unsafe w ⟨g, 0, none⟩ Tryd.underlying89 Tryd.underlying67 HJ.out.1 HJ.out.2.2 Tryd.Builder_Extra_169.liesBuilder]
    simp only [Result.andThen]
    rw [Oper.upon_value]
    go_wp2_with fail
    go_end0
    exact ⟨rfl, HF.out.1, HF.out.2.1⟩
  · have c0 : w.cell? ⟨g, 0, none⟩ = some (.pointer (some ⟨g, 0, none⟩)) := h.cell 0
    obtain ⟨j, hj, hjs⟩ := Option.map_eq_some_iff.1 Tryd.Builder_Extra_169.sizeBuilder
    have HJ := Lib.hid hj
    have HB := Lib.hid h
    clear h hj hjs
    go_enter Tryd.func42, Tryd.ntmps42
    go_wp2_with fail
    rw [Lib.run_neq_ptr_same w _ Tryd.underlying67 HJ.out]
    go_wp2_with fail
    go_end0
    exact ⟨rfl, HB.out, Chg.refl _ _⟩
theorem after_app {w1 w2 : World} {B g n : Nat} {p v : Value} {xs : List Value} (ho : w1.ownsRow B 5 1 v n xs) (hb : Blk w1 g 69 #[p, v]) (hc : Chg v.ownBlock.toList w1 w2) : w2.cell? ⟨g, 1, none⟩ = some v ∧ w2.frozen? ⟨g, 1, none⟩ = false := by
  have hn : g ∉ v.ownBlock.toList := fun hx => own_ne ho hb (by decide) g hx rfl
  have h2 := hb.chg hc hn
  exact ⟨h2.cell 1, h2.frozen 1⟩
set_option maxRecDepth 100000 in
set_option maxHeartbeats 2000000 in
theorem write_any {w : World} {B g : Nat} {p v : Value} {l : Bs} (h : BdR w B g p v l) (s : Bs) (hl : l.length + s.length ≤ 1000000000) (hB : B ≤ w.heap.size) :
    Calls Tryd.prog 33 #[.pointer (some ⟨g, 0, none⟩), str s] w fun e w' => (∃ r, e = .returned r) ∧ (∃ p' v', BdR w' B g p' v' (l ++ s)) ∧ Chg (g :: v.ownBlock.toList) w w' := by
  have HH := Lib.hid h
  have F := Lib.hid (check_any h.ptr h.blk)
  clear h
  go_enter Tryd.func33, Tryd.ntmps33
  go_wp2_with fail
  refine F.out.mono ?_
  rintro e w1 ⟨rfl, hb1, hc1⟩
  have HB1 := Lib.hid hb1
  have HO1 := Lib.hid (own_chg HH.out.own hc1 (fun x hx => by simp; exact HH.out.ne x hx))
  have HC1 := Lib.hid hc1
  have c1 : w1.cell? ⟨g, 1, none⟩ = some v := hb1.cell 1
  have hBz : B ≤ w1.heap.size := Nat.le_trans hB hc1.size
  have hsz := bsA_size s
  clear hb1 hc1 F
  obtain ⟨A, c, hf⟩ := Sl.form (Sl.of_own HO1.out)
  subst hf
  go_upto_region 3 with (first
    | (at_builtin; refine wpList_apps rfl (.tmp 12) (.tmp 13) rfl B rfl HO1.out rfl hl hBz ?_; intro v2 w2 hown2 hc2; obtain ⟨A2, k2, hf2⟩ := Sl.form (Sl.of_own hown2); rw [List.length_append] at hf2; subst hf2; obtain ⟨c2, f2⟩ := after_app HO1.out HB1.out hc2)
    | fail)
  have hc2' : Chg (Value.slice A l.length c).ownBlock.toList w1 w2 := hc2
  have hb2 : Blk w2 g 69 #[.pointer (some ⟨g, 0, none⟩), .slice A l.length c] := HB1.out.chg hc2 (fun hx => own_ne HO1.out HB1.out (by decide) g hx rfl)
  have hne2 : ∀ x ∈ (Value.slice A2 (l.length + s.length) k2).ownBlock.toList, x ≠ g := own_ne hown2 hb2 (by decide)
  have hcs : Chg [g] w2 (w2.setCell ⟨g, 1, none⟩ (.slice A2 (l.length + s.length) k2)) := (Chg.refl [g] w2).setCell (p := ⟨g, 1, none⟩) (.inl (by simp)) _
  have HFIN : Hid ((∃ p' v', BdR (w2.setCell ⟨g, 1, none⟩ (.slice A2 (l.length + s.length) k2)) B g p' v' (l ++ s)) ∧ Chg (g :: (Value.slice A l.length c).ownBlock.toList) w (w2.setCell ⟨g, 1, none⟩ (.slice A2 (l.length + s.length) k2))) := Lib.hid
    ⟨⟨_, _, .inr rfl, hb2.set_ 1 _, own_chg hown2 hcs (fun x hx => by simp; exact hne2 x hx), HH.out.low⟩,
      ((HC1.out.more (by simp)).trans (hc2'.more (fun x hx => by simp; exact .inr (by simpa using hx)))).trans (hcs.more (by simp))⟩
  clear c1 c2 f2 hb2 hne2 hcs hown2 hc2
  go_wp2_with fail
  go_ret2
  exact ⟨⟨_, rfl⟩, HFIN.out⟩
end Go.Proofs.YtljgemknccodeaaDoor
