/-
  WALKS over package model: what became of a flow (hunt, has), the model in memory. Condition: at most 300 calls.
-/
import Derived.Test.YtgbdbeaflilmlaaModelP
import Derived.Test.YtgbdbeaflilmlaaRowQ
import Derived.Deep.DeepCutAuto
set_option linter.unusedVariables false
set_option linter.unusedSimpArgs false
namespace Go.Proofs.Ytgbdbeaflilmlaa
open Go.RowKit Go.Maps

/-- What became of a flow. -/
structure Lf where
  st : Int
  ow : Int
  ls : List Int
deriving DecidableEq, Inhabited
@[reducible] def arrL (x : Lf) (v : Value) : Array Value := #[.int .i64 x.st, .int .i64 x.ow, v]
def huntL (x : Lf) (a b : Int) : Lf := ⟨max x.st 1, x.ow, insZ (insZ x.ls a) b⟩
theorem infL {x : Lf} {v : Value} : (Try.prog.info? 146).map (·.size) = some (arrL x v).size := by
  show _ = some 3
  kernel_rfl
set_option maxRecDepth 100000 in
set_option maxHeartbeats 1000000 in
theorem hunt_any {w : World} {B : Nat} {v : Value} {x : Lf} (h : SlZ w B v x.ls) (hl : x.ls.length ≤ 900) (hs : x.ls.Pairwise (· < ·)) (hB : B ≤ w.heap.size) (a b : Int) :
    Calls Try.prog 66 #[.agg (arrL x v), .int .i64 a, .int .i64 b] w fun e w' => ∃ v', e = .returned (.agg (arrL (huntL x a b) v')) ∧ SlZ w' B v' (huntL x a b).ls ∧ Chg [] w w' := by
  obtain ⟨st, ow, ls⟩ := x
  have hcA := ((Chg.refl [] w).alloc (.cells #[.int .i64 st, .int .i64 ow, v] 146)).alloc (.cells #[.int .i64 0, .int .i64 0, .slice none 0 0] 146)
  have hB1 : Blk ((w.alloc (.cells #[.int .i64 st, .int .i64 ow, v] 146)).alloc (.cells #[.int .i64 0, .int .i64 0, .slice none 0 0] 146)) w.heap.size 146 #[.int .i64 st, .int .i64 ow, v] := (Blk.new _ _ _).alloc _
  have hB2 : Blk ((w.alloc (.cells #[.int .i64 st, .int .i64 ow, v] 146)).alloc (.cells #[.int .i64 0, .int .i64 0, .slice none 0 0] 146)) (w.heap.size + 1) 146 #[.int .i64 0, .int .i64 0, .slice none 0 0] := Blk.new' (by simp)
  have hsz : ((w.alloc (.cells #[.int .i64 st, .int .i64 ow, v] 146)).alloc (.cells #[.int .i64 0, .int .i64 0, .slice none 0 0] 146)).heap.size = w.heap.size + 2 := by simp
  have HS := Lib.hid h
  have HI := Lib.hid (And.intro hcA (And.intro hB1 (And.intro hB2 hsz)))
  have HV : Hid ((huntL ⟨st, ow, ls⟩ a b).ls = insZ (insZ ls a) b) := Lib.hid rfl
  simp only at hl hs
  clear hcA hB1 hB2 hsz h
  go_enter Try.func66, Try.ntmps66
  go_upto_region 1 with fail
  obtain ⟨hcA, hB1, hB2, hsz⟩ := HI.out
  generalize (w.alloc (.cells #[.int .i64 st, .int .i64 ow, v] 146)).alloc (.cells #[.int .i64 0, .int .i64 0, .slice none 0 0] 146) = w1 at *
  generalize hg : w.heap.size = g at *
  have F1 := Lib.hid (mlist_any (HS.out.chg0 hcA) (by simp only; omega) hs (by omega) a)
  have c0 := hB1.cell 0
  have c1 := hB1.cell 1
  have c2 := hB1.cell 2
  simp only [List.getElem?_toArray, List.getElem?_cons_succ, List.getElem?_cons_zero] at c0 c1 c2
  have H1 := Lib.hid (And.intro hcA (And.intro hB1 hB2))
  clear hcA hB1 hB2 HI
  go_wp2_with fail
  refine F1.out.mono ?_
  rintro e w2 ⟨v2, rfl, hs2, hn2, hc2⟩
  have hln := insZ_len ls a
  have hz2 := hc2.size
  have F2 := Lib.hid (mlist_any hs2 (by omega) (insZ_rise hs a) (by omega) b)
  have HC2 := Lib.hid hc2
  have HN2 := Lib.hid hn2
  clear hs2 hc2 F1 hn2
  go_wp2_with fail
  refine F2.out.mono ?_
  rintro e w3 ⟨v3, rfl, hs3, hn3, hc3⟩
  have hnn : (v3 = v ∧ insZ (insZ ls a) b = ls) ∨ SlZ w3 w1.heap.size v3 (insZ (insZ ls a) b) := by
    rcases hn3 with ⟨e1, e2⟩ | hn3
    · rcases HN2.out with ⟨e3, e4⟩ | hn2
      · exact .inl ⟨e1.trans e3, e2.trans e4⟩
      · right; rw [e1, e2]; exact hn2.chg0 hc3
    · exact .inr (Sl.less hn3 hz2)
  obtain ⟨A3, k3, e3⟩ := Sl.form hs3
  subst e3
  have hc13 := HC2.out.trans hc3
  have hB1 := H1.out.2.1.chg hc13 (by simp)
  have hB2 := H1.out.2.2.chg hc13 (by simp)
  have hcz := H1.out.1.trans hc13
  have HNN : Hid ((Value.slice A3 (insZ (insZ ls a) b).length k3 = v ∧ insZ (insZ ls a) b = ls) ∨ SlZ w3 w1.heap.size (.slice A3 (insZ (insZ ls a) b).length k3) (insZ (insZ ls a) b)) := Lib.hid hnn
  clear hnn hn3
  have HS3 : Hid (SlZ w3 B (.slice A3 (insZ (insZ ls a) b).length k3) (insZ (insZ ls a) b)) := Lib.hid hs3
  have HC3 := Lib.hid (And.intro hcz (And.intro hB1 hB2))
  have hz3 := hc3.size
  have q0 := hB1.cell 0
  have q1 := hB1.cell 1
  have q2 := hB1.cell 2
  simp only [List.getElem?_toArray, List.getElem?_cons_succ, List.getElem?_cons_zero] at q0 q1 q2
  have qf := hB1.frozen
  clear hc13 hs3 hc3 hcz hB2 F2 c0 c1 c2 hB1
  go_upto_region 2 with fail
  have hB1 := HC3.out.2.1
  have hB2 := HC3.out.2.2
  have hcz := HC3.out.1
  have hB4 : Blk (w3.setCell ⟨g, 2, none⟩ (.slice A3 (insZ (insZ ls a) b).length k3)) g 146 #[.int .i64 st, .int .i64 ow, .slice A3 (insZ (insZ ls a) b).length k3] := hB1.set_ 2 _
  have hB5 : Blk (w3.setCell ⟨g, 2, none⟩ (.slice A3 (insZ (insZ ls a) b).length k3)) (g + 1) 146 #[.int .i64 0, .int .i64 0, .slice none 0 0] := hB2.far (by simp) _
  have hc4 := (Chg.refl [g] w3).setCell (p := ⟨g, 2, none⟩) (.inl (by simp)) (.slice A3 (insZ (insZ ls a) b).length k3)
  generalize hv3 : Value.slice A3 (insZ (insZ ls a) b).length k3 = v3 at *
  have HV3 : Hid (Value.slice A3 (insZ (insZ ls a) b).length k3 = v3) := Lib.hid hv3
  generalize w3.setCell ⟨g, 2, none⟩ v3 = w4 at *
  have c0 := hB4.cell 0
  simp only [List.getElem?_toArray, List.getElem?_cons_zero] at c0
  have hf4 := hB4.frozen 0
  have H4 := Lib.hid (And.intro hB4 (And.intro hB5 hc4))
  clear hB1 hB2 hcz hB4 hB5 hc4 HC2 q0 q1 q2 qf hv3 H1
  go_upto_region 3 with fail
  have hB6 := H4.out.1.set_ 0 (.int .i64 (max st 1))
  have hB7 := H4.out.2.1.far (p := ⟨g, 0, none⟩) (by simp) (.int .i64 (max st 1))
  have hc6 := H4.out.2.2.setCell (p := ⟨g, 0, none⟩) (.inl (by simp)) (.int .i64 (max st 1))
  generalize w4.setCell ⟨g, 0, none⟩ (.int .i64 (max st 1)) = w6 at *
  have hcg : Chg [] w w6 := (HC3.out.1.trans' hc6 (by intro y hy; simp at hy; subst hy; exact .inr (by omega)))
  have hs6 : Chg [g] w3 w6 := hc6
  have R6 := Lib.hid hB6.rangeQ
  have hB8 : Blk w6 (g + 1) 146 #[.int .i64 0, .int .i64 0, .slice none 0 0] := hB7
  have HCG := Lib.hid (And.intro hcg hs6)
  clear hB6 hB7 hc6 hs6 hcg H4 HC3 c0 hf4
  go_wp2_with (first
    | (refine wpList_row 146 (.tmp 3) rfl rfl g 0 rfl (arrL ⟨max st 1, ow, []⟩ v3) _ R6.out Try.underlying146 rfl infL ?_)
    | (refine wpList_store_blk rfl 146 _ _ rfl rfl hB8 rfl rfl rfl (by kernel_rfl) (by rw [← HV3.out]; rfl) ?_; intro w9 hB9 hc9)
    | fail)
  refine bodyPost_ret (results_blk rfl rfl hB9 _ Try.underlying146 rfl (by kernel_rfl)) rfl ⟨v3, rfl, ?_, ?_⟩
  · rw [HV.out]
    have hall := HCG.out.1.trans' hc9 (by intro y hy; simp at hy; subst hy; exact .inr (by omega))
    rcases HNN.out with ⟨e1, e2⟩ | hn
    · rw [e1, e2]
      exact HS.out.chg0 hall
    · skip
      refine Sl.less (B := w1.heap.size) (Sl.chg (S := [g, g + 1]) hn ((HCG.out.2.more (by simp)).trans (hc9.more (by simp))) (by intro y hy; simp at hy; omega)) (by omega)
  · exact HCG.out.1.trans' hc9 (by intro y hy; simp at hy; subst hy; exact .inr (by omega))

set_option maxHeartbeats 400000 in
theorem has_any (x : Lf) (v : Value) (n : Int) (w : World) :
    Calls Try.prog 68 #[.agg (arrL x v), .int .i64 n] w fun e w' => e = .returned (.bool (decide (x.st = 2 ∧ x.ow = n))) ∧ Chg [] w w' := by
  obtain ⟨st, ow, ls⟩ := x
  have hA := (Chg.refl [] w).alloc (.cells #[.int .i64 st, .int .i64 ow, v] 146)
  have HA := Lib.hid hA
  clear hA
  by_cases h1 : st = 2
  · have b1 : (st == 2) = true := by simp [h1]
    by_cases h2 : ow = n
    · have b2 : (ow == n) = true := by simp [h2]
      have HE : Hid (decide (st = 2 ∧ ow = n) = true) := Lib.hid (decide_eq_true ⟨h1, h2⟩)
      clear h1 h2
      go_enter Try.func68, Try.ntmps68
      go_wp2_with fail
      go_ret
      exact ⟨by rw [HE.out]; rfl, HA.out⟩
    · have b2 : (ow == n) = false := by simp [h2]
      have HE : Hid (decide (st = 2 ∧ ow = n) = false) := Lib.hid (decide_eq_false (fun h => h2 h.2))
      clear h1 h2
      go_enter Try.func68, Try.ntmps68
      go_wp2_with fail
      go_ret
      exact ⟨by rw [HE.out]; rfl, HA.out⟩
  · have b1 : (st == 2) = false := by simp [h1]
    have HE : Hid (decide (st = 2 ∧ ow = n) = false) := Lib.hid (decide_eq_false (fun h => h1 h.1))
    clear h1
    go_enter Try.func68, Try.ntmps68
    go_wp2_with fail
    go_ret
    exact ⟨by rw [HE.out]; rfl, HA.out⟩

/-! The model in memory. -/
def zL : Lf := ⟨0, 0, []⟩
def MD (V : Fl → Value) (D : Fl → Option Lf) : Fl → Option Value := fun f => (D f).map fun x => .agg (arrL x (V f))
structure MoR (w : World) (mb m nn K : Nat) (V : Fl → Value) (D : Fl → Option Lf) (s : Nat) : Prop where
  blk : Blk w mb 91 #[.map (some m)]
  om : OM KF w m nn (MD V D) s
  ls : ∀ f x, okF f → D f = some x → SlZ w (m + 1) (V f) x.ls ∧ x.ls.Pairwise (· < ·) ∧ x.ls.length ≤ 2 * K
  ne : mb ≠ m
  nk : nn ≤ K
/-- .. all of whose memory has come behind W; K calls were made. -/
def MoS (W w : World) (mb m K : Nat) (D : Fl → Option Lf) : Prop := ∃ nn V s, MoR w mb m nn K V D s ∧ W.heap.size ≤ m ∧ W.heap.size ≤ mb
section
variable {W w w' : World} {mb m nn K s : Nat} {V : Fl → Value} {D : Fl → Option Lf}
theorem MoR.chg0 (h : MoR w mb m nn K V D s) (hc : Chg [] w w') : MoR w' mb m nn K V D s := ⟨h.blk.chg hc (by simp), h.om.chg0 hc, fun f x hf hx => ⟨(h.ls f x hf hx).1.chg0 hc, (h.ls f x hf hx).2⟩, h.ne, h.nk⟩
theorem MoS.chg0 (h : MoS W w mb m K D) (hc : Chg [] w w') : MoS W w' mb m K D := by
  obtain ⟨nn, V, s, h1, h2⟩ := h
  exact ⟨nn, V, s, h1.chg0 hc, h2⟩
theorem MoS.mono (h : MoS W w mb m K D) {K' : Nat} (hK : K ≤ K') : MoS W w mb m K' D := by
  obtain ⟨nn, V, s, ⟨h1, h2, h3, h4, h5⟩, h6⟩ := h
  exact ⟨nn, V, s, ⟨h1, h2, fun f x hf hx => ⟨(h3 f x hf hx).1, (h3 f x hf hx).2.1, by have := (h3 f x hf hx).2.2; omega⟩, h4, by omega⟩, h6⟩
theorem MoR.lt (h : MoR w mb m nn K V D s) : mb < w.heap.size ∧ m < w.heap.size := ⟨h.blk.lt, h.om.lt⟩
/-- One flow's life written anew. -/
theorem MoR.put (h : MoR w mb m nn K V D s) {f : Fl} {x : Lf} {v : Value} (hf : okF f) (hx : SlZ w (m + 1) v x.ls) (hs : x.ls.Pairwise (· < ·)) (hl : x.ls.length ≤ 2 * (K + 1)) (hK : K ≤ 400) :
    ∃ w', (Instr.mapUpdate 89 (.map (some m)) f.v (.agg (arrL x v))).run Try.prog w = .ok () w' ∧ (∃ s', MoR w' mb m (nn + 1) (K + 1) (fun g => if g = f then v else V g) (fun g => if g = f then some x else D g) s') ∧ Chg [m] w w' := by
  obtain ⟨w', hr, ho, hc⟩ := h.om.put Try.underlying89 (by have := h.nk; unfold maxLen; omega) (x := f) hf (.agg (arrL x v))
  have e : (fun y => if y = f then some (.agg (arrL x v)) else MD V D y) = MD (fun g => if g = f then v else V g) (fun g => if g = f then some x else D g) := by
    funext y
    unfold MD
    by_cases e : y = f
    · simp [e]
    · simp [e]
  rw [e] at ho
  refine ⟨w', hr, ⟨_, ⟨h.blk.chg hc (by simpa using h.ne), ho, fun g y hg hy => ?_, h.ne, by have := h.nk; omega⟩⟩, hc⟩
  by_cases e : g = f
  · simp only [e, if_true, Option.some.injEq] at hy ⊢
    subst hy
    exact ⟨Sl.chg hx hc (by intro y hy; simp at hy; omega), hs, hl⟩
  · simp only [e, if_false] at hy ⊢
    have := h.ls g y hg hy
    exact ⟨Sl.chg this.1 hc (by intro y hy; simp at hy; omega), this.2.1, by have := this.2.2; omega⟩
def vOf (V : Fl → Value) (D : Fl → Option Lf) (f : Fl) : Value := if (D f).isSome then V f else .slice none 0 0
theorem look_om (h : OM KF w m nn (MD V D) s) {f : Fl} (hf : okF f) : (Instr.lookup 89 (.map (some m)) f.v false).run Try.prog w = .ok (.agg (arrL ((D f).getD zL) (vOf V D f))) w := by
  have hz : (zeroValue 146).run Try.prog w = .ok (.agg #[.int .i64 0, .int .i64 0, .slice none 0 0]) w := by kernel_rfl
  have hk := h.look Try.underlying89 hz (x := f) hf
  cases hd : D f with
  | none =>
    rw [show MD V D f = none by simp [MD, hd]] at hk
    rw [show vOf V D f = .slice none 0 0 by simp [vOf, hd]]
    exact hk
  | some x =>
    rw [show MD V D f = some (.agg (arrL x (V f))) by simp [MD, hd]] at hk
    rw [show vOf V D f = V f by simp [vOf, hd]]
    exact hk
theorem MoR.look (h : MoR w mb m nn K V D s) {f : Fl} (hf : okF f) : (Instr.lookup 89 (.map (some m)) f.v false).run Try.prog w = .ok (.agg (arrL ((D f).getD zL) (vOf V D f))) w := look_om h.om hf
theorem MoR.list (h : MoR w mb m nn K V D s) {f : Fl} (hf : okF f) : SlZ w (m + 1) (vOf V D f) ((D f).getD zL).ls ∧ ((D f).getD zL).ls.Pairwise (· < ·) ∧ ((D f).getD zL).ls.length ≤ 2 * K := by
  cases hd : D f with
  | none => exact ⟨by rw [show vOf V D f = .slice none 0 0 by simp [vOf, hd]]; exact Sl.nil _ _ _, List.Pairwise.nil, by simp [zL]⟩
  | some x => rw [show vOf V D f = V f by simp [vOf, hd]]; exact h.ls f x hf hd
end
end Go.Proofs.Ytgbdbeaflilmlaa
