/-
  WALK: a member's turn, in package maglev: a function with a memory of its own. Condition: the table has a slot that is free.
-/
import Derived.Test.YtecblclpchndiaaGreatPermF
import Derived.Test.YtecblclpchndiaaGreatMagS
set_option linter.unusedVariables false
set_option linter.unusedSimpArgs false
namespace Go.Proofs.YtecblclpchndiaaGreat
open Go.RowKit

def tabA (t : List Int) : Array Value := (t.map (Value.int .i64)).toArray
theorem tabA_at (t : List Int) (j : Nat) : (tabA t)[j]? = t[j]?.map (Value.int .i64) := by simp [tabA]
theorem tabA_set (t : List Int) (j : Nat) (x : Int) : (tabA t).setIfInBounds j (.int .i64 x) = tabA (t.set j x) := by
  unfold tabA
  rw [List.setIfInBounds_toArray, List.map_set]
/-- A taker: the blocks of its order's variable, the table's, the node's; its row of slots; its node. -/
structure Tk where
  bo : Nat
  bt : Nat
  bn : Nat
  g : Nat
  cap : Nat
  node : Int
deriving DecidableEq
@[reducible] def Tk.fv (k : Tk) : Value := .func (.func 99) #[] #[.pointer (some ⟨k.bt, 0, none⟩), .pointer (some ⟨k.bo, 0, none⟩), .pointer (some ⟨k.bn, 0, none⟩)]
def Tk.foot (k : Tk) : List Nat := [k.bo, k.bt, k.bn, k.g]
/-- A taker in memory: it has left p slots behind, each taken. -/
structure TkR (w : World) (T m : Nat) (k : Tk) (o : List Nat) (t : List Int) : Prop where
  tb : Blk w k.bt 38 #[.slice (some ⟨T, 0, none⟩) m m]
  nb : Blk w k.bn 3 #[.int .i64 k.node]
  row : ∀ j x, o[j]? = some x → w.cell? ⟨k.g, j, none⟩ = some (.int .i64 (x : Nat))
  ob : ∃ p, p < m ∧ Blk w k.bo 38 #[.slice (some ⟨k.g, p, none⟩) (m - p) (k.cap - p)] ∧ ∀ j x, j < p → o[j]? = some x → freeS t x = false
  cap : m ≤ k.cap
  d1 : k.bo ≠ k.bt ∧ k.bo ≠ k.bn ∧ k.bo ≠ k.g
theorem TkR.chg {w w' : World} {T m : Nat} {k : Tk} {o : List Nat} {t : List Int} {S : List Nat} (h : TkR w T m k o t) (hc : Chg S w w') (hS : ∀ x ∈ k.foot, x ∉ S) : TkR w' T m k o t := by
  obtain ⟨p, h1, h2, h3⟩ := h.ob
  exact ⟨h.tb.chg hc (hS _ (by simp [Tk.foot])), h.nb.chg hc (hS _ (by simp [Tk.foot])), fun j x hx => hc.cell (h.row j x hx) (hS _ (by simp [Tk.foot])), ⟨p, h1, h2.chg hc (hS _ (by simp [Tk.foot])), h3⟩, h.cap, h.d1⟩
theorem TkR.more {w : World} {T m : Nat} {k : Tk} {o : List Nat} {t t' : List Int} (h : TkR w T m k o t) (ht : ∀ j, freeS t' j = true → freeS t j = true) : TkR w T m k o t' := by
  obtain ⟨p, h1, h2, h3⟩ := h.ob
  refine ⟨h.tb, h.nb, h.row, ⟨p, h1, h2, fun j x hj hx => ?_⟩, h.cap, h.d1⟩
  cases hf : freeS t' x with
  | false => rfl
  | true => have := ht x hf; rw [h3 j x hj hx] at this; cases this
theorem TkR.lt {w : World} {T m : Nat} {k : Tk} {o : List Nat} {t : List Int} (h : TkR w T m k o t) (h0 : ∃ x, o[0]? = some x) : ∀ x ∈ k.foot, x < w.heap.size := by
  obtain ⟨p, h1, h2, h3⟩ := h.ob
  obtain ⟨y, hy⟩ := h0
  intro x hx
  simp only [Tk.foot, List.mem_cons, List.not_mem_nil, or_false] at hx
  rcases hx with rfl | rfl | rfl | rfl
  · exact h2.lt
  · exact h.tb.lt
  · exact h.nb.lt
  · exact World.block_lt_of_cell? w _ (h.row 0 y hy)
/-- An order: m slots, all of them. -/
structure OrdS (m : Nat) (o : List Nat) : Prop where
  len : o.length = m
  lt : ∀ x ∈ o, x < m
  all : ∀ j, j < m → j ∈ o
theorem claim_at {o : List Nat} {t : List Int} {p s : Nat} {n : Int} (hp : ∀ j x, j < p → o[j]? = some x → freeS t x = false) (hs : o[p]? = some s) (hf : freeS t s = true) : claimS o n t = t.set s n := by
  have e : o = o.take p ++ s :: o.drop (p + 1) := by
    obtain ⟨hlt, hv⟩ := List.getElem?_eq_some_iff.1 hs
    rw [← hv, ← List.drop_eq_getElem_cons hlt, List.take_append_drop]
  rw [e, claimS_drop (fun j hj => by
    obtain ⟨i, hi⟩ := List.getElem?_of_mem hj
    rw [List.getElem?_take] at hi
    split at hi
    · next h => exact hp i j h hi
    · cases hi)]
  unfold claimS
  simp [hf]
theorem more_free {m : Nat} {o : List Nat} {t : List Int} {p s : Nat} (ho : OrdS m o) (ht : t.length = m) (hf : fullS t = false) (hp : ∀ j x, j < p → o[j]? = some x → freeS t x = false) (hs : o[p]? = some s) (hn : freeS t s = false) : p + 1 < m := by
  unfold fullS at hf
  rw [List.all_eq_false] at hf
  obtain ⟨y, hy, hy0⟩ := hf
  obtain ⟨i, hi, rfl⟩ := List.mem_iff_getElem.1 hy
  have hfi : freeS t i = true := by
    rw [freeS_at hi]
    simpa using hy0
  obtain ⟨q, hq⟩ := List.getElem?_of_mem (ho.all i (by omega))
  have hql := (List.getElem?_eq_some_iff.1 hq).1
  rcases Nat.lt_or_ge q p with h | h
  · have := hp q i h hq
    rw [hfi] at this; cases this
  · by_cases e : q = p
    · subst e
      rw [hs] at hq
      cases hq
      rw [hfi] at hn; cases hn
    · have := ho.len
      omega

theorem run_cut1 {P : Program} {t e : TypeId} {z : Value} {size bytes : Nat} (el : El P t e z size bytes) {b o n c : Nat} (h1 : 1 ≤ n) (hc : n ≤ c) (h2 : 1 < c) (W : World) :
    (Instr.slice t (.slice (some ⟨b, o, none⟩) n c) (some (.int .i64 1)) none none).run P W = .ok (.slice (some ⟨b, o + size, none⟩) (n - 1) (c - 1)) W := by
  obtain ⟨i, hi0, hz, hs, hb⟩ := info_parts el.info
  have h3 : ¬ c = 1 := by omega
  have h4 : 1 ≤ c := by omega
  have h6 : ¬ ((n : Int) < 1) := by omega
  have h7 : (1 : Int) ≤ (n : Int) := by omega
  have hsz := el.hsz
  have h5 : ¬ size = 0 := by omega
  simp [Instr.slice, run_underlying el.ht, Instr.sliceBounds, Instr.sliceBound, asIntOf, h1, h3, h4, h5, h6, h7, sizeOf, typeInfo, hi0, hs, go_sem, Addr.add]
set_option maxRecDepth 100000 in
set_option maxHeartbeats 2000000 in
theorem take1_any {w : World} {T m : Nat} {k : Tk} {o : List Nat} {t : List Int} (h : TkR w T m k o t) (hT : Blk w T 3 (tabA t)) (ho : OrdS m o) (ht : t.length = m) (hf : fullS t = false) (hn : k.node ≠ 0) (hTf : T ∉ k.foot) (hm : m ≤ 1000) :
    Calls Tryz.prog 99 #[.pointer (some ⟨k.bt, 0, none⟩), .pointer (some ⟨k.bo, 0, none⟩), .pointer (some ⟨k.bn, 0, none⟩)] w fun e w' => e = .returned (.tuple #[]) ∧ Blk w' T 3 (tabA (claimS o k.node t)) ∧ TkR w' T m k o (claimS o k.node t) ∧ Chg [T, k.bo] w w' := by
  obtain ⟨p0, hp0, hb0, hpre0⟩ := h.ob
  have hTo : T ≠ k.bo ∧ T ≠ k.bt ∧ T ≠ k.bn ∧ T ≠ k.g := by simp [Tk.foot] at hTf; exact hTf
  have hd := h.d1
  have hcap := h.cap
  have HTB := Lib.hid h.tb
  have HNB := Lib.hid h.nb
  have HRW := Lib.hid h.row
  have HT := Lib.hid hT
  have HO := Lib.hid (fun p s hp hs hn => more_free (p := p) (s := s) ho ht hf hp hs hn)
  have HCA := Lib.hid (fun p s hp hs hf => claim_at (o := o) (t := t) (p := p) (s := s) (n := k.node) hp hs hf)
  have HX : Hid (∀ p, p < m → ∃ s, o[p]? = some s ∧ s < m ∧ ∃ x, t[s]? = some x ∧ freeS t s = (x == 0)) := Lib.hid fun p hp => by
    have hl := ho.len
    have hs : o[p]? = some (o[p]'(by omega)) := List.getElem?_eq_getElem _
    have hsm := ho.lt _ (List.getElem_mem (by omega : p < o.length))
    exact ⟨_, hs, hsm, _, List.getElem?_eq_getElem (by omega), freeS_at (by omega)⟩
  have HB0 := Lib.hid hb0
  have HP0 := Lib.hid hpre0
  clear h hT ho hf hb0 hpre0 hTf
  have hlo : k.bo < w.heap.size := HB0.out.lt
  go_enter Tryz.func99, Tryz.ntmps99
  go_wp2_with fail
  go_loopw [] (fun wr => ∃ p, p < m ∧ Hid (Blk wr k.bo 38 #[.slice (some ⟨k.g, p, none⟩) (m - p) (k.cap - p)]) ∧ Hid (∀ j x, j < p → o[j]? = some x → freeS t x = false) ∧ Hid (Chg [k.bo] w wr)) (fun wr => match wr.cell? ⟨k.bo, 0, none⟩ with | some (.slice _ n _) => n | _ => 0)
  case atStart => exact ⟨p0, hp0, HB0, HP0, Lib.hid (Chg.refl _ _)⟩
  case round =>
    obtain ⟨p, hp, HB, HP, HC⟩ := hrel
    obtain ⟨s, hs, hsm, x, hx, hfx⟩ := HX.out p hp
    have b1 := HTB.out.chg HC.out (by simp; exact fun e => hd.1 e.symm)
    have b2 := HNB.out.chg HC.out (by simp; exact fun e => hd.2.1 e.symm)
    have b3 := HT.out.chg HC.out (by simp; exact hTo.1)
    have c1 : wr.cell? ⟨k.bt, 0, none⟩ = some (.slice (some ⟨T, 0, none⟩) m m) := b1.cell 0
    have c2 : wr.cell? ⟨k.bo, 0, none⟩ = some (.slice (some ⟨k.g, p, none⟩) (m - p) (k.cap - p)) := HB.out.cell 0
    have c3 : wr.cell? ⟨k.g, p, none⟩ = some (.int .i64 (s : Nat)) := HC.out.cell (HRW.out p s hs) (by simp; exact fun e => hd.2.2 e.symm)
    have c4 : wr.cell? ⟨T, s, none⟩ = some (.int .i64 x) := by rw [b3.cell, tabA_at, hx]; rfl
    have c5 : wr.cell? ⟨k.bn, 0, none⟩ = some (.int .i64 k.node) := b2.cell 0
    have f2 := HB.out.frozen 0
    have f4 := b3.frozen s
    have hsi : (s : Int) < (m : Int) := by omega
    have hn0 : (0 : Int) < ((m - p : Nat) : Int) := by omega
    obtain ⟨q, hq⟩ : ∃ q, q = m - p := ⟨_, rfl⟩
    obtain ⟨cq, hcq⟩ : ∃ cq, cq = k.cap - p := ⟨_, rfl⟩
    rw [← hq] at c2 hn0
    rw [← hcq] at c2
    by_cases hx0 : x = 0
    · subst hx0
      have hff : freeS t s = true := by rw [hfx]; rfl
      have HCL := Lib.hid (HCA.out p s HP.out hs hff)
      have hke : ∀ j, freeS (claimS o k.node t) j = true → freeS t j = true := fun j => claimS_keep hn
      have HTK : Hid (TkR wr T m k o (claimS o k.node t)) := Lib.hid (TkR.more ⟨b1, b2, fun j y hy => HC.out.cell (HRW.out j y hy) (by simp; exact fun e => hd.2.2 e.symm), ⟨p, hp, HB.out, HP.out⟩, hcap, hd⟩ hke)
      have HT3 := Lib.hid b3
      clear hx hfx hff hs HO HCA HX b1 b2 b3 f2 HP HP0 hke HRW HB0 HTB HNB HT HB hcap hd
      go_upto_region 0 with fail
      go_quiet (fail)
      have d1 : (wr.drewN nq).cell? ⟨k.bt, 0, none⟩ = some (.slice (some ⟨T, 0, none⟩) m m) := c1
      have d2 : (wr.drewN nq).cell? ⟨k.bo, 0, none⟩ = some (.slice (some ⟨k.g, p, none⟩) q cq) := c2
      have d3 : (wr.drewN nq).cell? ⟨k.g, p, none⟩ = some (.int .i64 (s : Nat)) := c3
      have d4 : (wr.drewN nq).cell? ⟨T, s, none⟩ = some (.int .i64 0) := c4
      have d5 : (wr.drewN nq).cell? ⟨k.bn, 0, none⟩ = some (.int .i64 k.node) := c5
      have e4 : (wr.drewN nq).frozen? ⟨T, s, none⟩ = false := f4
      have HW := Lib.hid (And.intro ((Chg.refl [] wr).drewN nq) (HC.out.drewN nq))
      rw [← hq, ← hcq]
      generalize wr.drewN nq = w2 at *
      clear c1 c2 c3 c4 c5 f4
      go_upto_region 2 with fail
      go_region
      have hB2 : Blk w2 T 3 (tabA t) := HT3.out.chg HW.out.1 (by simp)
      have hB3 : Blk (w2.setCell ⟨T, s, none⟩ (.int .i64 k.node)).drew T 3 (tabA (claimS o k.node t)) := by
        rw [HCL.out, ← tabA_set]
        exact (hB2.set_ s _).drew
      have hC3 : Chg [T] w2 (w2.setCell ⟨T, s, none⟩ (.int .i64 k.node)).drew := ((Chg.refl [T] w2).setCell (p := ⟨T, s, none⟩) (.inl (by simp)) _).drew
      have HZ := Lib.hid (And.intro hB3 hC3)
      clear hB2 hB3 hC3 d1 d2 d3 d4 d5 e4
      generalize (w2.setCell ⟨T, s, none⟩ (.int .i64 k.node)).drew = w3 at *
      go_end0
      refine ⟨rfl, HZ.out.1, (HTK.out.chg HW.out.1 (by simp)).chg HZ.out.2 ?_, (HW.out.2.more (by simp)).trans (HZ.out.2.more (by simp))⟩
      intro y hy hm
      simp [Tk.foot] at hy hm
      subst hm
      rcases hy with e | e | e | e
      · exact hTo.1 e
      · exact hTo.2.1 e
      · exact hTo.2.2.1 e
      · exact hTo.2.2.2 e
    · have hff : freeS t s = false := by rw [hfx]; simp [hx0]
      have hp1 := HO.out p s HP.out hs hff
      have hb : (x == 0) = false := by simp [hx0]
      have hbn : (x != 0) = true := by simp [hx0]
      have hcut : ∀ W : World, (Instr.slice 38 (.slice (some ⟨k.g, p, none⟩) q cq) (some (.int .i64 1)) none none).run Tryz.prog W = .ok (.slice (some ⟨k.g, p + 1, none⟩) (m - (p + 1)) (k.cap - (p + 1))) W := by
        intro W
        have := run_cut1 elZ (b := k.g) (o := p) (n := q) (c := cq) (by omega) (by omega) (by omega) W
        rw [this, show q - 1 = m - (p + 1) by omega, show cq - 1 = k.cap - (p + 1) by omega]
      have HP2 : Hid (∀ j x, j < p + 1 → o[j]? = some x → freeS t x = false) := Lib.hid fun j y hj hy => by
        by_cases e : j = p
        · subst e
          rw [hs] at hy
          cases hy
          exact hff
        · exact HP.out j y (by omega) hy
      clear hx hfx hff hs HO HCA HX hx0 b1 b2 b3 c5
      go_upto_region 0 with fail
      go_quiet (fail)
      have c2' : (wr.drewN nq).cell? ⟨k.bo, 0, none⟩ = some (.slice (some ⟨k.g, p, none⟩) (m - p) (k.cap - p)) := by rw [← hq, ← hcq]; exact c2
      have f2' : (wr.drewN nq).frozen? ⟨k.bo, 0, none⟩ = false := f2
      have hcut2 : ∀ W : World, (Instr.slice 38 (.slice (some ⟨k.g, p, none⟩) (m - p) (k.cap - p)) (some (.int .i64 1)) none none).run Tryz.prog W = .ok (.slice (some ⟨k.g, p + 1, none⟩) (m - (p + 1)) (k.cap - (p + 1))) W := by rw [← hq, ← hcq]; exact hcut
      have HB2 : Hid (Blk ((wr.drewN nq).setCell ⟨k.bo, 0, none⟩ (.slice (some ⟨k.g, p + 1, none⟩) (m - (p + 1)) (k.cap - (p + 1)))) k.bo 38 #[.slice (some ⟨k.g, p + 1, none⟩) (m - (p + 1)) (k.cap - (p + 1))]) := Lib.hid (by
        have hb0 : Blk (wr.drewN nq) k.bo 38 #[.slice (some ⟨k.g, p, none⟩) (m - p) (k.cap - p)] := HB.out
        exact hb0.set_ 0 _)
      have HC2 : Hid (Chg [k.bo] w ((wr.drewN nq).setCell ⟨k.bo, 0, none⟩ (.slice (some ⟨k.g, p + 1, none⟩) (m - (p + 1)) (k.cap - (p + 1))))) := Lib.hid ((HC.out.drewN nq).trans ((Chg.refl [k.bo] _).setCell (p := ⟨k.bo, 0, none⟩) (.inl (by simp)) _))
      have HM1 : Hid (wr.cell? ⟨k.bo, 0, none⟩ = some (.slice (some ⟨k.g, p, none⟩) (m - p) (k.cap - p))) := Lib.hid c2'
      have hmeas : m - (p + 1) < m - p := by omega
      clear HB HC c1 c2 c3 c4 f2 f4 hcut hq hcq HP HP0 HB0 hn0 hsi
      clear HTB HNB HRW HT hd hTo
      go_wp2_with fail
      go_roundw
      case rel => exact ⟨p + 1, by omega, HB2, HP2, HC2⟩
      case measure =>
        have e2 := HB2.out.cell 0
        simp only [List.getElem?_toArray, List.getElem?_cons_zero] at e2
        rw [e2, HM1.out]
        exact hmeas
end Go.Proofs.YtecblclpchndiaaGreat
