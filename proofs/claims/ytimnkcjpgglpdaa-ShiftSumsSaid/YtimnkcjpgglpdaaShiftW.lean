/-
  WALKS over package shift: a slot of both tables, one slot counted. Conditions: the tables read as at most 600 integers; the counts are small.
-/
import Derived.Test.YtimnkcjpgglpdaaPickLaw
import Derived.Test.YtimnkcjpgglpdaaMapF
import Derived.Test.YtimnkcjpgglpdaaShiftPlain
import Derived.Test.YtimnkcjpgglpdaaStruct
set_option linter.unusedVariables false
set_option linter.unusedSimpArgs false
namespace Go.Proofs.Ytimnkcjpgglpdaa
open Go.RowKit Go.Maps

def dR (r : R4) : DataW Unit := .agg [.lit (.int .i64 r.node), .lit (.int .i64 r.had), .lit (.int .i64 r.has), .lit (.int .i64 r.kept)]
def encR (r : R4) : List Value := [.int .i64 r.node, .int .i64 r.had, .int .i64 r.has, .int .i64 r.kept]
def evR (r : R4) : Value := .agg #[.int .i64 r.node, .int .i64 r.had, .int .i64 r.has, .int .i64 r.kept]
theorem encR_len (r : R4) : (encR r).length = 4 := rfl
theorem encR_one (r : R4) : ∀ u ∈ encR r, u.oneCell' = true := by intro u hu; simp [encR] at hu; rcases hu with rfl | rfl | rfl | rfl <;> rfl
theorem dR_inj {a b : R4} (h : dR a = dR b) : a = b := by
  simp [dR] at h
  exact R4.ext' h.1 h.2.1 h.2.2.1 h.2.2.2
def rowElem : Value → Option (DataW Unit × List MemPlace)
  | .agg cs => match cs.toList with
    | [.int .i64 a, .int .i64 b, .int .i64 c, .int .i64 e] => some (dR ⟨a, b, c, e⟩, [])
    | _ => none
  | _ => none
theorem rowElem_mk (r : R4) : rowElem (evR r) = some (dR r, []) := rfl
theorem rowElem_inv {v : Value} {z : DataW Unit × List MemPlace} (h : rowElem v = some z) : ∃ r, v = evR r ∧ z = (dR r, []) := by
  cases v with
  | agg cs =>
    simp only [rowElem] at h
    split at h
    · next a b c e hc =>
      injection h with h
      refine ⟨⟨a, b, c, e⟩, ?_, h.symm⟩
      rw [evR]
      congr 1
      exact Array.toList_inj.1 hc
    · cases h
  | _ => simp [rowElem] at h
theorem zeroRow (w : World) : (zeroValue 35).run Try.prog w = .ok (evR ⟨0, 0, 0, 0⟩) w := by kernel_rfl

theorem looked {w : World} {b n : Nat} {D : DataW Unit} {M : Int → Option R4} {node : Int} (hown : w.ownsMap Try.prog 3 rowElem b n D) (hR : Reads dR D M) (hw : (Lit.int .i64 node).wf = true) :
    ∃ x : R4, (Instr.lookup 81 (.map (some b)) (.int .i64 node) false).run Try.prog w = .ok (evR x) w ∧ x.had = gH M node ∧ x.has = gS M node ∧ x.kept = gK M node := by
  obtain ⟨v, ps, hrun, hv⟩ := hown.lookup lawZ Try.underlying81 (zeroRow w) (rowElem_mk ⟨0, 0, 0, 0⟩) (keyOf_int_mk Try.underlying3 hw)
  obtain ⟨r, rfl, hz⟩ := rowElem_inv hv
  injection hz with h1 h2
  refine ⟨r, hrun, ?_⟩
  unfold gH gS gK
  cases e : M node with
  | none =>
    rw [hR.at_none e] at h1
    have := dR_inj h1; subst this
    exact ⟨rfl, rfl, rfl⟩
  | some r' =>
    rw [hR.at_some e] at h1
    have := dR_inj h1; subst this
    exact ⟨rfl, rfl, rfl⟩

theorem upd_put {D : DataW Unit} {M : Int → Option R4} (hR : Reads dR D M) {n : Int} (hn : 0 < n) (a b c : Int) :
    Reads dR (D.put (.int .i64 n) (dR ⟨n, gH M n + a, gS M n + b, gK M n + c⟩)) (upd M n a b c) := by
  have := hR.put n ⟨n, gH M n + a, gS M n + b, gK M n + c⟩
  have e : (fun x => if x = n then some (⟨n, gH M n + a, gS M n + b, gK M n + c⟩ : R4) else M x) = upd M n a b c := by
    funext x; unfold upd; rw [if_neg (show ¬ (n ≤ 0) by omega)]; rfl
  rw [← e]; exact this

set_option maxRecDepth 100000 in
set_option maxHeartbeats 1000000 in
theorem count_any {w : World} {b n : Nat} {D : DataW Unit} {M : Int → Option R4} (node n0 p q r : Int) (hown : w.ownsMap Try.prog 3 rowElem b n D) (hR : Reads dR D M) (hn : n < 10000) (hw : (Lit.int .i64 node).wf = true)
    (h1 : 0 ≤ gH M node ∧ gH M node ≤ 1000) (h2 : 0 ≤ gS M node ∧ gS M node ≤ 1000) (h3 : 0 ≤ gK M node ∧ gK M node ≤ 1000) (hp : 0 ≤ p ∧ p ≤ 1) (hq : 0 ≤ q ∧ q ≤ 1) (hr : 0 ≤ r ∧ r ≤ 1) :
    Calls Try.prog 48 #[.map (some b), .int .i64 node, .agg #[.int .i64 n0, .int .i64 p, .int .i64 q, .int .i64 r]] w fun e w' => e = .returned (.tuple #[]) ∧
      (∃ D', w'.ownsMap Try.prog 3 rowElem b (n + 1) D' ∧ Reads dR D' (upd M node p q r)) ∧ w.grownBy w' (some b) := by
  by_cases h0 : node ≤ 0
  · have HU := Lib.hid (upd_low M h0 p q r)
    go_enter Try.func48, Try.ntmps48
    go_wp2
    refine bodyPost_ret (results_none rfl _ _ _) rfl ?_
    exact ⟨rfl, ⟨D, (hown.alloc _).mono (by omega), by rw [HU.out]; exact hR⟩, World.grownBy_alloc _ _ _⟩
  · have HU := Lib.hid (upd_put hR (show 0 < node by omega) p q r)
    have hoA := hown.alloc (.cells #[.int .i64 n0, .int .i64 p, .int .i64 q, .int .i64 r] 35)
    obtain ⟨x, hrun, e1, e2, e3⟩ := looked hoA hR hw
    have hkey : keyOf Try.prog 3 (.int .i64 node) = some (.int .i64 node) := keyOf_int_mk Try.underlying3 hw
    obtain ⟨x0, xh, xs, xk⟩ := x
    simp only at e1 e2 e3
    rw [← e1, ← e2, ← e3] at HU
    rw [← e1] at h1
    rw [← e2] at h2
    rw [← e3] at h3
    have HR := Lib.hid hR
    clear e1 e2 e3 hR hown
    obtain ⟨h1a, h1b⟩ := h1
    obtain ⟨h2a, h2b⟩ := h2
    obtain ⟨h3a, h3b⟩ := h3
    obtain ⟨hpa, hpb⟩ := hp
    obtain ⟨hqa, hqb⟩ := hq
    obtain ⟨hra, hrb⟩ := hr
    simp only [evR] at hrun
    have hw1 : IntKind.i64.wrap (xh + p) = xh + p := by rw [IntKind.wrap_i64]; omega
    have hw2 : IntKind.i64.wrap (xs + q) = xs + q := by rw [IntKind.wrap_i64]; omega
    have hw3 : IntKind.i64.wrap (xk + r) = xk + r := by rw [IntKind.wrap_i64]; omega
    go_enter Try.func48, Try.ntmps48
    go_wp2_with (first
      | (at_mapUpdate; refine wpList_mapUpdate_own _ rfl _ _ _ 81 rfl 3 35 lawZ Try.underlying81 rowElem b n _ rfl (hoA.alloc _) (by unfold maxLen; omega) _ _ _ rfl rfl hkey (dR ⟨node, xh + p, xs + q, xk + r⟩) [] (rowElem_mk ⟨node, xh + p, xs + q, xk + r⟩) ?_; intro w1 hown1 hgrow1)
      | go_in)
    go_end0
    exact ⟨rfl, ⟨_, hown1, HU.out⟩, ((World.grownBy_alloc _ _ _).trans (World.grownBy_alloc _ _ _)).trans hgrow1⟩

set_option maxHeartbeats 400000 in
theorem both_any {w : World} {B B' : Nat} {v v' : Value} {l l' : List Int} (i : Nat) (h : SlZ w B v l) (h' : SlZ w B' v' l') (hl : l.length ≤ 600) (hl' : l'.length ≤ 600) :
    Calls Try.prog 47 #[v, v', .int .i64 i] w fun e w' => e = .returned (.tuple #[.int .i64 (aAt l i), .int .i64 (aAt l' i)]) ∧ w = w' := by
  have hA : i < l.length → ∃ b o c, v = .slice (some ⟨b, o, none⟩) l.length c ∧ w.cell? ⟨b, o + i, none⟩ = some (.int .i64 (aAt l i)) := fun hi => by
    obtain ⟨b, o, c, hv, _, _, _, hx⟩ := h.all (by omega)
    exact ⟨b, o, c, hv, hx i hi⟩
  have hB : i < l'.length → ∃ b o c, v' = .slice (some ⟨b, o, none⟩) l'.length c ∧ w.cell? ⟨b, o + i, none⟩ = some (.int .i64 (aAt l' i)) := fun hi => by
    obtain ⟨b, o, c, hv, _, _, _, hx⟩ := h'.all (by omega)
    exact ⟨b, o, c, hv, hx i hi⟩
  have hA0 : ¬ i < l.length → aAt l i = 0 := fun hi => by unfold aAt; rw [List.getElem?_eq_none (by omega)]; rfl
  have hB0 : ¬ i < l'.length → aAt l' i = 0 := fun hi => by unfold aAt; rw [List.getElem?_eq_none (by omega)]; rfl
  obtain ⟨A1, c1, hv1⟩ := Sl.form h
  obtain ⟨A2, c2, hv2⟩ := Sl.form h'
  clear h h'
  generalize l.length = n at *
  generalize l'.length = m at *
  by_cases h1 : i < n
  · obtain ⟨b, o, c, rfl, hc⟩ := hA h1
    clear hA hA0 hv1
    by_cases h2 : i < m
    · obtain ⟨b', o', c', rfl, hc'⟩ := hB h2
      clear hB hB0 hv2
      generalize ha : aAt l i = a at *
      generalize hb : aAt l' i = b2 at *
      go_enter Try.func47, Try.ntmps47
      go_wp2
      go_ret2
      exact ⟨rfl, rfl⟩
    · subst hv2
      have h20 := hB0 h2
      clear hB hB0
      generalize ha : aAt l i = a at *
      go_enter Try.func47, Try.ntmps47
      go_wp2
      go_ret2
      exact ⟨by rw [h20]; rfl, rfl⟩
  · subst hv1
    have h10 := hA0 h1
    clear hA hA0
    by_cases h2 : i < m
    · obtain ⟨b', o', c', rfl, hc'⟩ := hB h2
      clear hB hB0 hv2
      generalize hb : aAt l' i = b2 at *
      go_enter Try.func47, Try.ntmps47
      go_wp2
      go_ret2
      exact ⟨by rw [h10]; rfl, rfl⟩
    · subst hv2
      have h20 := hB0 h2
      clear hB hB0
      go_enter Try.func47, Try.ntmps47
      go_wp2
      go_ret2
      exact ⟨by rw [h10, h20]; rfl, rfl⟩

set_option maxHeartbeats 400000 in
theorem at_any {w : World} {B : Nat} {v : Value} {l : List Int} (i : Nat) (h : SlZ w B v l) (hl : l.length ≤ 600) :
    Calls Try.prog 51 #[v, .int .i64 i] w fun e w' => e = .returned (.int .i64 (aAt l i)) ∧ w = w' := by
  obtain ⟨A1, c1, hv1⟩ := Sl.form h
  by_cases h1 : i < l.length
  · obtain ⟨b, o, c, rfl, _, _, _, hx⟩ := h.all (by omega)
    have hc : w.cell? ⟨b, o + i, none⟩ = some (.int .i64 (aAt l i)) := hx i h1
    clear h hx hv1
    generalize l.length = n at *
    generalize ha : aAt l i = a at *
    go_enter Try.func51, Try.ntmps51
    go_wp2
    go_ret
    exact ⟨rfl, rfl⟩
  · subst hv1
    have h10 : aAt l i = 0 := by unfold aAt; rw [List.getElem?_eq_none (by omega)]; rfl
    clear h
    generalize l.length = n at *
    go_enter Try.func51, Try.ntmps51
    go_wp2
    go_ret
    exact ⟨by rw [h10]; rfl, rfl⟩
end Go.Proofs.Ytimnkcjpgglpdaa
