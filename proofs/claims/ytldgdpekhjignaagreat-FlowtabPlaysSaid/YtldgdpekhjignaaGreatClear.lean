/-
  MEMORY: 'clear' on a part of a row of records; a row of records, written record by record. No condition.
-/
import Derived.Test.YtldgdpekhjignaaGreatMem
import Derived.Test.YtldgdpekhjignaaGreatStruct
import Derived.Laws.IdiomCopy
set_option linter.unusedVariables false
set_option linter.unusedSimpArgs false
namespace Go.Proofs.YtldgdpekhjignaaGreat
open Go.RowKit

theorem run_clear_blk {P : Program} {w : World} {g : Nat} {t : TypeId} {cs : Array Value} (hb : Blk w g t cs) (tS e ty : TypeId) (z : Value) (s : Nat) (ht : P.underlying tS = some (.slice e)) (hv : (zeroValue e).run P w = .ok z w)
    (h1 : ∀ v ∈ z.cells, v.oneCell' = true) (hs : z.cells.size = s) (hs0 : 0 < s) (o n c : Nat) (hfit : o + n * s ≤ cs.size) :
    ∃ vs : List Value, vs.length = n * s ∧ (Builtin.clear_ #[tS] ty #[.slice (some ⟨g, o, none⟩) n c]).run P w = .ok (.tuple #[]) (w.setCells g o vs) := by
  rcases Nat.eq_zero_or_pos n with h0 | h0
  · subst h0
    exact ⟨[], by simp, by simp [Builtin.clear_, run_underlying ht, World.setCells]⟩
  · have hl : (Builtin.zeroCells z.cells n).toList.length = n * s := by simp [Builtin.zeroCells, hs]
    refine ⟨(Builtin.zeroCells z.cells n).toList, hl, ?_⟩
    have hst := run_storeCells_cells (P := P) g o (Builtin.zeroCells z.cells n).toList 0 w (fun j hj => by
        rw [Nat.add_zero, hb.cell, Array.getElem?_eq_getElem (by rw [hl] at hj; omega)]; rfl) (fun j hj => hb.frozen _) (fun v hv' => by
        have hv2 : v ∈ (Builtin.zeroCells z.cells n) := by simpa using hv'
        unfold Builtin.zeroCells at hv2
        obtain ⟨i, hi, rfl⟩ := Array.mem_map.1 hv2
        have hm : i % z.cells.size < z.cells.size := Nat.mod_lt _ (by omega)
        rw [getElem!_pos z.cells _ hm]
        exact h1 _ (Array.getElem_mem hm))
    simp only [Nat.add_zero] at hst
    obtain ⟨m, rfl⟩ : ∃ m, n = m + 1 := ⟨n - 1, by omega⟩
    simp [Builtin.clear_, run_underlying ht, hv, hst]

theorem run_clear_all {P : Program} {w : World} {g : Nat} {t : TypeId} {cs : Array Value} (hb : Blk w g t cs) (tS e : TypeId) (z : Value) (s : Nat) (ht : P.underlying tS = some (.slice e)) (hv : (zeroValue e).run P w = .ok z w)
    (h1 : ∀ v ∈ z.cells, v.oneCell' = true) (hs : z.cells.size = s) (hs0 : 0 < s) (o n c : Nat) (hfit : o + n * s ≤ cs.size) :
    ∃ vs : List Value, vs.length = n * s ∧ ∀ ty, (Builtin.clear_ #[tS] ty #[.slice (some ⟨g, o, none⟩) n c]).run P w = .ok (.tuple #[]) (w.setCells g o vs) := by
  obtain ⟨vs, hl, hr⟩ := run_clear_blk hb tS e 0 z s ht hv h1 hs hs0 o n c hfit
  exact ⟨vs, hl, fun ty => hr⟩

/-- The block's first cells, record by record. -/
def RowB {α : Type} (enc : α → List Value) (s : Nat) (w : World) (g : Nat) (t : TypeId) (c : Nat) (l : List α) : Prop :=
  ∃ cs : Array Value, Blk w g t cs ∧ cs.size = c ∧ cs.toList.take (l.length * s) = l.flatMap enc
section
variable {α : Type} {enc : α → List Value} {s : Nat} {w w' : World} {g : Nat} {t : TypeId} {c : Nat} {l : List α}
theorem RowB.chg {S : List Nat} (h : RowB enc s w g t c l) (hc : Chg S w w') (hg : g ∉ S) : RowB enc s w' g t c l := by
  obtain ⟨cs, hb, r⟩ := h
  exact ⟨cs, hb.chg hc hg, r⟩
theorem RowB.lt (h : RowB enc s w g t c l) : g < w.heap.size := by
  obtain ⟨cs, hb, _⟩ := h
  exact hb.lt
theorem RowB.at_ (he : ∀ x, (enc x).length = s) (h : RowB enc s w g t c l) {i : Nat} {x : α} (hx : l[i]? = some x) {j : Nat} {v : Value} (hv : (enc x)[j]? = some v) : w.cell? ⟨g, i * s + j, none⟩ = some v ∧ w.frozen? ⟨g, i * s + j, none⟩ = false := by
  obtain ⟨cs, hb, hc, ht⟩ := h
  have hj : j < s := by have := (List.getElem?_eq_some_iff.1 hv).1; rwa [he] at this
  have hi : i < l.length := (List.getElem?_eq_some_iff.1 hx).1
  have hlt : i * s + j < l.length * s := by have := Nat.mul_le_mul_right s (show i + 1 ≤ l.length from hi); rw [Nat.add_mul, Nat.one_mul] at this; omega
  refine ⟨?_, hb.frozen _⟩
  rw [hb.cell, ← Array.getElem?_toList, ← List.getElem?_take_of_lt hlt, ht, flat_at he l i j hj, hx]
  exact hv
theorem putAt_take (he : ∀ x, (enc x).length = s) {cs : Array Value} {i : Nat} (x : α) (hi : i < l.length) (ht : cs.toList.take (l.length * s) = l.flatMap enc) (hsz : l.length * s ≤ cs.size) :
    (putAt cs (i * s) (enc x)).toList.take (l.length * s) = (l.set i x).flatMap enc := by
  apply List.ext_getElem?
  intro q
  by_cases hq : q < l.length * s
  · have hs0 : 0 < s := by rcases Nat.eq_zero_or_pos s with h | h; (subst h; simp at hq); exact h
    have e0 : q / s * s + q % s = q := by rw [Nat.mul_comm]; exact Nat.div_add_mod q s
    have hm : q % s < s := Nat.mod_lt _ hs0
    rw [List.getElem?_take_of_lt hq, Array.getElem?_toList, putAt_get _ _ _ _ (by omega), he]
    rw [← e0, flat_at he (l.set i x) _ _ hm, e0]
    by_cases hqi : q / s = i
    · have h1 : i * s ≤ q ∧ q < i * s + s := by rw [hqi] at e0; omega
      have h2 : q - i * s = q % s := by rw [hqi] at e0; omega
      rw [if_pos h1, h2, hqi, List.getElem?_set_self hi]
      rfl
    · have h1 : ¬ (i * s ≤ q ∧ q < i * s + s) := fun h => hqi (by
        have : q / s = i := by
          rw [Nat.div_eq_iff hs0]; omega
        exact this)
      rw [if_neg h1, List.getElem?_set_ne (Ne.symm hqi), ← flat_at he l _ _ hm, e0, ← ht, List.getElem?_take_of_lt hq, Array.getElem?_toList]
  · rw [List.getElem?_eq_none (by rw [List.length_take]; omega), List.getElem?_eq_none (by rw [flat_len he, List.length_set]; omega)]
/-- One record is written. -/
theorem RowB.put (he : ∀ x, (enc x).length = s) (h : RowB enc s w g t c l) {i : Nat} (x : α) (hi : i < l.length) (hsz : l.length * s ≤ c) : RowB enc s (w.setCells g (i * s) (enc x)) g t c (l.set i x) := by
  obtain ⟨cs, hb, hc, ht⟩ := h
  exact ⟨_, Blk.setCells _ _ _ hb, by rw [putAt_size]; exact hc, by rw [List.length_set]; exact putAt_take he x hi ht (by omega)⟩
/-- What lies behind the first k records is written. -/
theorem RowB.cut (he : ∀ x, (enc x).length = s) (h : RowB enc s w g t c l) {k : Nat} (vs : List Value) (hk : k ≤ l.length) (hsz : l.length * s ≤ c) : RowB enc s (w.setCells g (k * s) vs) g t c (l.take k) := by
  obtain ⟨cs, hb, hc, ht⟩ := h
  refine ⟨_, Blk.setCells _ _ _ hb, by rw [putAt_size]; exact hc, ?_⟩
  have hkl : (l.take k).length = k := by rw [List.length_take]; omega
  have hks : k * s ≤ l.length * s := Nat.mul_le_mul_right _ hk
  rw [hkl, ← flat_take he, ← ht, List.take_take, Nat.min_eq_left hks]
  apply List.ext_getElem?
  intro q
  by_cases hq : q < k * s
  · rw [List.getElem?_take_of_lt hq, List.getElem?_take_of_lt hq, Array.getElem?_toList, Array.getElem?_toList, putAt_get _ _ _ _ (by omega), if_neg (by omega)]
  · rw [List.getElem?_take_eq_none (by omega), List.getElem?_take_eq_none (by omega)]
end
end Go.Proofs.YtldgdpekhjignaaGreat
