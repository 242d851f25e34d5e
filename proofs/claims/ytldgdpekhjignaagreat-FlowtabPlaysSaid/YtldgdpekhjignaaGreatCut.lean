/-
  CUTS OF A SLICE: what a cut gives, as one equation for every world, and that it reads as the part. No condition.
-/
import Derived.Test.YtldgdpekhjignaaGreatMem
set_option linter.unusedVariables false
set_option linter.unusedSimpArgs false
namespace Go.Proofs.YtldgdpekhjignaaGreat
open Go.RowKit

/-! Cuts of a slice, as one equation each: 'v[lo:hi]', 'v[lo:]', 'v[:hi]'. -/
section
variable {P : Program} {t e : TypeId} {z : Value} {size bytes : Nat} {w : World}
theorem cut_mid (el : El P t e z size bytes) {A : Option Addr} {n c lo hi B : Nat} {xs : List Value} (h : Sl w B size (.slice A n c) n xs) (h1 : lo ≤ hi) (h2 : hi ≤ n) :
    ∃ X, (∀ W : World, (Instr.slice t (.slice A n c) (some (.int .i64 (lo : Int))) (some (.int .i64 (hi : Int))) none).run P W = .ok (.slice X (hi - lo) (c - lo)) W) ∧
      Sl w B size (.slice X (hi - lo) (c - lo)) (hi - lo) ((xs.drop (lo * size)).take ((hi - lo) * size)) := by
  obtain ⟨i, hi0, hz, hs, hb⟩ := info_parts el.info
  have hcap : n ≤ c := by
    obtain ⟨_, A', c', hv, hc, _⟩ := h
    simp only [Value.slice.injEq, true_and] at hv
    omega
  refine ⟨if c = lo then A else A.map (·.add (lo * size)), fun W => ?_, ?_⟩
  · have e2 : hi ≤ c := by omega
    simp [Instr.slice, run_underlying el.ht, Instr.sliceBounds, Instr.sliceBound, asIntOf, h1, e2, sizeOf, typeInfo, hi0, hs, go_sem]
  · have hd := h.drop (k := lo) (by omega)
    have ht := Sl.take hd (k := hi - lo) (by omega)
    exact ht
theorem cut_from (el : El P t e z size bytes) {A : Option Addr} {n c lo B : Nat} {xs : List Value} (h : Sl w B size (.slice A n c) n xs) (h1 : lo ≤ n) :
    ∃ X, (∀ W : World, (Instr.slice t (.slice A n c) (some (.int .i64 (lo : Int))) none none).run P W = .ok (.slice X (n - lo) (c - lo)) W) ∧
      Sl w B size (.slice X (n - lo) (c - lo)) (n - lo) (xs.drop (lo * size)) := by
  obtain ⟨i, hi0, hz, hs, hb⟩ := info_parts el.info
  refine ⟨if c = lo then A else A.map (·.add (lo * size)), fun W => ?_, h.drop h1⟩
  simp [Instr.slice, run_underlying el.ht, Instr.sliceBounds, Instr.sliceBound, asIntOf, h1, sizeOf, typeInfo, hi0, hs, go_sem]
theorem cut_to (el : El P t e z size bytes) {A : Option Addr} {n c hi B : Nat} {xs : List Value} (h : Sl w B size (.slice A n c) n xs) (h2 : hi ≤ n) :
    (∀ W : World, (Instr.slice t (.slice A n c) none (some (.int .i64 (hi : Int))) none).run P W = .ok (.slice A hi c) W) ∧ Sl w B size (.slice A hi c) hi (xs.take (hi * size)) := by
  obtain ⟨i, hi0, hz, hs, hb⟩ := info_parts el.info
  have hcap : n ≤ c := by
    obtain ⟨_, A', c', hv, hc, _⟩ := h
    simp only [Value.slice.injEq, true_and] at hv
    omega
  refine ⟨fun W => ?_, Sl.take h h2⟩
  have e2 : hi ≤ c := by omega
  simp [Instr.slice, run_underlying el.ht, Instr.sliceBounds, Instr.sliceBound, asIntOf, e2, sizeOf, typeInfo, hi0, hs, go_sem]
end
end Go.Proofs.YtldgdpekhjignaaGreat
