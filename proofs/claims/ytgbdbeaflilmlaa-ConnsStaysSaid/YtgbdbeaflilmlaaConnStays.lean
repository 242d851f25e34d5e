/-
  WALK: ConnsStays. Condition: at most maxLen operations; each number is one of its kind.
-/
import Derived.Test.YtgbdbeaflilmlaaConnL
import Derived.Test.YtgbdbeaflilmlaaEnEq
set_option linter.unusedVariables false
set_option linter.unusedSimpArgs false
namespace Go.Proofs.Ytgbdbeaflilmlaa
open Go.RowKit Go.Maps

theorem SlO3.chg0 {w w' : World} {B : Nat} {v : Value} {l : List Op3} (h : SlO3 w B v l) (hc : Chg [] w w') : SlO3 w' B v l := Sl.chg0 h hc
theorem SlO3.one {w : World} {B : Nat} {A : Option Addr} {n c : Nat} {l : List Op3} (h : SlO3 w B (.slice A n c) l) {i : Nat} {x : Op3} (hx : l[i]? = some x) :
    ∃ b o, A = some ⟨b, o, none⟩ ∧ w.cell? ⟨b, o + i * 47, none⟩ = some (.int .i64 x.kind) ∧ w.rangeAt b (o + i * 47 + 1) (arrN x.e).toList := by
  obtain ⟨b, o, c', hv, _, _, hc⟩ := Sl.rec encO3_len (by omega) h hx
  simp only [Value.slice.injEq] at hv
  obtain ⟨rfl, _, _⟩ := hv
  refine ⟨b, o, rfl, hc 0 (by omega), fun j u hu => ?_⟩
  have hj : j < 46 := by have := (List.getElem?_eq_some_iff.1 hu).1; exact this
  have := hc (1 + j) (by omega)
  rw [show o + i * 47 + 1 + j = o + (i * 47 + (1 + j)) by omega, this]
  show (encO3 x)[1 + j]? = some u
  unfold encO3
  rw [show 1 + j = j + 1 by omega, List.getElem?_cons_succ]
  exact hu
theorem CI.iff {K : Nat} {c : TC} (h : CI K c) {f : Fl} {p : En × Int} : getC c f = some p ↔ p ∈ c.l ∧ flC p = f :=
  ⟨getC_some, fun ⟨h1, h2⟩ => by rw [← h2]; exact h.get h1⟩
/-- The entry that was put is there till its tick. -/
structure StI (e : En) (n : Int) (c : TC) : Prop where
  n : c.n = n
  now : 0 ≤ c.now
  yes : c.now = 0 ∨ c.now < e.til → getC c e.fl = some (e, 1)
  no : ¬ (c.now = 0 ∨ c.now < e.til) → getC c e.fl = none
theorem StI.drop {e : En} {n : Int} {c : TC} (h : StI e n c) {K : Nat} (hci : CI K c) {f : Fl} (hf : f ≠ e.fl) : StI e n (dropC c f) := by
  have hd := hci.drop f
  refine ⟨h.n, h.now, fun hy => ?_, fun hn => ?_⟩
  · have := hci.iff.1 (h.yes hy)
    exact hd.iff.2 ⟨mem_dropL.2 ⟨this.1, fun e2 => hf (e2.symm.trans this.2)⟩, this.2⟩
  · have := h.no hn
    cases hg : getC (dropC c f) e.fl with
    | none => rfl
    | some p =>
      have h1 := hd.iff.1 hg
      have h2 := (mem_dropL.1 h1.1).1
      exact absurd h1.2 (getC_none this p h2)
theorem StI.put {e x : En} {n : Int} {c : TC} (h : StI e n c) {K : Nat} (hci : CI K c) (hx : okF x.fl) (hf : x.fl ≠ e.fl) : StI e n (putC c x).1 := by
  unfold putC
  split
  · exact h
  · split
    · exact h
    · next h1 h2 =>
      have hd := h.drop hci hf
      have hcd := hci.drop x.fl
      have hr : hasC c x.fl = true ∨ (c.l.length : Int) < c.n := by
        cases hh : hasC c x.fl with
        | true => exact .inl rfl
        | false => exact .inr (by by_cases h3 : (c.l.length : Int) < c.n; exact h3; exact absurd ⟨hh, by omega⟩ h2)
      have hp := hci.put hx hr
      refine ⟨h.n, h.now, fun hy => ?_, fun hn => ?_⟩
      · have := hcd.iff.1 (hd.yes hy)
        exact hp.iff.2 ⟨List.mem_append.2 (.inl this.1), this.2⟩
      · have := hd.no hn
        cases hg : getC ⟨c.n, c.now, c.last + 1, dropL c.l x.fl ++ [(x, c.last + 1)]⟩ e.fl with
        | none => rfl
        | some p =>
          have h1 := hp.iff.1 hg
          rcases List.mem_append.1 h1.1 with h2 | h2
          · exact absurd h1.2 (getC_none this p h2)
          · simp at h2
            subst h2
            exact absurd h1.2 hf
theorem StI.tick {e : En} {n : Int} {c : TC} (h : StI e n c) {K : Nat} (hci : CI K c) : StI e n (tickC c) := by
  have ht := hci.tick
  have hn0 := h.now
  refine ⟨h.n, by show (0 : Int) ≤ c.now + 1; omega, fun hy => ?_, fun hn => ?_⟩
  · have hy2 : c.now + 1 < e.til := by rcases hy with h1 | h1; have : c.now + 1 = 0 := h1; omega; exact h1
    have := hci.iff.1 (h.yes (.inr (by omega)))
    exact ht.iff.2 ⟨List.mem_filter.2 ⟨this.1, by simpa using hy2⟩, this.2⟩
  · have hn2 : ¬ (c.now + 1 < e.til) := fun h1 => hn (.inr h1)
    cases hg : getC (tickC c) e.fl with
    | none => rfl
    | some p =>
      have h1 := ht.iff.1 hg
      have h2 := List.mem_filter.1 h1.1
      by_cases hb : c.now = 0 ∨ c.now < e.til
      · have h3 := hci.iff.1 (h.yes hb)
        have := hci.same h3.1 h2.1 (h3.2.trans h1.2.symm)
        subst this
        have := h2.2
        simp at this
        exact absurd this hn2
      · exact absurd h1.2 (getC_none (h.no hb) p h2.1)
theorem StI.start {e : En} {n : Int} : StI e n ⟨n, 0, 1, [(e, 1)]⟩ := by
  refine ⟨rfl, Int.le_refl _, fun _ => ?_, fun h => absurd (.inl rfl) h⟩
  simp [getC]
end Go.Proofs.Ytgbdbeaflilmlaa
