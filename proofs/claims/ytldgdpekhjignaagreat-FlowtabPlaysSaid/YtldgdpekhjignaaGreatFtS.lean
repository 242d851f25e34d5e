/-
  PLAIN: chapter 26: a flow that was learnt has that node till its entry goes. No condition.
-/
import Derived.Test.YtldgdpekhjignaaGreatFtR
set_option linter.unusedVariables false
set_option linter.unusedSimpArgs false
namespace Go.Proofs.YtldgdpekhjignaaGreat.Ft
open Go.RowKit Go.Maps

section
variable {n : Nat} {s : Sx} {o : Op6} {L : List En}
theorem nd_eq (h : (L.map En.fl).Nodup) {a b : En} (ha : a ∈ L) (hb : b ∈ L) (e : a.fl = b.fl) : a = b := by
  obtain ⟨i, hi⟩ := List.getElem?_of_mem ha
  obtain ⟨j, hj⟩ := List.getElem?_of_mem hb
  have h1 : (L.map En.fl)[i]? = some a.fl := by rw [List.getElem?_map, hi]; rfl
  have h2 : (L.map En.fl)[j]? = some a.fl := by rw [List.getElem?_map, hj, e]; rfl
  have hl : i < (L.map En.fl).length := (List.getElem?_eq_some_iff.1 h1).1
  have := (List.getElem?_inj hl h).1 (h1.trans h2.symm)
  subst this
  rw [hi] at hj
  exact Option.some.inj hj
theorem getE_mem {f : Fl} {e : En} (h : getE L f = some e) : e ∈ L ∧ e.fl = f := by
  unfold getE at h
  exact ⟨List.mem_of_find?_eq_some h, by simpa using List.find?_some h⟩
theorem getE_of (hn : (L.map En.fl).Nodup) {e : En} (he : e ∈ L) : getE L e.fl = some e := by
  cases h : getE L e.fl with
  | none =>
    unfold getE at h
    rw [List.find?_eq_none] at h
    have := h e he
    simp at this
  | some x =>
    obtain ⟨h1, h2⟩ := getE_mem h
    rw [nd_eq hn h1 he h2]
theorem mem_outE {f : Fl} {x : En} (h : x ∈ outE L f) : x ∈ L := (List.mem_filter.1 h).1
theorem mem_addL {x : En} (h : x ∈ addL n L) : x ∈ L := by
  unfold addL at h
  split at h
  · exact List.dropLast_subset _ h
  · exact h
/-- Its node stays. -/
theorem do_sticks (hn : (s.L.map En.fl).Nodup) {e : En} (he : e ∈ s.L) (h0 : e.node ≠ 0) : ∀ x ∈ (doS n s o).1.L, x.fl = e.fl → x.node = e.node := by
  have old : ∀ x ∈ s.L, x.fl = e.fl → x.node = e.node := fun x hx hf => by rw [nd_eq hn hx he hf]
  have new : ∀ {y : En}, getE s.L o.f = some y → ∀ {z : En}, z.fl = y.fl → z.node = y.node → ∀ x ∈ z :: outE s.L o.f, x.fl = e.fl → x.node = e.node := by
    intro y hy z hzf hzn x hx hf
    rcases List.mem_cons.1 hx with rfl | hx
    · rw [hzn]; exact old y (getE_mem hy).1 (by rw [← hzf]; exact hf)
    · exact old x (mem_outE hx) hf
  have add : ∀ {node st : Int}, getE s.L o.f = none → ∀ x ∈ (addS n s o.f node st).L, x.fl = e.fl → x.node = e.node := by
    intro node st hy x hx hf
    rcases List.mem_cons.1 hx with rfl | hx
    · have h1 := getE_of hn he
      rw [← hf] at h1
      rw [hy] at h1
      cases h1
    · exact old x (mem_addL hx) hf
  unfold doS
  split
  · unfold lookS
    split
    · exact old
    · next y hy =>
      split
      · exact old
      · exact new hy rfl rfl
  · split
    · unfold pendS
      split
      · next hy => exact add hy
      · next y hy =>
        split
        · exact new hy rfl rfl
        · exact old
    · split
      · unfold learnS
        split
        · exact old
        · split
          · next hy => exact add hy
          · next y hy =>
            split
            · exact new hy rfl rfl
            · split
              · next h1 h2 =>
                intro x hx hf
                have hye : y.fl = e.fl → False := fun h => h0 (by rw [← nd_eq hn (getE_mem hy).1 he h]; exact h2)
                rcases List.mem_cons.1 hx with rfl | hx
                · exact absurd hf (fun h => hye h)
                · exact old x (mem_outE hx) hf
              · exact old
      · split
        · unfold forgetS
          split
          · exact old
          · exact fun x hx hf => old x (mem_outE hx) hf
        · exact fun x hx hf => old x (List.mem_filter.1 hx).1 hf
/-- A segment of it is looked up as that node's. -/
theorem do_looked (hn : (s.L.map En.fl).Nodup) {e : En} (he : e ∈ s.L) (h0 : e.node ≠ 0) (hk : o.kind.tmod 9 = 0 ∨ o.kind.tmod 9 = 1) (hf : o.f = e.fl) : (doS n s o).2 = (e.node, true) := by
  rw [do_look hk, hf, look_some (getE_of hn he) h0]
end
end Go.Proofs.YtldgdpekhjignaaGreat.Ft
