/-
  WALKS over package conns: Tick. Condition: a table that New made, at most 900 calls.
-/
import Derived.Test.YtgbdbeaflilmlaaConnU
import Derived.Test.YtgbdbeaflilmlaaFlowSf2
set_option linter.unusedVariables false
set_option linter.unusedSimpArgs false
namespace Go.Proofs.Ytgbdbeaflilmlaa
open Go.RowKit Go.Maps

def ApC (A B : List Nat) : Prop := ∀ x ∈ A, x ∉ B
def lenC : Value → Nat
  | .slice _ n _ => n
  | _ => 0
theorem lenC_own {w : World} {base size n : Nat} {e : TypeId} {v : Value} {xs : List Value} (h : w.ownsRow base e size v n xs) : lenC v = n := by
  rcases h.2 with ⟨rfl, h0⟩ | ⟨g, cap, cur, rfl, _⟩
  · simp [lenC, h0]
  · rfl
/-! Plain: which flows have gone. -/
def leftC (l : List (En × Int)) (fs : List Fl) : List (En × Int) := l.filter fun p => !decide (flC p ∈ fs)
theorem leftC_nil (l : List (En × Int)) : leftC l [] = l := List.filter_eq_self.2 (fun p _ => by simp)
theorem mem_leftC {l : List (En × Int)} {fs : List Fl} {p : En × Int} : p ∈ leftC l fs ↔ p ∈ l ∧ flC p ∉ fs := by simp [leftC]
theorem leftC_snoc (l : List (En × Int)) (fs : List Fl) (f : Fl) : dropL (leftC l fs) f = leftC l (fs ++ [f]) := by
  unfold dropL leftC
  rw [List.filter_filter]
  refine List.filter_congr fun p _ => ?_
  by_cases h1 : flC p ∈ fs <;> by_cases h2 : flC p = f <;> simp [h1, h2]
/-- The flows that have gone so far. -/
structure GoneF (K : Nat) (c : TC) (fs : List Fl) : Prop where
  nd : fs.Nodup
  du : ∀ f ∈ fs, ∃ p ∈ c.l, flC p = f ∧ p.1.til ≤ c.now + 1
theorem GoneF.nil (K : Nat) (c : TC) : GoneF K c [] := ⟨by simp, by simp⟩
theorem GoneF.snoc {K : Nat} {c : TC} {fs : List Fl} (h : GoneF K c fs) {p : En × Int} (hp : p ∈ leftC c.l fs) (hd : p.1.til ≤ c.now + 1) : GoneF K c (fs ++ [p.1.fl]) := by
  obtain ⟨h1, h2⟩ := mem_leftC.1 hp
  refine ⟨List.nodup_append.2 ⟨h.nd, by simp, fun a ha b hb e => ?_⟩, fun f hf => ?_⟩
  · simp at hb; subst hb; subst e; exact h2 ha
  · rcases List.mem_append.1 hf with hf | hf
    · exact h.du f hf
    · simp at hf; subst hf; exact ⟨p, h1, rfl, hd⟩
theorem GoneF.len {K : Nat} {c : TC} {fs : List Fl} (h : GoneF K c fs) : fs.length ≤ c.l.length := by
  have : fs.length ≤ (c.l.map flC).length := h.nd.length_le_of_subset (fun f hf => by
    obtain ⟨p, hp, rfl, _⟩ := h.du f hf
    exact List.mem_map.2 ⟨p, hp, rfl⟩)
  simpa using this
theorem GoneF.room {K : Nat} {c : TC} {fs : List Fl} (h : GoneF K c fs) {p : En × Int} (hp : p ∈ leftC c.l fs) (hd : p.1.til ≤ c.now + 1) : fs.length < c.l.length := by
  have := (h.snoc hp hd).len
  simp at this
  omega
theorem GoneF.fin {K : Nat} {c : TC} {fs : List Fl} (h : GoneF K c fs) (hci : CI K c) (hl : ∀ p ∈ leftC c.l fs, c.now + 1 < p.1.til) : leftC c.l fs = (tickC c).l ∧ (onceF fs).Perm (goneC c) := by
  have key : ∀ p ∈ c.l, (flC p ∈ fs ↔ ¬ c.now + 1 < p.1.til) := by
    intro p hp
    constructor
    · intro hf
      obtain ⟨p', hp', e, hd⟩ := h.du _ hf
      have := hci.same hp' hp e
      subst this; omega
    · intro hn
      by_cases hf : flC p ∈ fs
      · exact hf
      · exact absurd (hl p (mem_leftC.2 ⟨hp, hf⟩)) hn
  constructor
  · show c.l.filter _ = c.l.filter _
    refine List.filter_congr fun p hp => ?_
    have := key p hp
    by_cases h1 : flC p ∈ fs
    · rw [decide_eq_true h1, decide_eq_false (this.1 h1)]; rfl
    · rw [decide_eq_false h1, decide_eq_true (by by_cases h2 : c.now + 1 < p.1.til; exact h2; exact absurd (this.2 h2) h1)]; rfl
  · have hnd : (goneC c).Nodup := by
      unfold goneC
      exact hci.nd.sublist (List.filter_sublist.map _)
    refine (List.perm_ext_iff_of_nodup (nodup_onceF fs) hnd).2 fun f => ?_
    rw [mem_onceF]
    unfold goneC
    constructor
    · intro hf
      obtain ⟨p, hp, rfl, hd⟩ := h.du _ hf
      exact List.mem_map.2 ⟨p, List.mem_filter.2 ⟨hp, by simp; omega⟩, rfl⟩
    · intro hf
      obtain ⟨p, hp, rfl⟩ := List.mem_map.1 hf
      obtain ⟨h1, h2⟩ := List.mem_filter.1 hp
      exact (key p h1).2 (by simpa using h2)
/-- The queue's next one is the earliest. -/
theorem next_late {its : List It} {l : List (En × Int)} {now : Int} (hok : Heap.OK ltI its) (hpm : (its.map fun x => (x.at_, x.id)).Perm (l.map fun p => (p.1.til, p.2))) (hn : ∀ x, its[0]? = some x → now < x.at_) : ∀ p ∈ l, now < p.1.til := by
  intro p hp
  have h1 : (p.1.til, p.2) ∈ its.map fun x => (x.at_, x.id) := hpm.mem_iff.2 (List.mem_map.2 ⟨p, hp, rfl⟩)
  obtain ⟨y, hy, ey⟩ := List.mem_map.1 h1
  obtain ⟨k, hk⟩ := List.mem_iff_getElem?.1 hy
  have h0 : 0 < its.length := List.length_pos_of_mem hy
  obtain ⟨x, hx⟩ : ∃ x, its[0]? = some x := ⟨its[0], List.getElem?_eq_getElem h0⟩
  have hl := hok.least ltI_lt hx k y hk
  have hxn := hn x hx
  simp at ey
  unfold ltI at hl
  split at hl
  · omega
  · simp at hl; omega
theorem next_due {its : List It} {l : List (En × Int)} {x : It} (hpm : (its.map fun x => (x.at_, x.id)).Perm (l.map fun p => (p.1.til, p.2))) (hx : its[0]? = some x) : ∃ p ∈ l, p.1.til = x.at_ ∧ p.2 = x.id := by
  have h1 : (x.at_, x.id) ∈ l.map fun p => (p.1.til, p.2) := hpm.mem_iff.1 (List.mem_map.2 ⟨x, List.mem_of_getElem? hx, rfl⟩)
  obtain ⟨p, hp, e⟩ := List.mem_map.1 h1
  simp at e
  exact ⟨p, hp, e.1, e.2⟩
theorem next_rest {K : Nat} {c : TC} {its its2 its3 : List It} {x : It} {p : En × Int} (hci : CI K c) (hpm : (its.map fun x => (x.at_, x.id)).Perm (c.l.map fun p => (p.1.til, p.2))) (h2 : its.Perm (x :: its2)) (hp : p ∈ c.l) (hx : p.2 = x.id) (h3 : its3.Perm (stayI p.2 its2)) :
    (its3.map fun x => (x.at_, x.id)).Perm ((dropL c.l p.1.fl).map fun p => (p.1.til, p.2)) := by
  refine (h3.map _).trans ?_
  have h4 := ((h2.map fun x => (x.at_, x.id)).symm.trans hpm).filter (fun q => !(q.2 == p.2))
  rw [List.map_cons, List.filter_cons, List.filter_map, List.filter_map] at h4
  simp only [hx, BEq.rfl, Bool.not_true, Bool.false_eq_true, if_false] at h4
  show List.Perm _ ((dropL c.l (flC p)).map _)
  rw [drop_no hci hp, hx]
  exact h4
/-! The memory while the tick goes. -/
structure TJC (w wr : World) (tb m1 m2 m3 q nn : Nat) (vs : Value) (sq : Int) (its : List It) (c : TC) (S : List Nat) (v : Value) (fs : List Fl) : Prop where
  r : CtR wr tb m1 m2 m3 q nn vs sq its c
  own : wr.ownsRow w.heap.size 73 34 v fs.length (fs.flatMap encF)
  ap : ApC v.ownBlock.toList (footT tb m1 m2 m3 q vs)
  chg : Chg S w wr
  foot : ∀ x ∈ footT tb m1 m2 m3 q vs, x ∈ S ∨ w.heap.size ≤ x
section
variable {w wr w1 w2 : World} {tb m1 m2 m3 q nn : Nat} {vs : Value} {sq : Int} {its : List It} {c : TC} {S : List Nat} {v : Value} {fs : List Fl}
theorem TJC.chg0 (h : TJC w wr tb m1 m2 m3 q nn vs sq its c S v fs) (hc : Chg [] wr w1) : TJC w w1 tb m1 m2 m3 q nn vs sq its c S v fs :=
  ⟨h.r.chg0 hc, own_chg h.own hc (by simp), h.ap, h.chg.trans (hc.more (by simp)), h.foot⟩
theorem CtR.turn (h : CtR w tb m1 m2 m3 q nn vs sq its c) {sq' : Int} {P : List It → Prop} (hT : Turned w q vs sq' P w1) : ∃ vs' its', CtR w1 tb m1 m2 m3 q nn vs' sq' its' c ∧ P its' ∧ Chg (footQ q vs) w w1 ∧ ∀ x ∈ footQ q vs', x ∈ footQ q vs ∨ w.heap.size ≤ x := by
  obtain ⟨vs', its', hqr, hok, hp, hcq, hfq⟩ := hT
  obtain ⟨f1, f2, f3, f4⟩ := h.d2
  have hlt := h.lt
  have key : ∀ {x : Nat}, x ∈ footT tb m1 m2 m3 q vs → x ∉ footQ q vs → x ∉ footQ q vs' := fun {x} hx hn hm => (hfq x hm).elim hn (fun h3 => by have := hlt x hx; omega)
  obtain ⟨s2, h2⟩ := h.on
  obtain ⟨s3, h3⟩ := h.of
  exact ⟨vs', its', ⟨h.blk.chg hcq f1, h.oe.chg hcq f2, ⟨s2, h2.chg hcq f3⟩, ⟨s3, h3.chg hcq f4⟩, ⟨hqr, hok⟩, h.d1, key (x := tb) (by simp [footT]) f1, key (x := m1) (by simp [footT]) f2, key (x := m2) (by simp [footT]) f3, key (x := m3) (by simp [footT]) f4⟩, hp, hcq, hfq⟩
theorem footT_grow {vs' : Value} {n : Nat} (h : ∀ x ∈ footQ q vs', x ∈ footQ q vs ∨ n ≤ x) : ∀ x ∈ footT tb m1 m2 m3 q vs', x ∈ footT tb m1 m2 m3 q vs ∨ n ≤ x := by
  intro x hx
  simp only [footT, List.mem_cons] at hx ⊢
  rcases hx with h1 | h1 | h1 | h1 | h1
  · exact .inl (.inl h1)
  · exact .inl (.inr (.inl h1))
  · exact .inl (.inr (.inr (.inl h1)))
  · exact .inl (.inr (.inr (.inr (.inl h1))))
  · exact (h x h1).imp (fun k => .inr (.inr (.inr (.inr k)))) id
/-- The table has changed; the row has not. -/
theorem TJC.move (h : TJC w wr tb m1 m2 m3 q nn vs sq its c S v fs) {vs' : Value} {its' : List It} {c' : TC} (hr : CtR w1 tb m1 m2 m3 q nn vs' sq its' c') (hc : Chg (footT tb m1 m2 m3 q vs) wr w1) (hf : ∀ x ∈ footQ q vs', x ∈ footQ q vs ∨ wr.heap.size ≤ x) : TJC w w1 tb m1 m2 m3 q nn vs' sq its' c' S v fs := by
  have hg := footT_grow (tb := tb) (m1 := m1) (m2 := m2) (m3 := m3) hf
  refine ⟨hr, own_chg h.own hc h.ap, fun x hx hm => ?_, h.chg.trans' hc h.foot, fun x hx => ?_⟩
  · rcases hg x hm with k | k
    · exact h.ap x hx k
    · have := (own_lt h.own x hx).2; omega
  · rcases hg x hx with k | k
    · exact h.foot x k
    · exact .inr (Nat.le_trans h.chg.size k)
theorem TJC.turn (h : TJC w wr tb m1 m2 m3 q nn vs sq its c S v fs) {P : List It → Prop} (hT : Turned wr q vs sq P w1) : ∃ vs' its', TJC w w1 tb m1 m2 m3 q nn vs' sq its' c S v fs ∧ P its' := by
  obtain ⟨vs', its', hr, hp, hc, hf⟩ := h.r.turn hT
  exact ⟨vs', its', h.move hr (hc.more (fun x hx => by simp [footT]; exact .inr (.inr (.inr (.inr hx))))) hf, hp⟩
/-- The row has grown. -/
theorem TJC.app (h : TJC w wr tb m1 m2 m3 q nn vs sq its c S v fs) {v' : Value} {fs' : List Fl} (ho : w1.ownsRow w.heap.size 73 34 v' fs'.length (fs'.flatMap encF)) (hc : Chg v.ownBlock.toList wr w1) (hb : v'.ownBlock = v.ownBlock ∨ v'.ownBlock = some wr.heap.size) : TJC w w1 tb m1 m2 m3 q nn vs sq its c S v' fs' := by
  refine ⟨h.r.chg hc (fun x hx hm => h.ap x hm hx), ho, fun x hx hm => ?_, h.chg.trans' hc (fun x hx => .inr (own_lt h.own x hx).1), h.foot⟩
  rcases hb with e | e
  · rw [e] at hx; exact h.ap x hx hm
  · rw [e] at hx
    simp at hx
    have := h.r.lt x hm
    omega
end
end Go.Proofs.Ytgbdbeaflilmlaa
