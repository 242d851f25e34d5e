/-
  PLAIN: the document's connection table: entries in the order of their flows. No condition.
-/
import Derived.Test.YtgbdbeaflilmlaaConnP
import Derived.Test.YtgbdbeaflilmlaaFlowOrd
set_option linter.unusedVariables false
set_option linter.unusedSimpArgs false
namespace Go.Proofs.Ytgbdbeaflilmlaa
open Go.RowKit Go.Maps

def SrtE (L : List En) : Prop := L.Pairwise fun a b => lessF a.fl b.fl = true
def idxE (L : List En) (f : Fl) : Option Nat := L.findIdx? fun e => decide (e.fl = f)
def rdropL (L : List En) (f : Fl) : List En := match idxE L f with
  | none => L
  | some i => L.take i ++ L.drop (i + 1)
def atE (L : List En) (f : Fl) : Nat := (L.takeWhile fun e => lessF e.fl f).length
def rputL (L : List En) (e : En) : List En := (rdropL L e.fl).take (atE (rdropL L e.fl) e.fl) ++ e :: (rdropL L e.fl).drop (atE (rdropL L e.fl) e.fl)
def busyE (e : En) : Bool := decide (e.kind = 2) && (decide (1 ≤ e.st) && decide (e.st ≤ 3))
/-- The document's table says what the program's says. -/
structure RC (c : TC) (L : List En) : Prop where
  srt : SrtE L
  pm : L.Perm (c.l.map (·.1))
theorem SrtE.nodup {L : List En} (h : SrtE L) : (L.map (·.fl)).Nodup := by
  unfold SrtE at h
  unfold List.Nodup
  rw [List.pairwise_map]
  exact h.imp fun {a b} h e => by rw [e, lessF_irrefl] at h; cases h
theorem SrtE.eq {L L' : List En} (h : SrtE L) (h' : SrtE L') (hp : L.Perm L') : L = L' :=
  List.Perm.eq_of_pairwise (fun a b _ _ h1 h2 => by have := lessF_trans h1 h2; rw [lessF_irrefl] at this; cases this) h h' hp
theorem RC.new (n : Int) : RC ⟨n, 0, 0, []⟩ [] := ⟨List.Pairwise.nil, by simp⟩
theorem idx_none {L : List En} {f : Fl} : idxE L f = none ↔ ∀ e ∈ L, e.fl ≠ f := by
  unfold idxE; rw [List.findIdx?_eq_none_iff]; simp
theorem idx_some {L : List En} {f : Fl} {i : Nat} (h : idxE L f = some i) : ∃ e, L[i]? = some e ∧ e.fl = f := by
  unfold idxE at h
  rw [List.findIdx?_eq_some_iff_getElem] at h
  obtain ⟨hi, h1, _⟩ := h
  exact ⟨L[i], List.getElem?_eq_getElem hi, by simpa using h1⟩
theorem rdrop_filter : ∀ {L : List En} {f : Fl}, (L.map (·.fl)).Nodup → rdropL L f = L.filter fun e => !decide (e.fl = f)
  | [], f, _ => rfl
  | a :: L, f, h => by
    rw [List.map_cons, List.nodup_cons] at h
    have ih := rdrop_filter (f := f) h.2
    unfold rdropL idxE at *
    rw [List.findIdx?_cons, List.filter_cons]
    by_cases ha : a.fl = f
    · have : L.filter (fun e => !decide (e.fl = f)) = L := List.filter_eq_self.2 (fun e he => by
        have : e.fl ≠ f := fun e2 => h.1 (List.mem_map.2 ⟨e, he, e2.trans ha.symm⟩)
        simp [this])
      simp [ha, this]
    · rw [decide_eq_false ha]
      simp only [Bool.false_eq_true, if_false, Bool.not_false, if_true]
      rw [← ih]
      cases L.findIdx? (fun e => decide (e.fl = f)) <;> simp
theorem RC.mem {c : TC} {L : List En} (h : RC c L) {e : En} : e ∈ L ↔ ∃ n, (e, n) ∈ c.l := by
  rw [h.pm.mem_iff, List.mem_map]
  constructor
  · rintro ⟨⟨e', n⟩, hp, rfl⟩; exact ⟨n, hp⟩
  · rintro ⟨n, hp⟩; exact ⟨_, hp, rfl⟩
theorem RC.has {c : TC} {L : List En} (h : RC c L) (f : Fl) : hasC c f = (idxE L f).isSome := by
  cases hi : idxE L f with
  | none =>
    cases hg : getC c f with
    | none => simp [hasC, hg]
    | some p =>
      obtain ⟨h1, h2⟩ := getC_some hg
      exact absurd h2 (idx_none.1 hi p.1 (h.mem.2 ⟨p.2, h1⟩))
  | some i =>
    obtain ⟨e, he, hf⟩ := idx_some hi
    obtain ⟨n, hn⟩ := h.mem.1 (List.mem_of_getElem? he)
    cases hg : getC c f with
    | none => exact absurd hf (getC_none hg _ hn)
    | some p => simp [hasC, hg]
theorem RC.get {K : Nat} {c : TC} {L : List En} (h : RC c L) (hc : CI K c) {f : Fl} {i : Nat} (hi : idxE L f = some i) : ∃ n, getC c f = some (L.getD i eN0, n) := by
  obtain ⟨e, he, hf⟩ := idx_some hi
  obtain ⟨n, hn⟩ := h.mem.1 (List.mem_of_getElem? he)
  refine ⟨n, ?_⟩
  rw [List.getD_eq_getElem?_getD, he]
  have := hc.get hn
  unfold flC at this
  rw [hf] at this
  exact this
theorem RC.len {c : TC} {L : List En} (h : RC c L) : L.length = c.l.length := by have := h.pm.length_eq; simpa using this
theorem RC.drop {c : TC} {L : List En} (h : RC c L) (f : Fl) : RC (dropC c f) (rdropL L f) := by
  rw [rdrop_filter h.srt.nodup]
  refine ⟨h.srt.sublist List.filter_sublist, ?_⟩
  have := h.pm.filter fun e => !decide (e.fl = f)
  rw [List.filter_map] at this
  exact this
theorem rdrop_mem {L : List En} {f : Fl} (h : (L.map (·.fl)).Nodup) {e : En} : e ∈ rdropL L f ↔ e ∈ L ∧ e.fl ≠ f := by rw [rdrop_filter h]; simp
theorem take_while {α : Type} (p : α → Bool) : ∀ l : List α, l.take (l.takeWhile p).length = l.takeWhile p
  | [] => rfl
  | a :: l => by rw [List.takeWhile_cons]; split <;> simp [take_while p l]
theorem drop_while {α : Type} (p : α → Bool) : ∀ l : List α, l.drop (l.takeWhile p).length = l.dropWhile p
  | [] => rfl
  | a :: l => by rw [List.takeWhile_cons, List.dropWhile_cons]; split <;> simp [drop_while p l]
theorem RC.put {c : TC} {L : List En} (h : RC c L) (e : En) (no : Int) : RC ⟨c.n, c.now, no, dropL c.l e.fl ++ [(e, no)]⟩ (rputL L e) := by
  have hd := h.drop e.fl
  have hne : ∀ x ∈ rdropL L e.fl, x.fl ≠ e.fl := fun x hx => ((rdrop_mem h.srt.nodup).1 hx).2
  unfold rputL
  generalize rdropL L e.fl = D at *
  have e1 : D.take (atE D e.fl) = D.takeWhile fun x => lessF x.fl e.fl := take_while _ _
  have e2 : D.drop (atE D e.fl) = D.dropWhile fun x => lessF x.fl e.fl := drop_while _ _
  rw [e1, e2]
  have hsp : D = (D.takeWhile fun x => lessF x.fl e.fl) ++ (D.dropWhile fun x => lessF x.fl e.fl) := List.takeWhile_append_dropWhile.symm
  have hT : ∀ x ∈ D.takeWhile (fun x => lessF x.fl e.fl), lessF x.fl e.fl = true := fun x hx => by
    have := List.all_takeWhile (p := fun x : En => lessF x.fl e.fl) (l := D)
    rw [List.all_eq_true] at this
    exact this x hx
  have hsrt := hd.srt
  unfold SrtE at hsrt
  rw [hsp, List.pairwise_append] at hsrt
  have hW : ∀ x ∈ D.dropWhile (fun x => lessF x.fl e.fl), lessF e.fl x.fl = true := by
    cases hdw : D.dropWhile (fun x => lessF x.fl e.fl) with
    | nil => simp
    | cons a l =>
      have ha : lessF a.fl e.fl = false := by
        have := List.head_dropWhile_not (p := fun x : En => lessF x.fl e.fl) (l := D) (by rw [hdw]; simp)
        simpa [hdw] using this
      have hma : a ∈ D := by rw [hsp, hdw]; simp
      have h1 : lessF e.fl a.fl = true := (lessF_total (hne a hma)).resolve_left (by rw [ha]; simp)
      intro x hx
      rcases List.mem_cons.1 hx with rfl | hx
      · exact h1
      · have h2 := hsrt.2.1
        rw [hdw, List.pairwise_cons] at h2
        exact lessF_trans h1 (h2.1 x hx)
  refine ⟨?_, ?_⟩
  · show List.Pairwise _ _
    rw [List.pairwise_append, List.pairwise_cons]
    refine ⟨hsrt.1, ⟨hW, hsrt.2.1⟩, fun a ha b hb => ?_⟩
    rcases List.mem_cons.1 hb with rfl | hb
    · exact hT a ha
    · exact hsrt.2.2 a ha b hb
  · rw [List.map_append]
    refine (List.perm_middle).trans ?_
    rw [← hsp]
    refine (List.Perm.cons e hd.pm).trans ?_
    exact (List.perm_append_singleton _ _).symm
def rgone (now : Int) (L : List En) : List En := L.filter fun e => decide (e.til ≤ now)
def rrest (now : Int) (L : List En) : List En := L.filter fun e => !decide (e.til ≤ now)
theorem RC.tick {c : TC} {L : List En} (h : RC c L) : RC (tickC c) (rrest (c.now + 1) L) := by
  refine ⟨h.srt.sublist List.filter_sublist, ?_⟩
  have := h.pm.filter fun e => !decide (e.til ≤ c.now + 1)
  rw [List.filter_map] at this
  have e : (tickC c).l = c.l.filter ((fun e : En => !decide (e.til ≤ c.now + 1)) ∘ (·.1)) := by
    unfold tickC
    refine List.filter_congr fun p _ => ?_
    simp only [Function.comp]
    rw [← decide_not]
    exact decide_eq_decide.2 (by omega)
  rw [e]
  exact this
theorem RC.gone {c : TC} {L : List En} (h : RC c L) {F : List Fl} (hs : SrtF F) (hp : F.Perm (goneC c)) : F = (rgone (c.now + 1) L).map (·.fl) := by
  have h1 : SrtF ((rgone (c.now + 1) L).map (·.fl)) := by
    unfold SrtF
    rw [List.pairwise_map]
    exact (h.srt.sublist List.filter_sublist)
  refine List.Perm.eq_of_pairwise (fun a b _ _ h1 h2 => by have := lessF_trans h1 h2; rw [lessF_irrefl] at this; cases this) hs h1 (hp.trans ?_)
  have := ((h.pm.filter fun e => decide (e.til ≤ c.now + 1)).map (·.fl)).symm
  rw [List.filter_map, List.map_map] at this
  unfold goneC rgone
  refine List.Perm.trans (List.Perm.of_eq ?_) this
  refine congrArg (List.map _) (List.filter_congr fun p _ => ?_)
  simp only [Function.comp]
  rw [← decide_not]
  exact decide_eq_decide.2 (by omega)
theorem RC.busy {c : TC} {L : List En} (h : RC c L) {A : List En} (hs : SrtE A) (hp : A.Perm (c.l.map (·.1))) : A = L := hs.eq h.srt (hp.trans h.pm.symm)
end Go.Proofs.Ytgbdbeaflilmlaa
