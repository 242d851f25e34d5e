/-
  PLAIN: the document's sort of flows (chapter 14): the least one that comes later, again and again. No program in sight; no condition.
-/
import Derived.Test.YtldgdpekhjignaaGreatFlowOut
set_option linter.unusedVariables false
set_option linter.unusedSimpArgs false
namespace Go.Proofs.YtldgdpekhjignaaGreat

/-- Does x come later than all of o? -/
def lateF (o : List Fl) (x : Fl) : Bool := match o.getLast? with
  | none => true
  | some y => lessF y x
structure OutF (l o : List Fl) : Prop where
  srt : SrtF o
  sub : ∀ x ∈ o, x ∈ l
  seg : ∀ x ∈ l, ∀ y ∈ o, lessF x y = true → x ∈ o
theorem OutF.nil (l : List Fl) : OutF l [] := ⟨List.Pairwise.nil, by simp, by simp⟩
theorem OutF.len {l o : List Fl} (h : OutF l o) : o.length ≤ l.length := h.srt.nodup.length_le_of_subset h.sub
theorem lateF_nil (x : Fl) : lateF [] x = true := rfl
theorem lateF_snoc (o : List Fl) (y x : Fl) : lateF (o ++ [y]) x = lessF y x := by simp [lateF]
theorem lateF_all {o : List Fl} (h : SrtF o) {x : Fl} (hx : lateF o x = true) : ∀ y ∈ o, lessF y x = true := by
  rcases List.eq_nil_or_concat o with rfl | ⟨o', z, rfl⟩
  · simp
  · rw [List.concat_eq_append] at *
    rw [lateF_snoc] at hx
    intro y hy
    rcases List.mem_append.1 hy with hy | hy
    · exact lessF_trans ((List.pairwise_append.1 h).2.2 y hy z (by simp)) hx
    · simp at hy; subst hy; exact hx
theorem OutF.early {l o : List Fl} (h : OutF l o) {x : Fl} (hl : x ∈ l) (hx : lateF o x = false) : x ∈ o := by
  rcases List.eq_nil_or_concat o with rfl | ⟨o', z, rfl⟩
  · cases hx
  · rw [List.concat_eq_append] at *
    rw [lateF_snoc] at hx
    by_cases e : x = z
    · subst e; simp
    · have := (lessF_total e).resolve_right (by rw [hx]; simp)
      exact h.seg x hl z (by simp) this
theorem OutF.step {l o : List Fl} (h : OutF l o) {x : Fl} (hl : x ∈ l) (hx : lateF o x = true) (hmin : ∀ y ∈ l, lateF o y = true → lessF y x = false) : OutF l (o ++ [x]) := by
  refine ⟨?_, ?_, ?_⟩
  · refine List.pairwise_append.2 ⟨h.srt, List.pairwise_singleton _ _, fun y hy z hz => ?_⟩
    simp at hz; subst hz
    exact lateF_all h.srt hx y hy
  · intro y hy
    rcases List.mem_append.1 hy with hy | hy
    · exact h.sub y hy
    · simp at hy; subst hy; exact hl
  · intro y hy z hz hlt
    rcases List.mem_append.1 hz with hz | hz
    · exact List.mem_append_left _ (h.seg y hy z hz hlt)
    · simp at hz; subst hz
      cases e : lateF o y with
      | true => rw [hmin y hy e] at hlt; cases hlt
      | false => exact List.mem_append_left _ (h.early hy e)
theorem OutF.done {l o : List Fl} (h : OutF l o) (hn : ∀ y ∈ l, lateF o y = false) : ∀ x, x ∈ o ↔ x ∈ l := fun x => ⟨h.sub x, fun hx => h.early hx (hn x hx)⟩
/-- The best one among the first i. -/
def BestF (l o : List Fl) (i : Nat) (b : Option Nat) : Prop := match b with
  | none => ∀ j y, j < i → l[j]? = some y → lateF o y = false
  | some k => k < i ∧ ∃ x, l[k]? = some x ∧ lateF o x = true ∧ ∀ j y, j < i → l[j]? = some y → lateF o y = true → lessF y x = false
theorem BestF.start (l o : List Fl) : BestF l o 0 none := fun j y hj => by omega
theorem BestF.skip {l o : List Fl} {i : Nat} {b : Option Nat} (h : BestF l o i b) {x : Fl} (hx : l[i]? = some x) (hn : lateF o x = false) : BestF l o (i + 1) b := by
  cases b with
  | none =>
    intro j y hj hy
    by_cases e : j = i
    · subst e; rw [hx] at hy; cases hy; exact hn
    · exact h j y (by omega) hy
  | some k =>
    obtain ⟨h1, z, h2, h3, h4⟩ := h
    refine ⟨by omega, z, h2, h3, fun j y hj hy hl => ?_⟩
    by_cases e : j = i
    · subst e; rw [hx] at hy; cases hy; rw [hn] at hl; cases hl
    · exact h4 j y (by omega) hy hl
theorem BestF.first {l o : List Fl} {i : Nat} (h : BestF l o i none) {x : Fl} (hx : l[i]? = some x) (hl : lateF o x = true) : BestF l o (i + 1) (some i) := by
  refine ⟨by omega, x, hx, hl, fun j y hj hy hly => ?_⟩
  by_cases e : j = i
  · subst e; rw [hx] at hy; cases hy; exact lessF_irrefl _
  · rw [h j y (by omega) hy] at hly; cases hly
theorem BestF.better {l o : List Fl} {i k : Nat} (h : BestF l o i (some k)) {x z : Fl} (hx : l[i]? = some x) (hz : l[k]? = some z) (hl : lateF o x = true) (hlt : lessF x z = true) : BestF l o (i + 1) (some i) := by
  obtain ⟨h1, z', h2, h3, h4⟩ := h
  rw [hz] at h2; cases h2
  refine ⟨by omega, x, hx, hl, fun j y hj hy hly => ?_⟩
  by_cases e : j = i
  · subst e; rw [hx] at hy; cases hy; exact lessF_irrefl _
  · have h5 := h4 j y (by omega) hy hly
    cases h6 : lessF y x with
    | false => rfl
    | true => have := lessF_trans h6 hlt; rw [h5] at this; cases this
theorem BestF.keep {l o : List Fl} {i k : Nat} (h : BestF l o i (some k)) {x z : Fl} (hx : l[i]? = some x) (hz : l[k]? = some z) (hlt : lessF x z = false) : BestF l o (i + 1) (some k) := by
  obtain ⟨h1, z', h2, h3, h4⟩ := h
  rw [hz] at h2; cases h2
  refine ⟨by omega, z, hz, h3, fun j y hj hy hly => ?_⟩
  by_cases e : j = i
  · subst e; rw [hx] at hy; cases hy; exact hlt
  · exact h4 j y (by omega) hy hly
end Go.Proofs.YtldgdpekhjignaaGreat
