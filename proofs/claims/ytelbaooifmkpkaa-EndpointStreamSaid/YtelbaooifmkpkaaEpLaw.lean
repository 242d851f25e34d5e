/-
  THE PLAIN LAW OF A STREAM: what was got is a beginning of the stream, and what is told acknowledges no more. Condition: at most 100 bytes.
-/
import Derived.Test.YtelbaooifmkpkaaEpW
set_option linter.unusedVariables false
set_option linter.unusedSimpArgs false
namespace Go.Proofs.Ytelbaooifmkpkaa

structure JS (f : Int) (l : List Int) (c : CN) (g : Nat) : Prop where
  le : g ≤ l.length
  got : c.got = g
  sum : c.sum = mixF 0 (l.take g)
  st : (c.st = 1 ∧ g = 0 ∧ c.next = u32w (f + 1) ∧ c.sent = 8) ∨ (c.st = 2 ∧ c.next = u32w (f + 1 + g) ∧ c.sent = 8) ∨ (c.st = 3 ∧ g = l.length ∧ c.next = u32w (f + 1 + g + 1) ∧ c.sent = 9)
theorem mixF_app (s : Int) (a b : List Int) : mixF (mixF s a) b = mixF s (a ++ b) := by simp [mixF]
theorem flags16 : hasF 16 4 = false ∧ hasF 16 2 = false ∧ hasF 16 16 = true ∧ hasF 16 1 = false := by decide +kernel
theorem flags17 : hasF 17 4 = false ∧ hasF 17 2 = false ∧ hasF 17 16 = true ∧ hasF 17 1 = true := by decide +kernel
theorem mixF_bd (s : Int) (l : List Int) (h : 0 ≤ s ∧ s < 4294967296) : 0 ≤ mixF s l ∧ mixF s l < 4294967296 := by
  induction l generalizing s with
  | nil => exact h
  | cons x l ih =>
    refine ih _ ?_
    show 0 ≤ u32w (u32w (s * 31) + x) ∧ u32w (u32w (s * 31) + x) < 4294967296
    unfold u32w
    omega
theorem JS.start (f : Int) (l : List Int) : JS f l (startF f 7) 0 := ⟨by omega, rfl, by simp [startF, mixF], .inl ⟨rfl, rfl, rfl, by simp [startF, u32w]⟩⟩
theorem JS.bd {f : Int} {l : List Int} {c : CN} {g : Nat} (h : JS f l c g) : 0 ≤ c.sum ∧ c.sum < 4294967296 := by rw [h.sum]; exact mixF_bd _ _ (by omega)

/-- What is told. -/
def Told (f : Int) (c : CN) (g : Nat) (t : TC) : Prop := ∃ a : Nat, t.ack = u32w (f + 1 + a) ∧ a ≤ g + 1 ∧ (a = g + 1 → 3 ≤ c.st)

theorem JS.step {f : Int} {l : List Int} {c : CN} {g : Nat} (h : JS f l c g) (hl : l.length ≤ 100) {fr up : Nat} (h1 : fr ≤ up) (h2 : up ≤ l.length) {fl : Int} (hfl : fl = 16 ∨ (fl = 17 ∧ up = l.length)) :
    ∃ g', JS f l (takeF c ⟨0, 0, u32w (f + 1 + fr), 8, fl, 0, 0, 0⟩ ((l.drop fr).take (up - fr))).1 g' ∧ g ≤ g' ∧
      ∀ t ∈ (takeF c ⟨0, 0, u32w (f + 1 + fr), 8, fl, 0, 0, 0⟩ ((l.drop fr).take (up - fr))).2, Told f (takeF c ⟨0, 0, u32w (f + 1 + fr), 8, fl, 0, 0, 0⟩ ((l.drop fr).take (up - fr))).1 g' t := by
  have hlen : ((l.drop fr).take (up - fr)).length = up - fr := by simp; omega
  have hg := h.le
  have hF : hasF fl 4 = false ∧ hasF fl 2 = false ∧ hasF fl 16 = true := by
    rcases hfl with e | ⟨e, _⟩
    · subst e; exact ⟨flags16.1, flags16.2.1, flags16.2.2.1⟩
    · subst e; exact ⟨flags17.1, flags17.2.1, flags17.2.2.1⟩
  obtain ⟨f4, f2, f16⟩ := hF
  -- how many numbers it takes
  have hspan : spanF fl (up - fr) = (up - fr : Nat) + (if fl = 17 then 1 else 0) := by
    rcases hfl with e | ⟨e, _⟩
    · subst e
      unfold spanF
      rw [flags16.2.1, flags16.2.2.2]
      simp [u32w]
      omega
    · subst e
      unfold spanF
      rw [flags17.2.1, flags17.2.2.2]
      simp [u32w]
      omega
  -- the connection behind the acknowledgement
  obtain ⟨c', hc', hst', hJ⟩ : ∃ c', ackedF c ⟨0, 0, u32w (f + 1 + fr), 8, fl, 0, 0, 0⟩ = (c', true) ∧ (c'.st = 2 ∨ c'.st = 3) ∧ JS f l c' g := by
    rcases h.st with ⟨a, b, n, s⟩ | ⟨a, n, s⟩ | ⟨a, b, n, s⟩
    · refine ⟨{ c with st := 2 }, ?_, .inl rfl, ⟨h.le, h.got, h.sum, .inr (.inl ⟨rfl, ?_, s⟩)⟩⟩
      · unfold ackedF; rw [if_pos a, if_neg (by simp [s])]
      · subst b; simpa using n
    · refine ⟨c, ?_, .inl a, h⟩
      unfold ackedF; rw [if_neg (by omega), if_neg (by omega)]
    · refine ⟨c, ?_, .inr a, h⟩
      unfold ackedF; rw [if_neg (by omega), if_neg (by simp [s])]
  have hrange : ¬ (c.st < 1 ∨ 4 < c.st) := by rcases h.st with ⟨a, _⟩ | ⟨a, _⟩ | ⟨a, _⟩ <;> omega
  have ht : takeF c ⟨0, 0, u32w (f + 1 + fr), 8, fl, 0, 0, 0⟩ ((l.drop fr).take (up - fr)) =
      (if spanF fl (up - fr) = 0 then (c', [])
       else if c'.st = 2 ∧ u32w (f + 1 + fr) = c'.next then moreF c' ⟨0, 0, u32w (f + 1 + fr), 8, fl, 0, 0, 0⟩ ((l.drop fr).take (up - fr))
       else if c'.st = 3 then (c', [finF c'])
       else (c', [bareF c'])) := by
    unfold takeF
    rw [if_neg hrange, if_neg (by simp [f4]), if_neg (by simp [f2]), if_pos f16, hc', hlen]
    simp only [if_pos]
  rw [ht]
  have hg' := hJ.le
  by_cases hs : spanF fl (up - fr) = 0
  · rw [if_pos hs]
    exact ⟨g, hJ, Nat.le_refl _, fun t ht => by cases ht⟩
  rw [if_neg hs]
  by_cases hm : c'.st = 2 ∧ u32w (f + 1 + fr) = c'.next
  · rw [if_pos hm]
    obtain ⟨m1, m2⟩ := hm
    have hn : c'.next = u32w (f + 1 + g) := by
      rcases hJ.st with ⟨a, _⟩ | ⟨_, n, _⟩ | ⟨a, _⟩
      · omega
      · exact n
      · omega
    have hsent : c'.sent = 8 := by
      rcases hJ.st with ⟨a, _⟩ | ⟨_, _, n⟩ | ⟨a, _⟩
      · omega
      · exact n
      · omega
    have hfg : fr = g := by
      rw [hn] at m2
      unfold u32w at m2
      omega
    subst hfg
    have htake : l.take fr ++ (l.drop fr).take (up - fr) = l.take up := by
      rw [← List.take_add]
      congr 1
      omega
    have hsum : mixF c'.sum ((l.drop fr).take (up - fr)) = mixF 0 (l.take up) := by rw [hJ.sum, mixF_app, htake]
    rcases hfl with e | ⟨e, hup⟩
    · subst e
      have hsp : spanF 16 (up - fr) = (up - fr : Nat) := by rw [hspan]; simp
      have hmore : moreF c' ⟨0, 0, u32w (f + 1 + fr), 8, 16, 0, 0, 0⟩ ((l.drop fr).take (up - fr)) = (more1 c' ⟨0, 0, u32w (f + 1 + fr), 8, 16, 0, 0, 0⟩ ((l.drop fr).take (up - fr)), [bareF (more1 c' ⟨0, 0, u32w (f + 1 + fr), 8, 16, 0, 0, 0⟩ ((l.drop fr).take (up - fr)))]) := by
        unfold moreF; rw [if_neg (by simp [flags16.2.2.2])]
      rw [hmore]
      have hnext : u32w (c'.next + spanF 16 ((l.drop fr).take (up - fr)).length) = u32w (f + 1 + up) := by
        rw [hlen, hsp, hn]; unfold u32w; omega
      refine ⟨up, ⟨h2, ?_, hsum, .inr (.inl ⟨m1, hnext, hsent⟩)⟩, h1, fun t ht => ?_⟩
      · show c'.got + _ = _
        rw [hJ.got, hlen]; omega
      · simp at ht
        subst ht
        exact ⟨up, hnext, by omega, fun e => by omega⟩
    · subst e
      have hsp : spanF 17 (up - fr) = (up - fr : Nat) + 1 := by rw [hspan]; simp
      have hmore : moreF c' ⟨0, 0, u32w (f + 1 + fr), 8, 17, 0, 0, 0⟩ ((l.drop fr).take (up - fr)) = (more2 (more1 c' ⟨0, 0, u32w (f + 1 + fr), 8, 17, 0, 0, 0⟩ ((l.drop fr).take (up - fr))), [finF (more2 (more1 c' ⟨0, 0, u32w (f + 1 + fr), 8, 17, 0, 0, 0⟩ ((l.drop fr).take (up - fr))))]) := by
        unfold moreF; rw [if_pos flags17.2.2.2]
      rw [hmore]
      have hnext : u32w (c'.next + spanF 17 ((l.drop fr).take (up - fr)).length) = u32w (f + 1 + up + 1) := by
        rw [hlen, hsp, hn]; unfold u32w; omega
      refine ⟨up, ⟨h2, ?_, hsum, .inr (.inr ⟨rfl, hup, hnext, ?_⟩)⟩, h1, fun t ht => ?_⟩
      · show c'.got + _ = _
        rw [hJ.got, hlen]; omega
      · show u32w (c'.sent + 1) = 9
        rw [hsent]; rfl
      · simp at ht
        subst ht
        refine ⟨up + 1, ?_, Nat.le_refl _, fun _ => ?_⟩
        · show u32w _ = _
          rw [hnext]; congr 1; omega
        · show (3 : Int) ≤ 3
          omega
  rw [if_neg hm]
  by_cases h3 : c'.st = 3
  · rw [if_pos h3]
    refine ⟨g, hJ, Nat.le_refl _, fun t ht => ?_⟩
    simp at ht
    subst ht
    rcases hJ.st with ⟨a, _⟩ | ⟨a, _⟩ | ⟨_, b, n, s⟩
    · omega
    · omega
    · refine ⟨g + 1, ?_, Nat.le_refl _, fun _ => by show 3 ≤ c'.st; omega⟩
      show c'.next = _
      rw [n]; congr 1; omega
  · rw [if_neg h3]
    refine ⟨g, hJ, Nat.le_refl _, fun t ht => ?_⟩
    simp at ht
    subst ht
    rcases hJ.st with ⟨a, _⟩ | ⟨a, n, s⟩ | ⟨a, _⟩
    · omega
    · exact ⟨g, n, by omega, fun e => by omega⟩
    · omega

theorem takeF_len (c : CN) (t : TC) (l : List Int) : (takeF c t l).2.length ≤ 1 := by
  unfold takeF againF moreF
  repeat' split
  all_goals simp
end Go.Proofs.Ytelbaooifmkpkaa
