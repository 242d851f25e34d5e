/-
  PLAIN: a map with keys of any one kind, as the model reads it, against a function. No program in sight; no condition.
-/
import Derived.Maps.Views
import Derived.Maps.Ext
set_option linter.unusedVariables false
set_option linter.unusedSimpArgs false
namespace Go.Proofs.Ytojkbljpjpifoaa
open Go

/-- Keys: each is one literal. -/
structure KL (κ : Type) where
  lit : κ → Lit
  ok : κ → Prop
  key : ∀ n, ok n → WideAt.IsKeyLit (lit n)
  inj : ∀ a b, ok a → ok b → lit a = lit b → a = b
section
variable {κ α : Type} (K : KL κ) (d : α → DataW Unit)
/-- The map D holds just what M says, each as d lays it. -/
def ReadsG (D : DataW Unit) (M : κ → Option α) : Prop :=
  Maps.IsMap D ∧ ∀ n, K.ok n → (∀ r, M n = some r → Maps.has D (K.lit n) = true ∧ ∀ z, D.atKey (K.lit n) z = d r) ∧ (M n = none → Maps.has D (K.lit n) = false)
variable {K d} {D : DataW Unit} {M : κ → Option α}
theorem ReadsG.nil : ReadsG K d (.map []) (fun _ => none) := ⟨Maps.isMap_empty, fun n _ => ⟨fun r h => by simp at h, fun _ => by simp [Maps.has_eq]⟩⟩
theorem ReadsG.put [DecidableEq κ] (h : ReadsG K d D M) {n : κ} (hn : K.ok n) (r : α) : ReadsG K d (D.put (K.lit n) (d r)) (fun x => if x = n then some r else M x) := by
  have hk := K.key n hn
  refine ⟨h.1.put _ _, fun x hxo => ?_⟩
  by_cases hx : x = n
  · subst hx
    simp only [if_true]
    exact ⟨fun r' e => by injection e with e; subst e; exact ⟨Maps.has_put_same h.1 hk _, fun z => Maps.atKey_put_same h.1 hk _ _⟩, fun e => by cases e⟩
  · have hne : K.lit x ≠ K.lit n := fun e => hx (K.inj _ _ hxo hn e)
    simp only [hx, if_false]
    refine ⟨fun r' e => ?_, fun e => ?_⟩
    · have := (h.2 x hxo).1 r' e
      exact ⟨by rw [Maps.has_put_other hne]; exact this.1, fun z => by rw [Maps.atKey_put_other hne]; exact this.2 z⟩
    · rw [Maps.has_put_other hne]; exact (h.2 x hxo).2 e
theorem ReadsG.del [DecidableEq κ] (h : ReadsG K d D M) {n : κ} (hn : K.ok n) : ReadsG K d (D.del (K.lit n)) (fun x => if x = n then none else M x) := by
  refine ⟨h.1.del _, fun x hxo => ?_⟩
  by_cases hx : x = n
  · subst hx
    simp only [if_true]
    exact ⟨fun r' e => (by cases e), fun _ => Maps.has_del_same⟩
  · have hne : K.lit x ≠ K.lit n := fun e => hx (K.inj _ _ hxo hn e)
    simp only [hx, if_false]
    refine ⟨fun r' e => ?_, fun e => ?_⟩
    · have := (h.2 x hxo).1 r' e
      exact ⟨by rw [Maps.has_del_other hne]; exact this.1, fun z => by rw [Maps.atKey_del_other hne]; exact this.2 z⟩
    · rw [Maps.has_del_other hne]; exact (h.2 x hxo).2 e
theorem ReadsG.at_some (h : ReadsG K d D M) {n : κ} (hn : K.ok n) {r : α} (e : M n = some r) (z : DataW Unit) : D.atKey (K.lit n) z = d r := ((h.2 n hn).1 r e).2 z
theorem ReadsG.at_none (h : ReadsG K d D M) {n : κ} (hn : K.ok n) (e : M n = none) (z : DataW Unit) : D.atKey (K.lit n) z = z := Maps.atKey_of_not_has ((h.2 n hn).2 e) z
theorem ReadsG.at_ (h : ReadsG K d D M) {n : κ} (hn : K.ok n) (r0 : α) : D.atKey (K.lit n) (d r0) = d ((M n).getD r0) := by
  cases e : M n with
  | none => exact h.at_none hn e _
  | some r => exact h.at_some hn e _
theorem ReadsG.has (h : ReadsG K d D M) {n : κ} (hn : K.ok n) : Maps.has D (K.lit n) = (M n).isSome := by
  cases e : M n with
  | none => rw [(h.2 n hn).2 e]; rfl
  | some r => rw [((h.2 n hn).1 r e).1]; rfl
theorem ReadsG.congr (h : ReadsG K d D M) {M' : κ → Option α} (e : ∀ n, K.ok n → M n = M' n) : ReadsG K d D M' := ⟨h.1, fun n hn => by rw [← e n hn]; exact h.2 n hn⟩

/-- What has come of a range: ss, each once. -/
def CameG (K : KL κ) (M : κ → Option α) (left : Lit → Bool) (ss : List (κ × α)) : Prop :=
  (ss.map Prod.fst).Nodup ∧ ∀ p, p ∈ ss ↔ (K.ok p.1 ∧ M p.1 = some p.2 ∧ left (K.lit p.1) = false)
theorem CameG.start (h : ReadsG K d D M) : CameG K M (Maps.has D) [] := ⟨by simp, fun p => by
  constructor
  · intro h; simp at h
  · rintro ⟨h1, h2, h3⟩
    rw [h.has h1, h2] at h3
    cases h3⟩
theorem CameG.step {left : Lit → Bool} {ss : List (κ × α)} (h : CameG K M left ss) {n : κ} {r : α} (hn : K.ok n) (hm : M n = some r) (hl : left (K.lit n) = true) :
    CameG K M (fun z => left z && !z.sameKey (K.lit n)) (ss ++ [(n, r)]) := by
  refine ⟨?_, fun p => ?_⟩
  · rw [List.map_append, List.nodup_append]
    refine ⟨h.1, by simp, fun a ha b hb => ?_⟩
    simp at hb; subst hb
    obtain ⟨p, hp, rfl⟩ := List.mem_map.1 ha
    intro e
    have := ((h.2 p).1 hp).2.2
    rw [e, hl] at this; cases this
  · by_cases hk : p.1 = n
    · constructor
      · intro hm'
        rcases List.mem_append.1 hm' with h1 | h1
        · have := ((h.2 p).1 h1).2.2
          rw [hk, hl] at this; cases this
        · simp at h1; subst h1
          exact ⟨hn, hm, by simp [WideAt.sameKey_self (K.key n hn)]⟩
      · rintro ⟨h0, h1, _⟩
        rw [hk, hm] at h1
        injection h1 with h1
        obtain ⟨p1, p2⟩ := p
        simp at hk h1
        simp [h1, hk]
    · have hs : ∀ ho : K.ok p.1, (K.lit p.1).sameKey (K.lit n) = false := fun ho => Maps.sameKey_ne (fun e => hk (K.inj _ _ ho hn e))
      rw [List.mem_append, h.2 p]
      have : ¬ p = (n, r) := fun e => hk (by rw [e])
      constructor
      · rintro (⟨h0, h1, h2⟩ | h1)
        · exact ⟨h0, h1, by simp [h2]⟩
        · simp at h1; exact absurd h1 this
      · rintro ⟨h0, h1, h2⟩
        simp only [hs h0] at h2
        exact .inl ⟨h0, h1, by simpa using h2⟩
theorem CameG.done {left : Lit → Bool} {ss : List (κ × α)} (h : CameG K M left ss) (hl : ∀ kl, left kl = false) (p : κ × α) : p ∈ ss ↔ (K.ok p.1 ∧ M p.1 = some p.2) := by
  rw [h.2 p]; simp [hl]
end
end Go.Proofs.Ytojkbljpjpifoaa
