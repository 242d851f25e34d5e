/-
  PLAIN: which flow comes first is an order. No condition.
-/
import Derived.Test.YtldgdpekhjignaaGreatFlowLess
set_option linter.unusedVariables false
set_option linter.unusedSimpArgs false
namespace Go.Proofs.YtldgdpekhjignaaGreat

theorem lexI_trans : ∀ {a b c : List Int}, lexI a b = true → lexI b c = true → lexI a c = true
  | [], b, c, h, _ => by simp [lexI] at h
  | x :: a, [], c, h, _ => by simp [lexI] at h
  | x :: a, y :: b, [], _, h => by simp [lexI] at h
  | x :: a, y :: b, z :: c, h, h' => by
    unfold lexI at h h' ⊢
    by_cases e1 : x = y
    · rw [if_pos e1] at h
      by_cases e2 : y = z
      · rw [if_pos e2] at h'
        rw [if_pos (e1.trans e2)]
        exact lexI_trans h h'
      · rw [if_neg e2] at h'
        rw [if_neg (fun e => e2 (e1.symm.trans e)), e1]
        exact h'
    · rw [if_neg e1] at h
      by_cases e2 : y = z
      · rw [if_neg (fun e => e1 (e.trans e2.symm)), ← e2]
        exact h
      · rw [if_neg e2] at h'
        simp at h h'
        rw [if_neg (by omega)]
        simp; omega
theorem lexI_total : ∀ {a b : List Int}, a.length = b.length → a ≠ b → lexI a b = true ∨ lexI b a = true
  | [], [], _, h => absurd rfl h
  | [], y :: b, h, _ => by simp at h
  | x :: a, [], h, _ => by simp at h
  | x :: a, y :: b, h, hn => by
    unfold lexI
    by_cases e : x = y
    · subst e
      simp only [if_true]
      exact lexI_total (by simpa using h) (fun e => hn (by rw [e]))
    · rw [if_neg e, if_neg (Ne.symm e)]
      simp; omega
theorem lessA_trans {A B C : Ad} (h : lessA A B = true) (h' : lessA B C = true) : lessA A C = true := lexI_trans h h'
theorem lessA_irrefl (A : Ad) : lessA A A = false := lexI_refl _
theorem lessA_total {A B : Ad} (h : A ≠ B) : lessA A B = true ∨ lessA B A = true := lexI_total rfl (fun e => h (Ad.ext_l e))
theorem lessA_asymm {A B : Ad} (h : lessA A B = true) : lessA B A = false := by
  cases e : lessA B A with
  | false => rfl
  | true => have := lessA_trans h e; rw [lessA_irrefl] at this; cases this


theorem lessF_iff {f g : Fl} : lessF f g = true ↔ lessA f.src g.src = true ∨ (f.src = g.src ∧ (f.sport < g.sport ∨ (f.sport = g.sport ∧ (lessA f.dst g.dst = true ∨ (f.dst = g.dst ∧ f.dport < g.dport))))) := by
  unfold lessF
  by_cases h1 : f.src = g.src
  · rw [if_pos h1, h1, lessA_irrefl]
    by_cases h2 : f.sport = g.sport
    · rw [if_pos h2, h2]
      by_cases h3 : f.dst = g.dst
      · rw [if_pos h3, h3, lessA_irrefl]; simp
      · rw [if_neg h3]; simp [h3]
    · rw [if_neg h2]; simp [h2]
  · rw [if_neg h1]; simp [h1]
theorem lessF_irrefl (f : Fl) : lessF f f = false := by
  cases e : lessF f f with
  | false => rfl
  | true =>
    rcases lessF_iff.1 e with h | ⟨_, h | ⟨_, h | ⟨_, h⟩⟩⟩
    · rw [lessA_irrefl] at h; cases h
    · omega
    · rw [lessA_irrefl] at h; cases h
    · omega
theorem lessF_trans {f g k : Fl} (h1 : lessF f g = true) (h2 : lessF g k = true) : lessF f k = true := by
  rw [lessF_iff] at *
  rcases h1 with a | ⟨a, b⟩
  · rcases h2 with a' | ⟨a', b'⟩
    · exact .inl (lessA_trans a a')
    · exact .inl (a' ▸ a)
  · rcases h2 with a' | ⟨a', b'⟩
    · exact .inl (a ▸ a')
    · refine .inr ⟨a.trans a', ?_⟩
      rcases b with c | ⟨c, d⟩
      · rcases b' with c' | ⟨c', d'⟩
        · exact .inl (by omega)
        · exact .inl (by omega)
      · rcases b' with c' | ⟨c', d'⟩
        · exact .inl (by omega)
        · refine .inr ⟨by omega, ?_⟩
          rcases d with x | ⟨x, y⟩
          · rcases d' with x' | ⟨x', y'⟩
            · exact .inl (lessA_trans x x')
            · exact .inl (x' ▸ x)
          · rcases d' with x' | ⟨x', y'⟩
            · exact .inl (x ▸ x')
            · exact .inr ⟨x.trans x', by omega⟩
theorem lessF_total {f g : Fl} (h : f ≠ g) : lessF f g = true ∨ lessF g f = true := by
  rw [lessF_iff, lessF_iff]
  by_cases h1 : f.src = g.src
  · by_cases h2 : f.sport = g.sport
    · by_cases h3 : f.dst = g.dst
      · by_cases h4 : f.dport = g.dport
        · exact absurd (by cases f; cases g; simp_all) h
        · rcases Int.lt_or_gt_of_ne h4 with h5 | h5
          · exact .inl (.inr ⟨h1, .inr ⟨h2, .inr ⟨h3, h5⟩⟩⟩)
          · exact .inr (.inr ⟨h1.symm, .inr ⟨h2.symm, .inr ⟨h3.symm, h5⟩⟩⟩)
      · rcases lessA_total h3 with h5 | h5
        · exact .inl (.inr ⟨h1, .inr ⟨h2, .inl h5⟩⟩)
        · exact .inr (.inr ⟨h1.symm, .inr ⟨h2.symm, .inl h5⟩⟩)
    · rcases Int.lt_or_gt_of_ne h2 with h5 | h5
      · exact .inl (.inr ⟨h1, .inl h5⟩)
      · exact .inr (.inr ⟨h1.symm, .inl h5⟩)
  · rcases lessA_total h1 with h5 | h5
    · exact .inl (.inl h5)
    · exact .inr (.inl h5)
theorem lessF_asymm {f g : Fl} (h : lessF f g = true) : lessF g f = false := by
  cases e : lessF g f with
  | false => rfl
  | true => have := lessF_trans h e; rw [lessF_irrefl] at this; cases this
/-- Flows in order, each once. -/
def SrtF (l : List Fl) : Prop := l.Pairwise (fun a b => lessF a b = true)
theorem SrtF.nodup {l : List Fl} (h : SrtF l) : l.Nodup := h.imp (fun h e => by rw [e, lessF_irrefl] at h; cases h)
theorem SrtF.one {l m : List Fl} (hl : SrtF l) (hm : SrtF m) (h : l.Perm m) : l = m :=
  List.Perm.eq_of_pairwise (le := fun a b => lessF a b = true) (fun a b _ _ h1 h2 => by rw [lessF_asymm h1] at h2; cases h2) hl hm h
end Go.Proofs.YtldgdpekhjignaaGreat
