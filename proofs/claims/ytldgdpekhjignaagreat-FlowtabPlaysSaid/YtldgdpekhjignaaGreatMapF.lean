/-
  PLAIN: a map keyed by integers, as the model reads it, against a function. No program in sight; no condition.
-/
import Derived.Maps.Views
import Derived.Maps.Ext
set_option linter.unusedVariables false
set_option linter.unusedSimpArgs false
namespace Go.Proofs.YtldgdpekhjignaaGreat
open Go

section
variable {α : Type} (d : α → DataW Unit)
/-- The map D holds just what M says, each as d lays it. -/
def Reads (D : DataW Unit) (M : Int → Option α) : Prop :=
  Maps.IsMap D ∧ ∀ n, (∀ r, M n = some r → Maps.has D (.int .i64 n) = true ∧ ∀ z, D.atKey (.int .i64 n) z = d r) ∧ (M n = none → Maps.has D (.int .i64 n) = false)
variable {d} {D : DataW Unit} {M : Int → Option α}
theorem Reads.nil : Reads d (.map []) (fun _ => none) := ⟨Maps.isMap_empty, fun n => ⟨fun r h => by simp at h, fun _ => by simp [Maps.has_eq]⟩⟩
theorem Reads.put (h : Reads d D M) (n : Int) (r : α) : Reads d (D.put (.int .i64 n) (d r)) (fun x => if x = n then some r else M x) := by
  have hk : WideAt.IsKeyLit (.int .i64 n) := by simp [WideAt.IsKeyLit]
  refine ⟨h.1.put _ _, fun x => ?_⟩
  by_cases hx : x = n
  · subst hx
    simp only [if_true]
    exact ⟨fun r' e => by injection e with e; subst e; exact ⟨Maps.has_put_same h.1 hk _, fun z => Maps.atKey_put_same h.1 hk _ _⟩, fun e => by cases e⟩
  · have hne : (Lit.int .i64 x) ≠ .int .i64 n := fun e => hx (by injection e)
    simp only [hx, if_false]
    refine ⟨fun r' e => ?_, fun e => ?_⟩
    · have := (h.2 x).1 r' e
      exact ⟨by rw [Maps.has_put_other hne]; exact this.1, fun z => by rw [Maps.atKey_put_other hne]; exact this.2 z⟩
    · rw [Maps.has_put_other hne]; exact (h.2 x).2 e
theorem Reads.del (h : Reads d D M) (n : Int) : Reads d (D.del (.int .i64 n)) (fun x => if x = n then none else M x) := by
  refine ⟨h.1.del _, fun x => ?_⟩
  by_cases hx : x = n
  · subst hx
    simp only [if_true]
    exact ⟨fun r' e => (by cases e), fun _ => Maps.has_del_same⟩
  · have hne : (Lit.int .i64 x) ≠ .int .i64 n := fun e => hx (by injection e)
    simp only [hx, if_false]
    refine ⟨fun r' e => ?_, fun e => ?_⟩
    · have := (h.2 x).1 r' e
      exact ⟨by rw [Maps.has_del_other hne]; exact this.1, fun z => by rw [Maps.atKey_del_other hne]; exact this.2 z⟩
    · rw [Maps.has_del_other hne]; exact (h.2 x).2 e
theorem Reads.at_some (h : Reads d D M) {n : Int} {r : α} (e : M n = some r) (z : DataW Unit) : D.atKey (.int .i64 n) z = d r := ((h.2 n).1 r e).2 z
theorem Reads.at_none (h : Reads d D M) {n : Int} (e : M n = none) (z : DataW Unit) : D.atKey (.int .i64 n) z = z := Maps.atKey_of_not_has ((h.2 n).2 e) z
theorem Reads.has (h : Reads d D M) (n : Int) : Maps.has D (.int .i64 n) = (M n).isSome := by
  cases e : M n with
  | none => rw [(h.2 n).2 e]; rfl
  | some r => rw [((h.2 n).1 r e).1]; rfl

/-- What has come of a range: ss, each once. -/
def Came (M : Int → Option α) (left : Lit → Bool) (key : α → Int) (ss : List α) : Prop :=
  (ss.map key).Nodup ∧ ∀ r, r ∈ ss ↔ (M (key r) = some r ∧ left (.int .i64 (key r)) = false)
theorem Came.start (h : Reads d D M) (key : α → Int) : Came M (Maps.has D) key [] := ⟨by simp, fun r => by
  rw [h.has]
  cases e : M (key r) <;> simp⟩
theorem Came.step {left : Lit → Bool} {key : α → Int} {ss : List α} (h : Came M left key ss) {r : α} (hm : M (key r) = some r) (hl : left (.int .i64 (key r)) = true) :
    Came M (fun z => left z && !z.sameKey (.int .i64 (key r))) key (ss ++ [r]) := by
  refine ⟨?_, fun r' => ?_⟩
  · rw [List.map_append, List.nodup_append]
    refine ⟨h.1, by simp, fun a ha b hb => ?_⟩
    simp at hb; subst hb
    obtain ⟨r', hr', rfl⟩ := List.mem_map.1 ha
    intro e
    have := ((h.2 r').1 hr').2
    rw [e, hl] at this; cases this
  · by_cases hk : key r' = key r
    · constructor
      · intro hm'
        rcases List.mem_append.1 hm' with h1 | h1
        · have := ((h.2 r').1 h1).2
          rw [hk, hl] at this; cases this
        · simp at h1; subst h1
          exact ⟨hm, by simp [Lit.sameKey]⟩
      · rintro ⟨h1, _⟩
        rw [hk, hm] at h1
        injection h1 with h1
        simp [h1]
    · have hs : (Lit.int .i64 (key r')).sameKey (.int .i64 (key r)) = false := Maps.sameKey_ne (fun e => hk (by injection e))
      rw [List.mem_append, h.2 r']
      have : ¬ r' = r := fun e => hk (by rw [e])
      simp [hs, this]
theorem Came.done {left : Lit → Bool} {key : α → Int} {ss : List α} (h : Came M left key ss) (hl : ∀ kl, left kl = false) (r : α) : r ∈ ss ↔ M (key r) = some r := by
  rw [h.2 r]; simp [hl]
end
end Go.Proofs.YtldgdpekhjignaaGreat
