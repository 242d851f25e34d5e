/-
  PLAIN: services in order, one more, one less. No program in sight; no condition.
-/
import Derived.Test.YtojkbljpjpifoaaVSplit
set_option linter.unusedVariables false
set_option linter.unusedSimpArgs false
namespace Go.Proofs.Ytojkbljpjpifoaa
open Go.RowKit Go.Maps

theorem lexI_trans : ∀ {a b c : List Int}, lexI a b = true → lexI b c = true → lexI a c = true
  | [], b, c, h, _ => by simp [lexI] at h
  | x :: a, [], c, h, _ => by simp [lexI] at h
  | x :: a, y :: b, [], _, h => by simp [lexI] at h
  | x :: a, y :: b, z :: c, h, h' => by
    unfold lexI at h h' ⊢
    by_cases e1 : x = y
    · rw [if_pos e1] at h
      by_cases e2 : y = z
      · rw [if_pos e2] at h'
        rw [if_pos (e1.trans e2)]
        exact lexI_trans h h'
      · rw [if_neg e2] at h'
        rw [if_neg (fun e => e2 (e1.symm.trans e)), e1]
        exact h'
    · rw [if_neg e1] at h
      by_cases e2 : y = z
      · rw [if_neg (fun e => e1 (e.trans e2.symm)), ← e2]
        exact h
      · rw [if_neg e2] at h'
        simp at h h'
        rw [if_neg (by omega)]
        simp; omega
theorem lexI_total : ∀ {a b : List Int}, a.length = b.length → a ≠ b → lexI a b = true ∨ lexI b a = true
  | [], [], _, h => absurd rfl h
  | [], y :: b, h, _ => by simp at h
  | x :: a, [], h, _ => by simp at h
  | x :: a, y :: b, h, hn => by
    unfold lexI
    by_cases e : x = y
    · subst e
      simp only [if_true]
      exact lexI_total (by simpa using h) (fun e => hn (by rw [e]))
    · rw [if_neg e, if_neg (Ne.symm e)]
      simp; omega
theorem lessA_trans {A B C : Ad} (h : lessA A B = true) (h' : lessA B C = true) : lessA A C = true := lexI_trans h h'
theorem lessA_irrefl (A : Ad) : lessA A A = false := lexI_refl _
theorem lessA_total {A B : Ad} (h : A ≠ B) : lessA A B = true ∨ lessA B A = true := lexI_total rfl (fun e => h (Ad.ext_l e))
theorem lessA_asymm {A B : Ad} (h : lessA A B = true) : lessA B A = false := by
  cases e : lessA B A with
  | false => rfl
  | true => have := lessA_trans h e; rw [lessA_irrefl] at this; cases this

def ltS (S T : Sv) : Bool := lessA S.ad T.ad || (decide (S.ad = T.ad) && decide (S.port < T.port))
theorem ltS_iff {S T : Sv} : ltS S T = true ↔ lessA S.ad T.ad = true ∨ (S.ad = T.ad ∧ S.port < T.port) := by simp [ltS]
theorem ltS_irrefl (S : Sv) : ltS S S = false := by
  cases e : ltS S S with
  | false => rfl
  | true =>
    rcases ltS_iff.1 e with h | ⟨_, h⟩
    · rw [lessA_irrefl] at h; cases h
    · omega
theorem ltS_trans {S T U : Sv} (h : ltS S T = true) (h' : ltS T U = true) : ltS S U = true := by
  rw [ltS_iff] at *
  rcases h with h | ⟨h1, h2⟩
  · rcases h' with h' | ⟨h3, h4⟩
    · exact .inl (lessA_trans h h')
    · rw [← h3]; exact .inl h
  · rcases h' with h' | ⟨h3, h4⟩
    · rw [h1]; exact .inl h'
    · exact .inr ⟨h1.trans h3, by omega⟩
theorem ltS_total {S T : Sv} (h : S ≠ T) : ltS S T = true ∨ ltS T S = true := by
  rw [ltS_iff, ltS_iff]
  by_cases e : S.ad = T.ad
  · have : S.port ≠ T.port := fun e2 => h (by cases S; cases T; simp at e e2; rw [e, e2])
    rcases Int.lt_or_gt_of_ne this with h1 | h1
    · exact .inl (.inr ⟨e, h1⟩)
    · exact .inr (.inr ⟨e.symm, h1⟩)
  · rcases lessA_total e with h1 | h1
    · exact .inl (.inl h1)
    · exact .inr (.inl h1)
theorem ltS_asymm {S T : Sv} (h : ltS S T = true) : ltS T S = false := by
  cases e : ltS T S with
  | false => rfl
  | true => have := ltS_trans h e; rw [ltS_irrefl] at this; cases this

def Srt (l : List Sv) : Prop := l.Pairwise (fun a b => ltS a b = true)
theorem Srt.nodup {l : List Sv} (h : Srt l) : l.Nodup := h.imp (fun h e => by rw [e, ltS_irrefl] at h; cases h)
theorem Srt.one {a b : List Sv} (ha : Srt a) (hb : Srt b) (hp : a.Perm b) : a = b :=
  List.Perm.eq_of_pairwise (le := fun x y => ltS x y = true) (fun x y _ _ h1 h2 => by have := ltS_trans h1 h2; rw [ltS_irrefl] at this; cases this) ha hb hp
/-- One more, in order. -/
def insS (s : Sv) (l : List Sv) : List Sv := l.takeWhile (fun x => ltS x s) ++ s :: l.dropWhile (fun x => ltS x s)
theorem mem_insS {s x : Sv} {l : List Sv} : x ∈ insS s l ↔ x = s ∨ x ∈ l := by
  unfold insS
  rw [List.mem_append, List.mem_cons]
  conv => rhs; rw [← List.takeWhile_append_dropWhile (p := fun x => ltS x s) (l := l), List.mem_append]
  constructor
  · rintro (h | h | h)
    · exact .inr (.inl h)
    · exact .inl h
    · exact .inr (.inr h)
  · rintro (h | h | h)
    · exact .inr (.inl h)
    · exact .inl h
    · exact .inr (.inr h)
theorem len_insS (s : Sv) (l : List Sv) : (insS s l).length = l.length + 1 := by
  unfold insS
  have := congrArg List.length (List.takeWhile_append_dropWhile (p := fun x => ltS x s) (l := l))
  rw [List.length_append] at this ⊢
  rw [List.length_cons]
  omega
theorem srt_split {s : Sv} : ∀ {l : List Sv}, Srt l → s ∉ l → (∀ x ∈ l.takeWhile (fun x => ltS x s), ltS x s = true) ∧ ∀ x ∈ l.dropWhile (fun x => ltS x s), ltS s x = true
  | [], _, _ => ⟨by simp, by simp⟩
  | y :: l, h, hn => by
    obtain ⟨h1, h2⟩ := List.pairwise_cons.1 h
    by_cases e : ltS y s = true
    · rw [List.takeWhile_cons_of_pos (p := fun x => ltS x s) e, List.dropWhile_cons_of_pos (p := fun x => ltS x s) e]
      obtain ⟨i1, i2⟩ := srt_split h2 (fun hm => hn (List.mem_cons_of_mem _ hm))
      exact ⟨fun x hx => by
        rcases List.mem_cons.1 hx with rfl | hx
        · exact e
        · exact i1 x hx, i2⟩
    · rw [List.takeWhile_cons_of_neg (p := fun x => ltS x s) e, List.dropWhile_cons_of_neg (p := fun x => ltS x s) e]
      have hys : ltS s y = true := (ltS_total (fun e2 => hn (by rw [e2]; simp) : s ≠ y)).resolve_right e
      exact ⟨by simp, fun x hx => by
        rcases List.mem_cons.1 hx with rfl | hx
        · exact hys
        · exact ltS_trans hys (h1 x hx)⟩
theorem Srt.ins {s : Sv} {l : List Sv} (h : Srt l) (hn : s ∉ l) : Srt (insS s l) := by
  obtain ⟨h1, h2⟩ := srt_split h hn
  have hl : Srt (l.takeWhile (fun x => ltS x s) ++ l.dropWhile (fun x => ltS x s)) := by rw [List.takeWhile_append_dropWhile]; exact h
  obtain ⟨p1, p2, p3⟩ := List.pairwise_append.1 hl
  refine List.pairwise_append.2 ⟨p1, List.pairwise_cons.2 ⟨h2, p2⟩, fun a ha b hb => ?_⟩
  rcases List.mem_cons.1 hb with rfl | hb
  · exact h1 a ha
  · exact p3 a ha b hb
/-- One less. -/
def delS (s : Sv) (l : List Sv) : List Sv := l.filter (fun x => !decide (x = s))
theorem mem_delS {s x : Sv} {l : List Sv} : x ∈ delS s l ↔ x ∈ l ∧ x ≠ s := by simp [delS]
theorem Srt.del {l : List Sv} (h : Srt l) (s : Sv) : Srt (delS s l) := h.sublist List.filter_sublist
theorem delS_at : ∀ {l : List Sv} {i : Nat} {s : Sv}, l.Nodup → l[i]? = some s → l.take i ++ l.drop (i + 1) = delS s l
  | [], i, s, _, h => by simp at h
  | x :: l, 0, s, hn, h => by
    simp at h; subst h
    obtain ⟨h1, h2⟩ := List.nodup_cons.1 hn
    simp [delS]
    exact (List.filter_eq_self.2 (fun a ha => by simp; intro e; exact h1 (e ▸ ha))).symm
  | x :: l, i + 1, s, hn, h => by
    obtain ⟨h1, h2⟩ := List.nodup_cons.1 hn
    have hi : l[i]? = some s := by simpa using h
    have hx : x ≠ s := fun e => h1 (e ▸ List.mem_of_getElem? hi)
    have := delS_at h2 hi
    simp [delS, hx] at this ⊢
    exact this
theorem len_delS {l : List Sv} {s : Sv} (hn : l.Nodup) (hm : s ∈ l) : (delS s l).length + 1 = l.length := by
  obtain ⟨i, hi, rfl⟩ := List.mem_iff_getElem.1 hm
  rw [← delS_at hn (List.getElem?_eq_getElem hi)]
  simp; omega
/-- What Add says, and what there is then. -/
def addS (l : List Sv) (s : Sv) : List Sv × Int :=
  if s.port < 1 ∨ 65535 < s.port then (l, 2) else if ownA s.ad = true then (l, 5) else if s ∈ l then (l, 9) else if 8 ≤ l.length then (l, 8) else (insS s l, 0)
def dropS (l : List Sv) (s : Sv) : List Sv × Bool := if s ∈ l then (delS s l, true) else (l, false)
/-- What holds of the list all along. -/
structure LI (l : List Sv) : Prop where
  srt : Srt l
  len : l.length ≤ 8
  ok : ∀ x ∈ l, okS x ∧ 1 ≤ x.port ∧ x.port ≤ 65535
theorem LI.nil : LI [] := ⟨List.Pairwise.nil, by simp, by simp⟩
theorem LI.add {l : List Sv} (h : LI l) {s : Sv} (hs : okS s) : LI (addS l s).1 := by
  unfold addS
  split
  · exact h
  · split
    · exact h
    · split
      · exact h
      · split
        · exact h
        · next h1 _ h3 h4 => exact ⟨h.srt.ins h3, by rw [len_insS]; omega, fun x hx => by
            rcases mem_insS.1 hx with rfl | hx
            · exact ⟨hs, by omega, by omega⟩
            · exact h.ok x hx⟩
theorem LI.drop {l : List Sv} (h : LI l) (s : Sv) : LI (dropS l s).1 := by
  unfold dropS
  split
  · next hm => exact ⟨h.srt.del s, by have := len_delS h.srt.nodup hm; show (delS s l).length ≤ 8; have := h.len; omega, fun x hx => h.ok x (mem_delS.1 hx).1⟩
  · exact h

/-- The order that the table sorts by. -/
abbrev PS : Type := { S : Sv // okS S ∧ 1 ≤ S.port ∧ S.port ≤ 65535 }
def cfS (x y : PS) : Int := if x.1.ad = y.1.ad then x.1.port - y.1.port else if lessA x.1.ad y.1.ad = true then -1 else 1
theorem cfS_lt (x y : PS) : decide (cfS x y < 0) = ltS x.1 y.1 := by
  rw [Bool.eq_iff_iff, decide_eq_true_eq, ltS_iff]
  unfold cfS
  by_cases e : x.1.ad = y.1.ad
  · rw [if_pos e, e, lessA_irrefl]; simp; omega
  · rw [if_neg e]
    by_cases h : lessA x.1.ad y.1.ad = true
    · simp [h]
    · simp [h, e]
end Go.Proofs.Ytojkbljpjpifoaa
