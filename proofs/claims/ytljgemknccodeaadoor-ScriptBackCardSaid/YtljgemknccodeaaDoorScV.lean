/-
  PLAIN: what is written is read as what it was.
-/
import Derived.Test.YtljgemknccodeaaDoorScU
set_option linter.unusedVariables false
set_option linter.unusedSimpArgs false
namespace Go.Proofs.YtljgemknccodeaaDoor

/-! Pieces of what was joined. -/
theorem spl_no {c : UInt8} : ∀ {a : Bs}, (∀ x ∈ a, x ≠ c) → spl c a = [a]
  | [], _ => rfl
  | b :: r, h => by
    have h1 := spl_no (a := r) (fun x hx => h x (by simp [hx]))
    rw [spl, if_neg (h b (by simp)), h1]
    rfl
theorem spl_app {c : UInt8} : ∀ {a b : Bs}, (∀ x ∈ a, x ≠ c) → spl c (a ++ c :: b) = a :: spl c b
  | [], b, _ => by simp [spl]
  | x :: r, b, h => by
    have h1 := spl_app (a := r) (b := b) (fun y hy => h y (by simp [hy]))
    rw [List.cons_append, spl, if_neg (h x (by simp)), h1]
    rfl
/-- Neither a space nor an end of a line. -/
def Vis (x : UInt8) : Prop := x ≠ 10 ∧ x ≠ 32
theorem vis_all : ∀ n : Fin 256, (47 < n.val) → UInt8.ofNat n.val ≠ 10 ∧ UInt8.ofNat n.val ≠ 32 := by decide +kernel
theorem vis_big {x : UInt8} (h : 45 ≤ x.toNat) : Vis x := by
  constructor
  · rintro rfl; exact absurd h (by decide)
  · rintro rfl; exact absurd h (by decide)
theorem vis_itoa (n : Int) : ∀ x ∈ Lib.itoa n, Vis x := by
  intro x hx
  unfold Lib.itoa at hx
  split at hx
  · rcases List.mem_cons.1 hx with rfl | hx
    · exact vis_big (by decide)
    · exact vis_big (by have := (decDigits_dg _ x hx).1; omega)
  · exact vis_big (by have := (decDigits_dg _ x hx).1; omega)
theorem dgs_big : ∀ k : Fin 16, 45 ≤ (dgs.getD k.val 0).toNat := by decide
theorem vis_hex (l : Bs) : ∀ x ∈ hexP l, Vis x := by
  intro x hx
  unfold hexP at hx
  split at hx
  · rw [List.mem_singleton] at hx; subst hx; exact vis_big (by decide)
  · obtain ⟨k, rfl⟩ := hexL_dg l x hx
    exact vis_big (dgs_big k)
theorem words_big : ∀ k : Fin 14, ∀ x ∈ kindsL.getD k.val [], 45 ≤ x.toNat := by decide +kernel
theorem words_ne : ∀ k : Fin 14, kindsL.getD k.val [] ≠ [] := by decide +kernel
theorem words_kind : ∀ k : Fin 14, kindP (kindsL.getD k.val []) = (k.val : Int) := by decide +kernel
/-! Digits back. -/
theorem nib_dg (q : Nat) (h : q < 16) : nibP (dgs.getD q 0) = q := nib_hit ⟨q, h⟩
theorem pairs_hex : ∀ l : Bs, pairsP (hexL l) = some l
  | [] => rfl
  | b :: l => by
    have hb := b.toNat_lt
    have h1 := nib_dg (b.toNat / 16) (by omega)
    have h2 := nib_dg (b.toNat % 16) (by omega)
    show pairsP (dgs.getD (b.toNat / 16) 0 :: dgs.getD (b.toNat % 16) 0 :: hexL l) = _
    rw [pairsP, h1, h2, if_neg (by omega), pairs_hex l]
    have e : ((16 * ((b.toNat / 16 : Nat) : Int) + ((b.toNat % 16 : Nat) : Int))).toNat = b.toNat := by omega
    rw [e]
    simp
theorem unhex_hex (l : Bs) : unhexP (hexP l) = some l := by
  unfold hexP
  split
  · next h => subst h; rfl
  · next h =>
    have hl := hexL_len l
    have hp : 0 < l.length := List.length_pos_iff.2 h
    unfold unhexP
    rw [if_neg (by intro e; rw [e] at hl; simp at hl; omega), if_neg (by intro e; rw [e] at hl; simp at hl; omega)]
    exact pairs_hex l
/-! A line back. -/
/-- A step with what its line tells alone. -/
def plainS (s : St) : St := ⟨s.kind, if 1 ≤ manyP s.kind then s.n else 0, if 2 ≤ manyP s.kind then s.m else 0, if 3 ≤ manyP s.kind then s.k else 0, if s.kind = 13 then s.b else []⟩
theorem text_parts {s : St} (hk : 0 ≤ s.kind ∧ s.kind ≤ 13) : ∃ ws : List Bs, spl 32 (textP s) = wordP s.kind :: ws ∧ (∀ x ∈ textP s, x ≠ 10) ∧
    (s.kind = 13 → ws = [hexP s.b]) ∧ (s.kind ≠ 13 → ws = ((numsS s).take (manyP s.kind)).map Lib.itoa) := by
  have hw : wordP s.kind = kindsL.getD s.kind.toNat [] := by unfold wordP; rw [if_pos hk]
  have hnw : numW s.kind = manyP s.kind := by unfold numW; rw [if_pos hk]
  have hv : ∀ x ∈ wordP s.kind, Vis x := fun x hx => by
    rw [hw] at hx
    exact vis_big (words_big ⟨s.kind.toNat, by omega⟩ x hx)
  have hi := fun n => vis_itoa n
  by_cases h13 : s.kind = 13
  · have hq : manyP s.kind = 0 := by unfold manyP; rw [if_pos (.inr (.inr h13))]
    have ht : textP s = wordP s.kind ++ 32 :: hexP s.b := by
      unfold textP baseT
      rw [if_pos h13, hnw, hq]
      rfl
    refine ⟨[hexP s.b], ?_, ?_, fun _ => rfl, fun h => absurd h13 h⟩
    · rw [ht, spl_app (fun x hx => (hv x hx).2), spl_no (fun x hx => (vis_hex _ x hx).2)]
    · intro x hx
      rw [ht] at hx
      rcases List.mem_append.1 hx with hx | hx
      · exact (hv x hx).1
      · rcases List.mem_cons.1 hx with rfl | hx
        · decide
        · exact (vis_hex _ x hx).1
  · have hb : ∀ (ns : List Int) (a : Bs), (∀ x ∈ a, x ≠ 10) → ∀ x ∈ ns.foldl addN a, x ≠ 10 := by
      intro ns
      induction ns with
      | nil => intro a h; exact h
      | cons n ns ih =>
        intro a h
        refine ih _ (fun x hx => ?_)
        rcases List.mem_append.1 hx with hx | hx
        · exact h x hx
        · rcases List.mem_cons.1 hx with rfl | hx
          · decide
          · exact (hi n x hx).1
    have hs : ∀ (ns : List Int) (a : Bs), (∀ x ∈ a, Vis x) → spl 32 (ns.foldl addN a) = a :: ns.map Lib.itoa := by
      intro ns
      -- from the end
      have key : ∀ (ns : List Int) (a p : Bs), (∀ x ∈ a, Vis x) → ∃ q, ns.foldl addN (p ++ a) = p ++ q ∧ spl 32 q = a :: ns.map Lib.itoa := by
        intro ns
        induction ns with
        | nil => intro a p h; exact ⟨a, rfl, spl_no (fun x hx => (h x hx).2)⟩
        | cons n ns ih =>
          intro a p h
          obtain ⟨q, h1, h2⟩ := ih (Lib.itoa n) (p ++ a ++ [32]) (hi n)
          refine ⟨a ++ 32 :: q, ?_, ?_⟩
          · show ns.foldl addN (addN (p ++ a) n) = _
            have e : addN (p ++ a) n = p ++ a ++ [32] ++ Lib.itoa n := by simp [addN]
            rw [e, h1]
            simp
          · rw [spl_app (fun x hx => (h x hx).2), h2]
            rfl
      intro a h
      obtain ⟨q, h1, h2⟩ := key ns a [] h
      rw [List.nil_append, List.nil_append] at h1
      rw [h1, h2]
    have ht : textP s = ((numsS s).take (manyP s.kind)).foldl addN (wordP s.kind) := by
      unfold textP baseT
      rw [if_neg h13, hnw]
    exact ⟨_, by rw [ht]; exact hs _ _ hv, by rw [ht]; exact hb _ _ (fun x hx => (hv x hx).1), fun h => absurd h h13, fun _ => rfl⟩
theorem nums_back : ∀ ns : List Int, (∀ n ∈ ns, I64s n) → numsP (ns.map Lib.itoa) = some ns
  | [], _ => rfl
  | n :: ns, h => by
    simp only [List.map_cons, numsP]
    rw [numP_itoa (h n (by simp)), nums_back ns (fun x hx => h x (by simp [hx]))]
    rfl
theorem line_text {s : St} (hok : OkSt s) (hk : 0 ≤ s.kind ∧ s.kind ≤ 13) : lineP (textP s) = some (plainS s) := by
  obtain ⟨ws, h1, _, h3, h4⟩ := text_parts hk
  have hw0 : word0 (textP s) = wordP s.kind := by unfold word0; rw [h1]; rfl
  have hkp : kindP (wordP s.kind) = s.kind := by
    have h5 := words_kind ⟨s.kind.toNat, by omega⟩
    unfold wordP
    rw [if_pos hk]
    simp only at h5
    rw [h5]
    omega
  unfold lineP
  rw [hw0, hkp, h1]
  by_cases h13 : s.kind = 13
  · rw [h3 h13, if_pos ⟨h13, rfl⟩]
    show (unhexP (hexP s.b)).map _ = _
    rw [unhex_hex]
    have hq : manyP s.kind = 0 := by unfold manyP; rw [if_pos (.inr (.inr h13))]
    unfold plainS
    rw [hq, if_pos h13]
    simp [h13]
  · have hq3 := manyP_le s.kind
    have hl : ws.length = manyP s.kind := by
      rw [h4 h13, List.length_map, List.length_take]
      show min _ 3 = _
      omega
    rw [if_neg (fun e => h13 e.1), if_neg (by
      rintro (e | e | e)
      · omega
      · exact h13 e
      · rw [List.length_cons, hl] at e; exact e rfl)]
    show (numsP ws).map _ = _
    rw [h4 h13, nums_back _ (fun n hn => by
      have hm := List.mem_of_mem_take hn
      simp [numsS] at hm
      rcases hm with rfl | rfl | rfl
      · exact hok.n
      · exact hok.m
      · exact hok.k)]
    unfold plainS
    rw [if_neg h13]
    have hc : manyP s.kind = 0 ∨ manyP s.kind = 1 ∨ manyP s.kind = 2 ∨ manyP s.kind = 3 := by omega
    rcases hc with e | e | e | e <;> rw [e] <;> rfl
theorem text_ne {s : St} (hk : 0 ≤ s.kind ∧ s.kind ≤ 13) : textP s ≠ [] := by
  obtain ⟨ws, h1, _⟩ := text_parts hk
  intro e
  rw [e] at h1
  have h2 : wordP s.kind = [] := by
    have h9 := congrArg (fun (x : List Bs) => x.headD []) h1
    exact h9.symm
  unfold wordP at h2
  rw [if_pos hk] at h2
  exact words_ne ⟨s.kind.toNat, by omega⟩ h2
theorem read_show : ∀ (L : List St) (i : Nat), (∀ s ∈ L, OkSt s ∧ 0 ≤ s.kind ∧ s.kind ≤ 13) → readR i (spl 10 (showP L)) = .inr (L.map plainS)
  | [], i, _ => by simp [showP, spl, readR]
  | s :: L, i, h => by
    obtain ⟨hok, hk⟩ := h s (by simp)
    obtain ⟨ws, _, h2, _⟩ := text_parts hk
    have e : showP (s :: L) = textP s ++ 10 :: showP L := by simp [showP]
    rw [e, spl_app h2, readR, if_neg (text_ne hk), line_text hok hk]
    simp only
    rw [read_show L (i + 1) (fun x hx => h x (by simp [hx]))]
    rfl
end Go.Proofs.YtljgemknccodeaaDoor
