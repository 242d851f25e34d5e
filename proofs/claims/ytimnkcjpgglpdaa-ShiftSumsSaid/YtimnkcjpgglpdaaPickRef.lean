/-
  WALKS: the backends of a table by the document's answer. Condition: the table reads as at most 600 integers.
-/
import Derived.Test.YtimnkcjpgglpdaaPickNodes
set_option linter.unusedVariables false
set_option linter.unusedSimpArgs false
namespace Go.Proofs.Ytimnkcjpgglpdaa
open Go.RowKit

/-- The least number of m above la, or 0. -/
def Best (m : List Int) (la b : Int) : Prop := (b = 0 ∧ ∀ x ∈ m, ¬ la < x) ∨ (la < b ∧ b ∈ m ∧ ∀ x ∈ m, la < x → b ≤ x)
theorem Best.nil (la : Int) : Best [] la 0 := .inl ⟨rfl, by simp⟩
theorem Best.no {m : List Int} {la b x : Int} (h : Best m la b) (hx : ¬ la < x) : Best (m ++ [x]) la b := by
  rcases h with ⟨h1, h2⟩ | ⟨h1, h2, h3⟩
  · refine .inl ⟨h1, fun y hy => ?_⟩
    rcases List.mem_append.1 hy with hy | hy
    · exact h2 y hy
    · simp at hy; omega
  · refine .inr ⟨h1, by simp [h2], fun y hy hl => ?_⟩
    rcases List.mem_append.1 hy with hy | hy
    · exact h3 y hy hl
    · simp at hy; omega
theorem Best.keep {m : List Int} {la b x : Int} (h : Best m la b) (hb : ¬ b = 0) (hx : ¬ x < b) : Best (m ++ [x]) la b := by
  rcases h with ⟨h1, h2⟩ | ⟨h1, h2, h3⟩
  · exact absurd h1 hb
  · refine .inr ⟨h1, by simp [h2], fun y hy hl => ?_⟩
    rcases List.mem_append.1 hy with hy | hy
    · exact h3 y hy hl
    · simp at hy; omega
theorem Best.take {m : List Int} {la b x : Int} (h0 : 0 ≤ la) (h : Best m la b) (hl : la < x) (hx : b = 0 ∨ x < b) : Best (m ++ [x]) la x := by
  refine .inr ⟨hl, by simp, fun y hy hy2 => ?_⟩
  rcases List.mem_append.1 hy with hy | hy
  · rcases h with ⟨h1, h2⟩ | ⟨h1, h2, h3⟩
    · exact absurd hy2 (h2 y hy)
    · have := h3 y hy hy2
      rcases hx with hx | hx <;> omega
  · simp at hy; omega

/-- ns are those of l above 0 and no more than la, rising. -/
def Pre (l ns : List Int) (la : Int) : Prop := 0 ≤ la ∧ ns.Pairwise (· < ·) ∧ ∀ x, x ∈ ns ↔ (0 < x ∧ x ∈ l ∧ x ≤ la)
theorem Pre.start (l : List Int) : Pre l [] 0 := ⟨by omega, List.Pairwise.nil, fun x => by simp; omega⟩
theorem Pre.step {l ns : List Int} {la b : Int} (h : Pre l ns la) (hb : Best l la b) (h0 : ¬ b = 0) : Pre l (ns ++ [b]) b := by
  obtain ⟨h1, h2, h3⟩ := h
  rcases hb with ⟨h4, _⟩ | ⟨h4, h5, h6⟩
  · exact absurd h4 h0
  refine ⟨by omega, List.pairwise_append.2 ⟨h2, by simp, fun x hx y hy => ?_⟩, fun x => ?_⟩
  · simp at hy; have := ((h3 x).1 hx).2.2; omega
  · rw [List.mem_append, h3 x]
    constructor
    · rintro (⟨a, b', c⟩ | hx)
      · exact ⟨a, b', by omega⟩
      · simp at hx; subst hx; exact ⟨by omega, h5, by omega⟩
    · rintro ⟨a, b', c⟩
      by_cases hx : la < x
      · have := h6 x b' hx
        exact .inr (by simp; omega)
      · exact .inl ⟨a, b', by omega⟩
theorem Pre.done {l ns : List Int} {la b : Int} (h : Pre l ns la) (hb : Best l la b) (h0 : b = 0) : IsNodes l ns := by
  obtain ⟨h1, h2, h3⟩ := h
  rcases hb with ⟨_, h4⟩ | ⟨h4, _, _⟩
  · refine ⟨h2, fun x => ?_⟩
    rw [h3 x]
    constructor
    · rintro ⟨a, b', _⟩; exact ⟨a, b'⟩
    · rintro ⟨a, b'⟩; exact ⟨a, b', by have := h4 x b'; omega⟩
  · omega
theorem Pre.len {l ns : List Int} {la : Int} (h : Pre l ns la) : ns.length ≤ l.length := by
  have nn : ns.Nodup := h.2.1.imp (fun h => by omega)
  exact nn.length_le_of_subset fun x hx => ((h.2.2 x).1 hx).2.1
theorem countP_less {p q : Int → Bool} : ∀ {l : List Int}, (∀ x ∈ l, q x = true → p x = true) → (∃ x ∈ l, p x = true ∧ q x = false) → l.countP q < l.countP p
  | [], _, ⟨x, hx, _⟩ => by cases hx
  | y :: l, h, ⟨x, hx, hp, hq⟩ => by
    have hle : l.countP q ≤ l.countP p := List.countP_mono_left fun z hz => h z (by simp [hz])
    rw [List.countP_cons, List.countP_cons]
    rcases List.mem_cons.1 hx with e | hx
    · subst e
      simp [hp, hq]; omega
    · have := countP_less (fun z hz => h z (by simp [hz])) ⟨x, hx, hp, hq⟩
      by_cases hy : q y = true
      · simp [hy, h y (by simp) hy]; omega
      · simp [hy]; omega
theorem Best.less {l : List Int} {la b : Int} (hb : Best l la b) (h0 : ¬ b = 0) : l.countP (fun x => decide (b < x)) < l.countP (fun x => decide (la < x)) := by
  rcases hb with ⟨h4, _⟩ | ⟨h4, h5, h6⟩
  · exact absurd h4 h0
  · exact countP_less (fun x _ hx => by simp at hx ⊢; omega) ⟨b, h5, by simpa using h4, by simp⟩

set_option maxRecDepth 100000 in
set_option maxHeartbeats 1000000 in
theorem nodes18_any {w : World} {B : Nat} {v : Value} {l : List Int} (h : SlZ w B v l) (hl : l.length ≤ 600) :
    Calls Try.prog 18 #[v] w fun e w' => ∃ v' ns, e = .returned v' ∧ IsNodes l ns ∧ SlZ w' w.heap.size v' ns ∧ Below w.heap.size w w' := by
  obtain ⟨i0, hi, hz0, hz1, hz2⟩ := info_parts elZ.info
  obtain ⟨A, c, hv⟩ := Sl.form h
  have HV := Lib.hid hv
  have HS := Lib.hid h
  rw [hv]
  clear hv h
  generalize hL : l.length = len at *
  go_enter Try.func18, Try.ntmps18
  go_wp2
  go_loopw [3, 4] (fun v' la wr => ∃ (ns : List Int) (a : Int), la = .int .i64 a ∧ Hid (Pre l ns a) ∧ wr.ownsRow w.heap.size 3 1 v' ns.length (ns.map (Value.int .i64)) ∧ Below w.heap.size w wr)
    (fun _ la _ => l.countP (fun x => decide (intOf la < x)))
  case atStart => exact ⟨[], 0, rfl, Lib.hid (Pre.start l), World.ownsRow_nil .., Below.refl _ _⟩
  case round =>
    obtain ⟨ns, a, rfl, HP, hrow, hnx⟩ := hrel
    go_wp2
    go_loop [5, 6] (fun best i => ∃ (k : Nat) (b : Int), k ≤ len ∧ i = .int .i64 k ∧ best = .int .i64 b ∧ Hid (Best (l.take k) a b)) (fun _ i => len - (intOf i).toNat)
    case atStart => exact ⟨0, 0, Nat.zero_le _, rfl, rfl, Lib.hid (by simpa using Best.nil a)⟩
    case round =>
      obtain ⟨k, bst, hk, rfl, rfl, HB⟩ := hrel
      by_cases hlt : k < len
      · obtain ⟨b, off, c', hv, _, hb, _, hc⟩ := HS.out.all (by omega)
        have hv' := HV.out.symm.trans hv
        rw [hL] at hv'
        simp only [Value.slice.injEq, true_and] at hv'
        obtain ⟨rfl, rfl⟩ := hv'
        clear hv
        have hcx := (hnx.cell (p := ⟨b, off + k, none⟩) hb).trans (hc k (by omega))
        clear hc
        have ht : l.take (k + 1) = l.take k ++ [l[k]?.getD 0] := by rw [List.take_add_one, List.getElem?_eq_getElem (by omega)]; rfl
        generalize l[k]?.getD 0 = x at *
        have HT := Lib.hid ht
        clear ht
        by_cases hx : a < x
        · by_cases hb0 : bst = 0
          · have HN := Lib.hid (Best.take HP.out.1 HB.out hx (.inl hb0))
            subst hb0
            go_wp2
            go_round
            case rel => exact ⟨k + 1, x, by omega, by go_num, rfl, Lib.hid (by rw [HT.out]; exact HN.out)⟩
            case measure => simp [intOf]; omega
          · have hbb : (bst == 0) = false := by simp [hb0]
            by_cases hxb : x < bst
            · have HN := Lib.hid (Best.take HP.out.1 HB.out hx (.inr hxb))
              go_wp2
              go_round
              case rel => exact ⟨k + 1, x, by omega, by go_num, rfl, Lib.hid (by rw [HT.out]; exact HN.out)⟩
              case measure => simp [intOf]; omega
            · have HN := Lib.hid (HB.out.keep hb0 hxb)
              go_wp2
              go_round
              case rel => exact ⟨k + 1, bst, by omega, by go_num, rfl, Lib.hid (by rw [HT.out]; exact HN.out)⟩
              case measure => simp [intOf]; omega
        · have HN := Lib.hid (HB.out.no hx)
          go_wp2
          go_round
          case rel => exact ⟨k + 1, bst, by omega, by go_num, rfl, Lib.hid (by rw [HT.out]; exact HN.out)⟩
          case measure => simp [intOf]; omega
      · obtain rfl : k = len := by omega
        have HB2 : Hid (Best l a bst) := Lib.hid (by have := HB.out; rwa [← hL, List.take_length] at this)
        clear HB
        by_cases hb0 : bst = 0
        · have HN := Lib.hid (HP.out.done HB2.out hb0)
          subst hb0
          go_wp2
          go_ret
          exact ⟨_, rfl, ns, HN.out, Sl.of_own hrow, hnx⟩
        · have hbb : (bst == 0) = false := by simp [hb0]
          have HN := Lib.hid (HP.out.step HB2.out hb0)
          have hln := HP.out.len
          have HL := Lib.hid (HB2.out.less hb0)
          go_wp2_with (first
            | (at_builtin; refine wpList_append_own _ rfl _ _ 22 rfl w.heap.size 3 i0 (.int .i64 0) 1 8 Try.underlying22 hi hz0 hz1 hz2 rfl (by decide) _ _ _ rfl (hrow.alloc _) ⟨wr.heap.size, 0, none⟩ 1 1 [.int .i64 bst] rfl rfl (cell_one_new _ _ _) (by simp [Value.oneCell']) (by unfold maxLen at *; omega) (by omega) (by have := hnx.size; simp; omega) ?_; intro v3 w3 hown' hg3 hnil3)
            | go_in)
          go_roundw
          case rel =>
            refine ⟨ns ++ [bst], bst, rfl, HN, by simpa using hown', ?_⟩
            exact (hnx.alloc hnx.size _).grown hg3 (by have := hnx.size; simp; omega) (fun j hj => (hrow.lt j hj).1)
          case measure =>
            exact HL.out
end Go.Proofs.Ytimnkcjpgglpdaa
