/-
  PLAIN and WALKS: rows of nodes in order (package model's list, has, hunt; slices.Contains). Condition: at most 1000 nodes in a row.
-/
import Derived.Test.YtgbdbeaflilmlaaInsert
import Derived.Test.YtgbdbeaflilmlaaFlowOut
set_option linter.unusedVariables false
set_option linter.unusedSimpArgs false
namespace Go.Proofs.Ytgbdbeaflilmlaa
open Go.RowKit Go.Maps

/-- One more, in order, each once. -/
def insZ (l : List Int) (x : Int) : List Int := if x ≤ 0 ∨ x ∈ l then l else l.take (l.countP (· < x)) ++ x :: l.drop (l.countP (· < x))
theorem insZ_len (l : List Int) (x : Int) : (insZ l x).length ≤ l.length + 1 := by
  unfold insZ
  split
  · omega
  · have := List.countP_le_length (p := (fun y => decide (y < x))) (l := l)
    simp; omega
/-- In a rising row those below x stand ahead. -/
theorem count_split {l : List Int} (h : l.Pairwise (· < ·)) (x : Int) : (∀ y ∈ l.take (l.countP (· < x)), y < x) ∧ (∀ y ∈ l.drop (l.countP (· < x)), x ≤ y) := by
  induction l with
  | nil => simp
  | cons a l ih0 =>
    obtain ⟨h1, h2⟩ := List.pairwise_cons.1 h
    have ih := ih0 h2
    by_cases ha : a < x
    · rw [List.countP_cons_of_pos (by simpa using ha)]
      refine ⟨fun y hy => ?_, fun y hy => ?_⟩
      · rw [List.take_succ_cons] at hy
        rcases List.mem_cons.1 hy with rfl | hy
        · exact ha
        · exact ih.1 y hy
      · rw [List.drop_succ_cons] at hy
        exact ih.2 y hy
    · have h0 : l.countP (· < x) = 0 := by
        rw [List.countP_eq_zero]
        intro y hy
        have := h1 y hy
        simp; omega
      rw [List.countP_cons_of_neg (by simpa using ha), h0]
      refine ⟨by simp, fun y hy => ?_⟩
      rw [List.drop_zero] at hy
      rcases List.mem_cons.1 hy with rfl | hy
      · omega
      · have := h1 y hy; omega
theorem insZ_rise {l : List Int} (h : l.Pairwise (· < ·)) (x : Int) : (insZ l x).Pairwise (· < ·) := by
  unfold insZ
  split
  · exact h
  · next hx =>
    have hs := count_split h x
    have hp : (l.take (l.countP (· < x)) ++ l.drop (l.countP (· < x))).Pairwise (· < ·) := by rw [List.take_append_drop]; exact h
    obtain ⟨p1, p2, p3⟩ := List.pairwise_append.1 hp
    refine List.pairwise_append.2 ⟨p1, List.pairwise_cons.2 ⟨fun y hy => ?_, p2⟩, fun a ha b hb => ?_⟩
    · have h1 := hs.2 y hy
      have h2 : x ≠ y := fun e => hx (.inr (e ▸ List.mem_of_mem_drop hy))
      omega
    · rcases List.mem_cons.1 hb with rfl | hb
      · exact hs.1 a ha
      · exact p3 a ha b hb
theorem mem_insZ {l : List Int} {x y : Int} : y ∈ insZ l x ↔ y ∈ l ∨ (y = x ∧ 0 < x) := by
  unfold insZ
  split
  · next h =>
    constructor
    · exact .inl
    · rintro (h1 | ⟨rfl, h1⟩)
      · exact h1
      · rcases h with h | h
        · omega
        · exact h
  · next h =>
    have h2 : 0 < x := by have : ¬ x ≤ 0 := fun e => h (.inl e); omega
    rw [List.mem_append, List.mem_cons]
    constructor
    · rintro (h1 | rfl | h1)
      · exact .inl (List.mem_of_mem_take h1)
      · exact .inr ⟨rfl, h2⟩
      · exact .inl (List.mem_of_mem_drop h1)
    · rintro (h1 | ⟨rfl, _⟩)
      · rw [← List.take_append_drop (l.countP (· < x)) l, List.mem_append] at h1
        rcases h1 with h1 | h1
        · exact .inl h1
        · exact .inr (.inr h1)
      · exact .inr (.inl rfl)

theorem SlZ.chg0 {w w' : World} {B : Nat} {v : Value} {l : List Int} (h : SlZ w B v l) (hc : Chg [] w w') : SlZ w' B v l := Sl.chg0 h hc
theorem zI_one (l : List Int) : ∀ u ∈ zI l, u.oneCell' = true := by intro u hu; obtain ⟨x, _, rfl⟩ := List.mem_map.1 hu; rfl
set_option maxRecDepth 100000 in
set_option maxHeartbeats 1000000 in
theorem index_any {w : World} {B : Nat} {v : Value} {l : List Int} (h : SlZ w B v l) (hl : l.length ≤ 1000) (x : Int) :
    Calls Try.prog 93 #[v, .int .i64 x] w fun e w' => ∃ r : Int, e = .returned (.int .i64 r) ∧ (decide (0 ≤ r) = decide (x ∈ l)) ∧ w = w' := by
  obtain ⟨A, c, rfl⟩ := Sl.form h
  have HX : Hid (∀ i, i < l.length → ∃ b o y, A = some ⟨b, o, none⟩ ∧ l[i]? = some y ∧ w.cell? ⟨b, o + i, none⟩ = some (.int .i64 y)) := Lib.hid fun i hi => by
    obtain ⟨b, o, c', hv, _, _, hc⟩ := Sl.at_ h hi (by omega)
    simp only [Value.slice.injEq] at hv
    obtain ⟨rfl, _, _⟩ := hv
    refine ⟨b, o, _, rfl, List.getElem?_eq_getElem hi, ?_⟩
    have := hc 0 (by omega)
    simpa [List.getElem?_eq_getElem hi] using this
  clear h
  generalize hN : l.length = N at *
  go_enter Try.func93, Try.ntmps93
  go_wp2_with fail
  go_loopw [5, 8] (fun iv kv wr => ∃ k : Nat, k ≤ N ∧ kv = .int .i64 k ∧ w = wr ∧ Hid (∀ i y, i < k → l[i]? = some y → ¬ x = y)) (fun _ kv _ => N - (intOf kv).toNat)
  case atStart => exact ⟨0, by omega, rfl, rfl, Lib.hid (fun i t hi => by omega)⟩
  case round =>
    obtain ⟨k, hk, rfl, rfl, HN⟩ := hrel
    by_cases hlt : k < N
    · obtain ⟨b, o, y, rfl, hy, hcell⟩ := HX.out k hlt
      have HY := Lib.hid hy
      clear hy
      by_cases hid : x = y
      · have hb : (x == y) = true := by simp [hid]
        have hr : Hid (decide (0 ≤ (k : Int)) = decide (x ∈ l)) := Lib.hid (by
          rw [decide_eq_true (by omega), decide_eq_true (hid ▸ List.mem_of_getElem? HY.out)])
        go_wp2_with fail
        go_ret
        exact ⟨_, rfl, hr.out, rfl⟩
      · have hb : (x == y) = false := by simp [hid]
        go_wp2_with fail
        go_roundw
        case rel =>
          refine ⟨k + 1, by omega, by go_num, by first | trivial | rfl, Lib.hid fun i t hi ht => ?_⟩
          rcases Nat.lt_or_ge i k with h1 | h1
          · exact HN.out i t h1 ht
          · rw [show i = k by omega, HY.out] at ht
            injection ht with ht; subst ht; exact hid
        case measure => simp [intOf]; omega
    · obtain rfl : k = N := by omega
      have hr : Hid (decide (0 ≤ (-1 : Int)) = decide (x ∈ l)) := Lib.hid (by
        rw [decide_eq_false (by omega), decide_eq_false (fun hm => by
          obtain ⟨i, hi, rfl⟩ := List.mem_iff_getElem.1 hm
          exact HN.out i _ (by omega) (List.getElem?_eq_getElem hi) rfl)])
      go_wp2_with fail
      go_ret
      exact ⟨_, rfl, hr.out, rfl⟩
set_option maxHeartbeats 400000 in
theorem contains_any {w : World} {B : Nat} {v : Value} {l : List Int} (h : SlZ w B v l) (hl : l.length ≤ 1000) (x : Int) :
    Calls Try.prog 67 #[v, .int .i64 x] w fun e w' => e = .returned (.bool (decide (x ∈ l))) ∧ w = w' := by
  have F1 := Lib.hid (index_any h hl x)
  clear h
  go_enter Try.func67, Try.ntmps67
  go_wp2_with fail
  refine F1.out.mono ?_
  rintro e w1 ⟨r, rfl, hr, rfl⟩
  have HR := Lib.hid hr
  clear hr F1
  go_wp2_with fail
  go_ret
  exact ⟨by rw [← HR.out]; rfl, rfl⟩
set_option maxRecDepth 100000 in
set_option maxHeartbeats 1000000 in
theorem mlist_any {w : World} {B : Nat} {v : Value} {l : List Int} (h : SlZ w B v l) (hl : l.length ≤ 1000) (hs : l.Pairwise (· < ·)) (hB : B ≤ w.heap.size) (x : Int) :
    Calls Try.prog 92 #[v, .int .i64 x] w fun e w' => ∃ v', e = .returned v' ∧ SlZ w' B v' (insZ l x) ∧ ((v' = v ∧ insZ l x = l) ∨ SlZ w' w.heap.size v' (insZ l x)) ∧ Chg [] w w' := by
  have F1 := Lib.hid (search_any h hl hs x)
  have FC := Lib.hid (fun w1 (hc : Chg [] w w1) => clone_any (h.chg0 hc) hl)
  have hcl := List.countP_le_length (p := (fun y => decide (y < x))) (l := l)
  have HSL := Lib.hid h
  have HV : Hid (insZ l x = if x ≤ 0 ∨ x ∈ l then l else l.take (l.countP (· < x)) ++ x :: l.drop (l.countP (· < x))) := Lib.hid rfl
  clear h
  have hcb : l.contains x = decide (x ∈ l) := by simp
  rw [hcb] at F1
  by_cases hm : x ∈ l
  · rw [decide_eq_true hm] at F1
    have HV2 : Hid (insZ l x = l) := Lib.hid (by rw [HV.out, if_pos (.inr hm)])
    go_enter Try.func92, Try.ntmps92
    go_wp2_with fail
    refine F1.out.mono ?_
    rintro e w1 ⟨rfl, hc1⟩
    go_wp2_with fail
    go_ret
    exact ⟨_, rfl, by rw [HV2.out]; exact HSL.out.chg0 hc1, .inl ⟨rfl, HV2.out⟩, hc1⟩
  · rw [decide_eq_false hm] at F1
    by_cases h0 : x ≤ 0
    · have hb : decide (x ≤ 0) = true := by simp [h0]
      have HV2 : Hid (insZ l x = l) := Lib.hid (by rw [HV.out, if_pos (.inl h0)])
      go_enter Try.func92, Try.ntmps92
      go_wp2_with fail
      refine F1.out.mono ?_
      rintro e w1 ⟨rfl, hc1⟩
      go_wp2_with fail
      go_ret
      exact ⟨_, rfl, by rw [HV2.out]; exact HSL.out.chg0 hc1, .inl ⟨rfl, HV2.out⟩, hc1⟩
    · have hb : decide (x ≤ 0) = false := decide_eq_false h0
      have HV2 : Hid (insZ l x = l.take (l.countP (· < x)) ++ x :: l.drop (l.countP (· < x))) := Lib.hid (by rw [HV.out, if_neg (by simp [hm]; omega)])
      generalize hk : l.countP (· < x) = k at *
      have hkl : k ≤ l.length := hcl
      clear hk hcl hm HV hcb
      go_enter Try.func92, Try.ntmps92
      go_wp2_with fail
      refine F1.out.mono ?_
      rintro e w1 ⟨rfl, hc1⟩
      have F2 := Lib.hid (FC.out w1 hc1)
      have HC1 := Lib.hid hc1
      clear F1 FC hc1
      go_wp2_with fail
      refine F2.out.mono ?_
      rintro e w2 ⟨v2, rfl, ho2, hc2⟩
      have hz1 := HC1.out.size
      have hz2 := hc2.size
      have hA := (Chg.refl [] w2).alloc (.cells #[.int .i64 x] 3)
      have ho3 := own_chg ho2 hA (by simp)
      have hB3 : Blk (w2.alloc (.cells #[.int .i64 x] 3)) w2.heap.size 3 #[.int .i64 x] := Blk.new _ _ _
      have hlt := own_lt ho2
      have F3 := Lib.hid (insert_own (i := k) ho3 hkl hl (by simp; omega) hB3 (fun hmm => by have := (hlt _ hmm).2; omega) (zI_one l) rfl)
      have HZ := Lib.hid (And.intro hA (And.intro hc2 hlt))
      clear hA ho3 hB3 hlt ho2 hc2 F2
      go_wp2_with fail
      refine F3.out.mono ?_
      rintro e w4 ⟨v4, rfl, ho4, hc4⟩
      have hs4 := Lib.hid (Sl.of_own ho4)
      have HC4 := Lib.hid (((HC1.out.trans HZ.out.2.1).trans HZ.out.1).trans' hc4 (fun y hy => .inr (by have := (HZ.out.2.2 y hy).1; omega)))
      clear ho4 hc4 F3
      go_wp2_with fail
      go_ret
      have e2 : (l.take k ++ x :: l.drop k).length = l.length + 1 := by simp; omega
      have hfin : SlZ w4 w.heap.size v4 (insZ l x) := by
        rw [HV2.out]
        unfold SlZ
        rw [e2]
        have := hs4.out.less (B' := w.heap.size) (by omega)
        simpa [zI, List.map_take, List.map_drop] using this
      exact ⟨_, rfl, Sl.less hfin hB, .inr hfin, HC4.out⟩
end Go.Proofs.Ytgbdbeaflilmlaa
