/-
  WALKS: the reference's Find, Put and Del over a list of pairs. Conditions: the list has at most 300 pairs.
-/
import Derived.Test.YtelbaooifmkpkaaMem
set_option linter.unusedVariables false
set_option linter.unusedSimpArgs false
namespace Go.Proofs.Ytelbaooifmkpkaa
open Go.RowKit

structure PR where
  k : Int
  v : Int
def encP (p : PR) : List Value := [.int .i64 p.k, .int .i64 p.v]
theorem encP_len (p : PR) : (encP p).length = 2 := rfl
theorem encP_one (p : PR) : ∀ u ∈ encP p, u.oneCell' = true := by intro u hu; simp [encP] at hu; rcases hu with rfl | rfl <;> rfl
/-- The slice v reads as the pairs l. -/
def SlP (w : World) (B : Nat) (v : Value) (l : List PR) : Prop := Sl w B 2 v l.length (l.flatMap encP)
def findP (l : List PR) (k : Int) : Option Nat := l.findIdx? (fun p => p.k == k)
def idxOr (o : Option Nat) : Int := match o with | none => -1 | some i => i
theorem idxOr_some (i : Nat) : idxOr (some i) = (i : Int) := rfl
theorem idxOr_none : idxOr none = -1 := rfl

theorem elP : El Try.prog 27 39 (.agg #[.int .i64 0, .int .i64 0]) 2 16 := ⟨Try.underlying27, by kernel_rfl, rfl, by omega⟩

theorem SlP.at_ {w : World} {B : Nat} {v : Value} {l : List PR} (h : SlP w B v l) {i : Nat} {p : PR} (hi : l[i]? = some p) :
    ∃ b o c, v = .slice (some ⟨b, o, none⟩) l.length c ∧ B ≤ b ∧ l.length ≤ c ∧ w.cell? ⟨b, o + i * 2, none⟩ = some (.int .i64 p.k) ∧ w.cell? ⟨b, o + i * 2 + 1, none⟩ = some (.int .i64 p.v) := by
  have hl : i < l.length := (List.getElem?_eq_some_iff.1 hi).1
  obtain ⟨b, o, c, hv, hb, hcap, hx⟩ := Sl.at_ h hl (by omega)
  refine ⟨b, o, c, hv, hb, hcap, ?_, ?_⟩
  · have := hx 0 (by omega)
    rw [flat_at encP_len l i 0 (by omega), hi] at this
    exact this
  · have := hx 1 (by omega)
    rw [flat_at encP_len l i 1 (by omega), hi] at this
    exact this

set_option maxHeartbeats 400000 in
theorem find21_any {w : World} {B : Nat} {v : Value} {l : List PR} (k : Int) (h : SlP w B v l) (hn : l.length ≤ 300) :
    Calls Try.prog 16 #[v, .int .i64 k] w fun e w' => e = .returned (.int .i64 (idxOr (findP l k))) ∧ w = w' := by
  obtain ⟨A, c, hv⟩ := Sl.form h
  have HV := Lib.hid hv
  rw [hv]
  clear hv
  go_enter Try.func16, Try.ntmps16
  go_wp2_with fail
  go_loop [5] (fun i => ∃ j : Nat, j ≤ l.length ∧ i = .int .i64 j ∧ (l.take j).findIdx? (fun p => p.k == k) = none) (fun i => l.length - (intOf i).toNat)
  case atStart => exact ⟨0, by omega, rfl, by simp⟩
  case round =>
    obtain ⟨j, hj, rfl, hf⟩ := hrel
    have HF := Lib.hid hf
    clear hf
    by_cases hlt : j < l.length
    · have hp : l[j]? = some l[j] := List.getElem?_eq_getElem hlt
      generalize hpe : l[j] = p at hp
      clear hpe
      have HP := Lib.hid hp
      clear hp
      obtain ⟨b, o, c', hv, _, _, g0, g1⟩ := h.at_ HP.out
      have hv' := HV.out.symm.trans hv
      simp only [Value.slice.injEq, true_and] at hv'
      obtain ⟨rfl, rfl⟩ := hv'
      clear hv
      by_cases hk : p.k = k
      · have hr : findP l k = some j := by
          unfold findP
          rw [List.findIdx?_eq_some_iff_getElem]
          refine ⟨hlt, ?_, ?_⟩
          · have := HP.out
            rw [List.getElem?_eq_getElem hlt] at this
            simp at this
            simp [this, hk]
          · intro i hi
            have := List.findIdx?_eq_none_iff.1 HF.out (l[i]'(by omega)) (by rw [List.mem_take_iff_getElem]; exact ⟨i, by omega, rfl⟩)
            simp [this]
        have HR := Lib.hid hr
        clear hr
        have hkb : (p.k == k) = true := by simp [hk]
        clear hk
        go_wp2_with fail
        go_ret
        rw [HR.out]
        exact ⟨rfl, rfl⟩
      · have hkb : (p.k == k) = false := by simp [hk]
        go_wp2_with fail
        go_round
        case rel =>
          refine ⟨j + 1, by omega, by go_num, ?_⟩
          rw [List.take_add_one, HP.out]
          rw [List.findIdx?_append, HF.out]
          simp [hk]
        case measure => simp [intOf]; omega
    · have hr : findP l k = none := by
        have := HF.out
        rw [show j = l.length by omega, List.take_length] at this
        exact this
      have HR := Lib.hid hr
      clear hr
      go_wp2_with fail
      go_ret
      rw [HR.out]
      exact ⟨rfl, rfl⟩

/-- Something stands by a key, if there is room. -/
def putP (l : List PR) (most : Int) (k v : Int) : List PR × Bool :=
  match findP l k with
  | some i => (l.set i ⟨k, v⟩, true)
  | none => if most ≤ l.length then (l, false) else (l ++ [⟨k, v⟩], true)
def delP (l : List PR) (k : Int) : List PR × Bool :=
  match findP l k with
  | some i => (l.eraseIdx i, true)
  | none => (l, false)
theorem findP_some {l : List PR} {k : Int} {i : Nat} (h : findP l k = some i) : ∃ p, l[i]? = some p ∧ p.k = k ∧ i < l.length := by
  unfold findP at h
  rw [List.findIdx?_eq_some_iff_getElem] at h
  obtain ⟨hlt, h1, _⟩ := h
  exact ⟨l[i], List.getElem?_eq_getElem hlt, by simpa using h1, hlt⟩

set_option maxHeartbeats 1000000 in
theorem put21_any {w : World} {B : Nat} {v : Value} {l : List PR} (most k x : Int) (h : SlP w B v l) (hn : l.length ≤ 299) (hB : B ≤ w.heap.size) :
    Calls Try.prog 12 #[v, .int .i64 most, .int .i64 k, .int .i64 x] w fun e w' =>
      ∃ v', e = .returned (.tuple #[v', .bool (putP l most k x).2]) ∧ SlP w' B v' (putP l most k x).1 ∧ Chg [] w w' := by
  obtain ⟨A, c, hv⟩ := Sl.form h
  have h' := h
  rw [hv] at h'
  have HV := Lib.hid hv
  rw [hv]
  clear hv
  have arm : ∀ {w1 : World}, w1 = w.alloc (.cells #[] 39) → True := fun _ => trivial
  have hcat : SlP (w.alloc (.cells #[] 39)) B (.slice A l.length c) l := Sl.chg0 h' ((Chg.refl _ _).alloc _)
  have hown0 : (w.alloc (.cells #[] 39)).ownsRow w.heap.size 39 2 (.slice (some ⟨w.heap.size, 0, none⟩) 0 0) 0 [] := own_lit w _ 2 0 #[] (Nat.le_refl _) (by simp [maxLen]) rfl
  cases hf : findP l k with
  | some i =>
    obtain ⟨p, hp, hk, hlt⟩ := findP_some hf
    have hr : putP l most k x = (l.set i ⟨k, x⟩, true) := by unfold putP; rw [hf]
    have HR := Lib.hid hr
    have HF := Lib.hid hf
    have HP := Lib.hid hp
    have HK := Lib.hid hk
    clear hf hr hp hk
    go_enter Try.func12, Try.ntmps12
    go_wp2_with (at_builtin; refine wpList_app elP rfl (.tmp 12) (.tmp 13) rfl w.heap.size rfl hown0 rfl hcat (flat_one encP_one l) (by simp only [maxLen]; omega) (by omega) (by simp) ?_; intro v1 w1 hown1 hc1 hb1)
    rw [Nat.zero_add, List.nil_append] at hown1
    have hc1' : Chg [] w w1 := ((Chg.refl [] w).alloc _).trans' hc1 (fun y hy => .inr (own_lt hown0 y hy).1)
    refine (find21_any k (Sl.chg0 h' hc1') (by omega)).mono ?_
    rw [HF.out, idxOr_some]
    rintro e w' ⟨rfl, rfl⟩
    obtain ⟨g, cap, hv1, hg, hg2⟩ := own_form hown1 (by omega)
    subst hv1
    have g1 := (hown1.cellAt (i * 2 + 1) (by omega)).trans ((flat_at encP_len l i 1 (by omega)).trans (by rw [HP.out]))
    have gf := hown1.frozenAt (i * 2 + 1)
    go_wp2_with fail
    go_ret2
    rw [HR.out]
    refine ⟨_, rfl, ?_, hc1'.setCell (.inr hg) _⟩
    have hst := (hown1.stored (i * 2 + 1) (.int .i64 x)).1
    rw [flat_set encP_len l i 1 p ⟨k, x⟩ _ (by omega) HP.out (by simp [encP, HK.out])] at hst
    have := Sl.of_own (size := 2) hst
    refine Sl.less (B := w.heap.size) ?_ hB
    simpa [SlP] using this
  | none =>
    by_cases hroom : most ≤ l.length
    · have hr : putP l most k x = (l, false) := by unfold putP; rw [hf]; simp [hroom]
      have HR := Lib.hid hr
      have HF := Lib.hid hf
      clear hf hr
      go_enter Try.func12, Try.ntmps12
      go_wp2_with (at_builtin; refine wpList_app elP rfl (.tmp 12) (.tmp 13) rfl w.heap.size rfl hown0 rfl hcat (flat_one encP_one l) (by simp only [maxLen]; omega) (by omega) (by simp) ?_; intro v1 w1 hown1 hc1 hb1)
      rw [Nat.zero_add, List.nil_append] at hown1
      have hc1' : Chg [] w w1 := ((Chg.refl [] w).alloc _).trans' hc1 (fun y hy => .inr (own_lt hown0 y hy).1)
      refine (find21_any k (Sl.chg0 h' hc1') (by omega)).mono ?_
      rw [HF.out, idxOr_none]
      rintro e w' ⟨rfl, rfl⟩
      go_wp2_with fail
      go_ret2
      rw [HR.out]
      exact ⟨_, rfl, Sl.chg0 h' hc1', hc1'⟩
    · have hr : putP l most k x = (l ++ [⟨k, x⟩], true) := by unfold putP; rw [hf]; simp [hroom]
      have HR := Lib.hid hr
      have HF := Lib.hid hf
      clear hf hr
      go_enter Try.func12, Try.ntmps12
      go_wp2_with (at_builtin; refine wpList_app elP rfl (.tmp 12) (.tmp 13) rfl w.heap.size rfl hown0 rfl hcat (flat_one encP_one l) (by simp only [maxLen]; omega) (by omega) (by simp) ?_; intro v1 w1 hown1 hc1 hb1)
      rw [Nat.zero_add, List.nil_append] at hown1
      have hc1' : Chg [] w w1 := ((Chg.refl [] w).alloc _).trans' hc1 (fun y hy => .inr (own_lt hown0 y hy).1)
      refine (find21_any k (Sl.chg0 h' hc1') (by omega)).mono ?_
      rw [HF.out, idxOr_none]
      rintro e w' ⟨rfl, rfl⟩
      have hownA : (w1.alloc (.cells #[.int .i64 k, .int .i64 x] 39)).ownsRow w.heap.size 39 2 v1 l.length (l.flatMap encP) := hown1.alloc _
      have hone : SlP (w1.alloc (.cells #[.int .i64 k, .int .i64 x] 39)) w1.heap.size (.slice (some ⟨w1.heap.size, 0, none⟩) 1 1) [⟨k, x⟩] :=
        Sl.of_own (own_lit w1 39 2 1 #[.int .i64 k, .int .i64 x] (Nat.le_refl _) (by simp [maxLen]) rfl)
      go_wp2_with (at_builtin; refine wpList_app elP rfl (.tmp 31) (.tmp 35) rfl w.heap.size rfl hownA rfl hone (flat_one encP_one _) (by simp only [maxLen, List.length_singleton]; omega) (by simp only [List.length_singleton]; omega) (by have := hc1'.size; simp; omega) ?_; intro v2 w2 hown2 hc2 hb2)
      go_ret2
      rw [HR.out]
      refine ⟨_, rfl, ?_, (hc1'.alloc _).trans' hc2 (fun y hy => .inr (own_lt hownA y hy).1)⟩
      have := Sl.of_own hown2
      rw [← List.flatMap_append] at this
      refine Sl.less (B := w.heap.size) ?_ hB
      simpa [SlP] using this

set_option maxHeartbeats 1000000 in
theorem del21_any {w : World} {B : Nat} {v : Value} {l : List PR} (k : Int) (h : SlP w B v l) (hn : l.length ≤ 300) (hB : B ≤ w.heap.size) :
    Calls Try.prog 14 #[v, .int .i64 k] w fun e w' =>
      ∃ v', e = .returned (.tuple #[v', .bool (delP l k).2]) ∧ SlP w' B v' (delP l k).1 ∧ Chg [] w w' := by
  obtain ⟨A, c, hv⟩ := Sl.form h
  have h' := h
  rw [hv] at h'
  have HV := Lib.hid hv
  rw [hv]
  clear hv
  cases hf : findP l k with
  | none =>
    have hr : delP l k = (l, false) := by unfold delP; rw [hf]
    have HR := Lib.hid hr
    have HF := Lib.hid hf
    clear hf hr
    go_enter Try.func14, Try.ntmps14
    go_wp2_with fail
    refine (find21_any k h' (by omega)).mono ?_
    rw [HF.out, idxOr_none]
    rintro e w' ⟨rfl, rfl⟩
    go_wp2_with fail
    go_ret2
    rw [HR.out]
    exact ⟨_, rfl, h', Chg.refl _ _⟩
  | some i =>
    obtain ⟨p, hp, hk, hlt⟩ := findP_some hf
    have hr : delP l k = (l.eraseIdx i, true) := by unfold delP; rw [hf]
    have HR := Lib.hid hr
    have HF := Lib.hid hf
    have HP := Lib.hid hp
    have HK := Lib.hid hk
    clear hf hr hp hk
    obtain ⟨bb, oo, cc, hv, _, hcap, _, _⟩ := h'.at_ HP.out
    simp only [Value.slice.injEq, true_and] at hv
    obtain ⟨rfl, rfl⟩ := hv
    go_enter Try.func14, Try.ntmps14
    go_wp2_with fail
    refine (find21_any k h' (by omega)).mono ?_
    rw [HF.out, idxOr_some]
    rintro e w' ⟨rfl, rfl⟩
    have hown0 : (w.alloc (.cells #[] 39)).ownsRow w.heap.size 39 2 (.slice (some ⟨w.heap.size, 0, none⟩) 0 0) 0 [] := own_lit w _ 2 0 #[] (Nat.le_refl _) (by simp [maxLen]) rfl
    have hcat : SlP (w.alloc (.cells #[] 39)) B (.slice (some ⟨bb, oo, none⟩) l.length c) l := Sl.chg0 h' ((Chg.refl _ _).alloc _)
    have hlt' := Nat.le_of_lt hlt
    have tok1 : True := trivial
    have hE : (l.take i).flatMap encP ++ (l.drop (i + 1)).flatMap encP = (l.eraseIdx i).flatMap encP := by
      rw [← List.flatMap_append, List.eraseIdx_eq_take_drop_succ]
    have HE := Lib.hid hE
    clear hE
    have hlE : (l.eraseIdx i).length = l.length - 1 := List.length_eraseIdx_of_lt hlt
    have HL := Lib.hid hlE
    clear hlE
    by_cases hcc : c = i + 1
    · subst hcc
      go_wp2_with (first | (at_builtin; have _t := tok1; refine wpList_app elP rfl (.tmp 14) (.tmp 17) rfl w.heap.size rfl hown0 rfl (Sl.take hcat hlt') (fun u hu => flat_one encP_one l u (List.mem_of_mem_take hu)) (by simp only [maxLen]; omega) (by omega) (by simp) ?_; intro v1 w1 hown1 hc1 hb1; have hc1' : Chg [] w w1 := ((Chg.refl [] w).alloc _).trans' hc1 (fun y hy => .inr (own_lt hown0 y hy).1); clear tok1) | (at_builtin; refine wpList_app elP rfl (.tmp 19) (.tmp 23) rfl w.heap.size rfl hown1 rfl (Sl.empty w1 0 2 _ _) (by simp) (by simp only [maxLen]; omega) (by omega) hc1'.size ?_; intro v2 w2 hown2 hc2 hb2))
      go_ret2
      rw [HR.out]
      refine ⟨_, rfl, ?_, hc1'.trans' hc2 (fun y hy => .inr (own_lt hown1 y hy).1)⟩
      have hd : l.drop (i + 1) = [] := List.drop_eq_nil_of_le (by omega)
      have := Sl.of_own hown2
      have e := HE.out
      rw [hd] at e
      rw [List.nil_append, flat_take encP_len, List.append_nil, ← List.append_nil ((l.take i).flatMap encP), ← List.flatMap_nil (f := encP), e] at this
      refine Sl.less (B := w.heap.size) ?_ hB
      show Sl _ _ _ _ (l.eraseIdx i).length ((l.eraseIdx i).flatMap encP)
      rw [HL.out, show l.length - 1 = 0 + i + 0 by omega]
      exact this
    · go_wp2_with (first | (at_builtin; have _t := tok1; refine wpList_app elP rfl (.tmp 14) (.tmp 17) rfl w.heap.size rfl hown0 rfl (Sl.take hcat hlt') (fun u hu => flat_one encP_one l u (List.mem_of_mem_take hu)) (by simp only [maxLen]; omega) (by omega) (by simp) ?_; intro v1 w1 hown1 hc1 hb1; have hc1' : Chg [] w w1 := ((Chg.refl [] w).alloc _).trans' hc1 (fun y hy => .inr (own_lt hown0 y hy).1); clear tok1) | (at_builtin; refine wpList_app elP rfl (.tmp 19) (.tmp 23) rfl w.heap.size rfl hown1 rfl (Sl.drop' (k := i + 1) (Sl.chg0 h' hc1') (by omega) hcc) (fun u hu => flat_one encP_one l u (List.mem_of_mem_drop hu)) (by simp only [maxLen]; omega) (by omega) hc1'.size ?_; intro v2 w2 hown2 hc2 hb2))
      go_ret2
      rw [HR.out]
      refine ⟨_, rfl, ?_, hc1'.trans' hc2 (fun y hy => .inr (own_lt hown1 y hy).1)⟩
      have := Sl.of_own hown2
      rw [List.nil_append, flat_take encP_len, flat_drop encP_len, HE.out] at this
      refine Sl.less (B := w.heap.size) ?_ hB
      show Sl _ _ _ _ (l.eraseIdx i).length ((l.eraseIdx i).flatMap encP)
      rw [HL.out, show l.length - 1 = 0 + i + (l.length - (i + 1)) by omega]
      exact this
end Go.Proofs.Ytelbaooifmkpkaa
