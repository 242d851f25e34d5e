/-
  slices.Clone, BinarySearch and Insert at rows of integers, by what the slices read. Condition: at most 1000 integers.
-/
import Derived.Test.YtgbdbeaflilmlaaShelfM
import Derived.Test.YtgbdbeaflilmlaaMapO
set_option linter.unusedVariables false
set_option linter.unusedSimpArgs false
namespace Go.Proofs.Ytgbdbeaflilmlaa
open Go.RowKit Go.Maps Go.Proofs Go.Lib Go.Shelf Go.Sort

abbrev zI (l : List Int) : List Value := l.map (Value.int .i64)
/-- The slice v reads as the integers l. -/
def SlZ (w : World) (B : Nat) (v : Value) (l : List Int) : Prop := Sl w B 1 v l.length (zI l)
theorem SlZ.cells {w : World} {B b o n c : Nat} {l : List Int} (h : SlZ w B (.slice (some ⟨b, o, none⟩) n c) l) (hn : 0 < l.length) : ∀ j, j < l.length → w.cell? ⟨b, o + j, none⟩ = some (.int .i64 (l.getD j 0)) := by
  obtain ⟨hl, A, c', hv, hcap, hr⟩ := h
  obtain ⟨b', o', hA, hb, hx⟩ := hr hn
  simp only [Value.slice.injEq] at hv
  obtain ⟨rfl, _, _⟩ := hv
  simp only [Option.some.injEq, Addr.mk.injEq] at hA
  obtain ⟨rfl, rfl, _⟩ := hA
  intro j hj
  refine hx j _ ?_
  rw [List.getElem?_map, List.getElem?_eq_getElem hj]
  simp [List.getD, List.getElem?_eq_getElem hj]
theorem clone_any {w : World} {B : Nat} {v : Value} {l : List Int} (h : SlZ w B v l) (hl : l.length ≤ 1000) :
    Calls Try.prog 70 #[v] w fun e w' => ∃ v', e = .returned v' ∧ w'.ownsRow w.heap.size 3 1 v' l.length (zI l) ∧ Chg [] w w' := by
  obtain ⟨A, c, rfl⟩ := Sl.form h
  rcases Nat.eq_zero_or_pos l.length with h0 | h0
  · obtain rfl : l = [] := List.eq_nil_of_length_eq_zero h0
    rcases A with _ | a
    · refine (Try.slices_Clone_int_nil 0 c w).mono ?_
      rintro e w' ⟨rfl, rfl⟩
      exact ⟨_, rfl, World.ownsRow_nil .., Chg.refl _ _⟩
    · refine (Try.slices_Clone_int_zero a c w).mono ?_
      rintro e w' ⟨v', rfl, ho, _, hb⟩
      exact ⟨v', rfl, ho, Chg.of_below hb⟩
  · have h1 := h
    obtain ⟨_, A', c', hv, hcap, hr⟩ := h1
    obtain ⟨b, o, hA, hb, hx⟩ := hr h0
    simp only [Value.slice.injEq] at hv
    obtain ⟨rfl, _, rfl⟩ := hv
    subst hA
    refine (Try.slices_Clone_int b o l.length c l w (Nat.le_refl _) (by omega) (SlZ.cells h h0)).mono ?_
    rintro e w' ⟨v', rfl, ho, _, hb⟩
    rw [List.take_length] at ho
    exact ⟨v', rfl, ho, Chg.of_below hb⟩
theorem search_any {w : World} {B : Nat} {v : Value} {l : List Int} (h : SlZ w B v l) (hl : l.length ≤ 1000) (hs : l.Pairwise (· < ·)) (x : Int) :
    Calls Try.prog 112 #[v, .int .i64 x] w fun e w' => e = .returned (.tuple #[.int .i64 (l.countP (· < x) : Nat), .bool (l.contains x)]) ∧ Chg [] w w' := by
  obtain ⟨A, c, rfl⟩ := Sl.form h
  rcases Nat.eq_zero_or_pos l.length with h0 | h0
  · obtain rfl : l = [] := List.eq_nil_of_length_eq_zero h0
    refine (Try.slices_BinarySearch_int_empty A c x w).mono ?_
    rintro e w' ⟨rfl, rfl⟩
    exact ⟨rfl, Chg.refl _ _⟩
  · have h1 := h
    obtain ⟨_, A', c', hv, hcap, hr⟩ := h1
    obtain ⟨b, o, hA, hb, hx⟩ := hr h0
    simp only [Value.slice.injEq] at hv
    obtain ⟨rfl, _, rfl⟩ := hv
    subst hA
    refine (Try.slices_BinarySearch_int b o l.length c l x w (Nat.le_refl _) (by omega) (SlZ.cells h h0) (by rw [List.take_length]; exact hs.imp (fun h => by omega))).mono ?_
    rintro e w' ⟨rfl, q, rfl⟩
    rw [List.take_length]
    exact ⟨rfl, (Chg.refl _ _).drewN q⟩

theorem ins_take {R : Array Value} {cs : List Value} {n i : Nat} {x : Value} (hsz : n + 1 ≤ R.size) (hcl : cs.length = n) (hi : i ≤ n) (h1 : ∀ j, j < i → R[j]? = cs[j]?) (h2 : R[i]? = some x) (h3 : ∀ j, i < j → j < n + 1 → R[j]? = cs[j - 1]?) :
    R.toList.take (n + 1) = cs.take i ++ x :: cs.drop i := by
  apply List.ext_getElem?
  intro j
  rw [List.getElem?_take]
  by_cases hj : j < n + 1
  · rw [if_pos hj, Array.getElem?_toList]
    by_cases a1 : j < i
    · rw [h1 j a1, List.getElem?_append_left (by rw [List.length_take]; omega), List.getElem?_take, if_pos a1]
    · rw [List.getElem?_append_right (by rw [List.length_take]; omega), List.length_take, show min i cs.length = i by omega]
      by_cases a2 : j = i
      · subst a2; rw [h2]; simp
      · rw [h3 j (by omega) hj, show j - i = (j - 1 - i) + 1 by omega, List.getElem?_cons_succ, List.getElem?_drop, show i + (j - 1 - i) = j - 1 by omega]
  · rw [if_neg hj, List.getElem?_eq_none (by simp; omega)]
theorem own_block {w : World} {base size n g cap : Nat} {e : TypeId} {cur : Array Value} {xs : List Value} (hb : base ≤ g) (hB : Blk w g e cur) (h1 : n ≤ cap) (h2 : cap ≤ maxLen) (h3 : cur.size = cap * size) (h4 : xs.length = n * size) (h5 : cur.toList.take (n * size) = xs) :
    w.ownsRow base e size (.slice (some ⟨g, 0, none⟩) n cap) n xs := ⟨h4, .inr ⟨g, cap, cur, rfl, hb, hB, h1, h2, h3, h5⟩⟩
theorem ins_len {cs : List Value} {n i : Nat} {x : Value} (hcl : cs.length = n) (hi : i ≤ n) : (cs.take i ++ x :: cs.drop i).length = n + 1 := by
  rw [List.length_append, List.length_take, List.length_cons, List.length_drop]; omega

set_option maxHeartbeats 1000000 in
theorem insert_own {w : World} {base n i vb : Nat} {v : Value} {cs : List Value} {x : Value} (h : w.ownsRow base 3 1 v n cs) (hi : i ≤ n) (hl : n ≤ 1000) (hbase : base ≤ w.heap.size) (hv : Blk w vb 3 #[x]) (hvb : vb ∉ v.ownBlock.toList) (h1c : ∀ u ∈ cs, u.oneCell' = true) (h1x : x.oneCell' = true) :
    Calls Try.prog 113 #[v, .int .i64 i, .slice (some ⟨vb, 0, none⟩) 1 1] w fun e w' => ∃ v', e = .returned v' ∧ w'.ownsRow base 3 1 v' (n + 1) (cs.take i ++ x :: cs.drop i) ∧ Chg v.ownBlock.toList w w' := by
  have hcl : cs.length = n := by rw [h.1, Nat.mul_one]
  have hvs : ∀ (j : Nat) (u : Value), ([x] : List Value)[j]? = some u → w.cell? ⟨vb, 0 + j, none⟩ = some u := fun j u hu => by
    rw [Nat.zero_add, hv.cell]; simpa using hu
  have h1v : ∀ u ∈ ([x] : List Value), u.oneCell' = true := fun u hu => by simp at hu; subst hu; exact h1x
  have hz : ∀ k, (Builtin.zeroCells (Value.int .i64 0).cells k).size = k := fun k => by simp [Builtin.zeroCells, Value.cells]
  rcases h.2 with ⟨rfl, h0⟩ | ⟨g, cap, cur, rfl, hb, hB0, hcap, hmx, hcs, ht⟩
  · subst h0
    obtain rfl : i = 0 := by omega
    obtain rfl : cs = [] := List.eq_nil_of_length_eq_zero hcl
    refine (Any2.slices_Insert_int_end_grow Try.laysNm221 none 0 0 vb 0 1 1 [] [x] w (by omega) (by omega) (by omega) (by omega) rfl rfl (fun _ => rfl) (fun a h => by cases h) hvs h1v).mono ?_
    rintro e w' ⟨rfl, rfl⟩
    refine ⟨_, rfl, ?_, (Chg.refl _ _).drew.alloc _⟩
    refine own_block hbase (Blk.new w.drew 3 _) (grownCap_ge w _ _ _) (grownCap_le_maxLen w _ _ _ (by unfold maxLen; omega)) ?_ rfl ?_
    · have := grownCap_ge w 1 0 3
      have e1 : Try.laysNm221_ren.t 3 = 3 := rfl
      rw [e1]
      simp [hz]
      omega
    · simp
  · have hB : Blk w g 3 cur := hB0
    rw [Nat.mul_one] at hcs ht
    have hne : vb ≠ g := fun e => hvb (by simp [Value.ownBlock, e])
    have hcc : ∀ j, j < n → cur[j]? = cs[j]? := fun j hj => by rw [← ht, List.getElem?_take, if_pos hj]; simp
    have hcell : ∀ (j : Nat) (u : Value), cs[j]? = some u → w.cell? ⟨g, 0 + j, none⟩ = some u := fun j u hu => by
      have hj : j < n := by have := (List.getElem?_eq_some_iff.1 hu).1; omega
      rw [Nat.zero_add, hB.cell, hcc j hj]; exact hu
    by_cases hroom : n + 1 ≤ cap
    · by_cases hin : i < n
      · refine (Any2.slices_Insert_int_shift Try.laysNm221 g 0 n cap i vb 0 1 1 cs [x] w hin (by omega) hroom (by unfold maxLen at hmx; omega) hne hcl rfl hcell
          (fun j hj => by rw [Nat.zero_add, hB.cell, Array.getElem?_eq_getElem (by omega)]; rfl) (fun j hj => by rw [hB.frozen]) hvs h1c h1v 3 3 1 cur.size
          (by unfold Blk at hv; simp [World.shape?, hv]) (by simp [World.shape?, hB0]) (by omega) (hv.frozen 0) (hv.frozen 1)).mono ?_
        rintro e w' ⟨rfl, rfl⟩
        have hB2 := Blk.setCells [x] (0 + i) _ (Blk.setCells (cs.drop i) (0 + (i + 1)) cur (Blk.drew hB))
        have hs2 : (putAt (putAt cur (0 + (i + 1)) (cs.drop i)) (0 + i) [x]).size = cap := by rw [putAt_size, putAt_size]; exact hcs
        have hdl : (cs.drop i).length = n - i := by rw [List.length_drop, hcl]
        refine ⟨_, rfl, own_block hb hB2 hroom hmx (by rw [hs2, Nat.mul_one]) (by rw [ins_len hcl hi, Nat.mul_one]) ?_, ?_⟩
        · rw [Nat.mul_one]
          refine ins_take (by omega) hcl hi (fun j hj => ?_) ?_ (fun j hj hj2 => ?_)
          · rw [putAt_get _ _ _ _ (by rw [putAt_size]; omega), if_neg (by simp; omega), putAt_get _ _ _ _ (by omega), if_neg (by omega)]
            exact hcc j (by omega)
          · rw [putAt_get _ _ _ _ (by rw [putAt_size]; omega), if_pos (by simp)]
            simp
          · rw [putAt_get _ _ _ _ (by rw [putAt_size]; omega), if_neg (by simp; omega), putAt_get _ _ _ _ (by omega), if_pos (by rw [hdl]; omega), List.getElem?_drop]
            congr 1; omega
        · have c1 := ((Chg.refl [g] w).drew.trans (Chg.setCells (cs.drop i) (0 + (i + 1)))).trans (Chg.setCells [x] (0 + i))
          simpa [Value.ownBlock] using c1
      · obtain rfl : i = n := by omega
        refine (Any2.slices_Insert_int_end_room Try.laysNm221 g 0 i cap vb 0 1 1 [x] w (by omega) hroom (by unfold maxLen at hmx; omega) rfl
          (fun j hj => by rw [hB.cell, Array.getElem?_eq_getElem (by omega)]; rfl) (fun j hj => by rw [hB.frozen]) hvs h1v).mono ?_
        rintro e w' ⟨rfl, rfl⟩
        have hB2 := Blk.setCells [x] (0 + i) _ hB
        have hs2 : (putAt cur (0 + i) [x]).size = cap := by rw [putAt_size]; exact hcs
        refine ⟨_, rfl, own_block hb hB2 hroom hmx (by rw [hs2, Nat.mul_one]) (by rw [ins_len hcl hi, Nat.mul_one]) ?_, ?_⟩
        · rw [Nat.mul_one]
          refine ins_take (by omega) hcl hi (fun j hj => ?_) ?_ (fun j hj hj2 => by omega)
          · rw [putAt_get _ _ _ _ (by omega), if_neg (by simp; omega)]
            exact hcc j (by omega)
          · rw [putAt_get _ _ _ _ (by omega), if_pos (by simp)]
            simp
        · have c1 := (Chg.refl [g] w).trans (Chg.setCells [x] (0 + i))
          simpa [Value.ownBlock] using c1
    · by_cases hin : i < n
      · refine (Any2.slices_Insert_int_grow Try.laysNm221 g 0 n cap i vb 0 1 1 cs [x] w hin (by omega) hcap (by omega) (by omega) hcl rfl hcell hvs h1c h1v).mono ?_
        rintro e w' ⟨rfl, rfl⟩
        have e1 : Try.laysNm221_ren.t 3 = 3 := rfl
        rw [e1]
        have hge := grownCap_ge w (n + 1) cap 3
        have hle := grownCap_le_maxLen w (n + 1) cap 3 (by unfold maxLen; omega)
        generalize grownCap w (n + 1) cap 3 = G at *
        generalize hrow : (cs.take i).toArray ++ Builtin.zeroCells (Value.int .i64 0).cells (n + 1 - i) ++ Builtin.zeroCells (Value.int .i64 0).cells (G - (n + 1)) = row
        have hrs : row.size = G := by
          rw [← hrow, Array.size_append, Array.size_append, hz, hz]
          simp; omega
        have hr1 : ∀ j, j < i → row[j]? = cs[j]? := fun j hj => by
          rw [← hrow, Array.append_assoc, Array.getElem?_append_left (by simp; omega)]
          simp [List.getElem?_take, hj]
        have hdl : (cs.drop i).length = n - i := by rw [List.length_drop, hcl]
        have hB2 := Blk.setCells (cs.drop i) (i + 1) _ (Blk.drew (Blk.setCells [x] i row (Blk.drew (Blk.new w 3 row))))
        have hs2 : (putAt (putAt row i [x]) (i + 1) (cs.drop i)).size = G := by rw [putAt_size, putAt_size]; exact hrs
        refine ⟨_, rfl, own_block hbase hB2 hge hle (by rw [hs2, Nat.mul_one]) (by rw [ins_len hcl hi, Nat.mul_one]) ?_, ?_⟩
        · rw [Nat.mul_one]
          refine ins_take (by omega) hcl hi (fun j hj => ?_) ?_ (fun j hj hj2 => ?_)
          · rw [putAt_get _ _ _ _ (by rw [putAt_size]; omega), if_neg (by omega), putAt_get _ _ _ _ (by omega), if_neg (by simp; omega)]
            exact hr1 j hj
          · rw [putAt_get _ _ _ _ (by rw [putAt_size]; omega), if_neg (by omega), putAt_get _ _ _ _ (by omega), if_pos (by simp)]
            simp
          · rw [putAt_get _ _ _ _ (by rw [putAt_size]; omega), if_pos (by rw [hdl]; omega), List.getElem?_drop]
            congr 1; omega
        · have hA := (Chg.refl (Value.slice (some ⟨g, 0, none⟩) n cap).ownBlock.toList w).alloc (.cells row 3)
          refine ((hA.drew.trans' (Chg.setCells (g := w.heap.size) [x] i) ?_).drew).trans' (Chg.setCells (g := w.heap.size) (cs.drop i) (i + 1)) ?_
          · intro y hy; simp at hy; subst hy; exact .inr (Nat.le_refl _)
          · intro y hy; simp at hy; subst hy; exact .inr (Nat.le_refl _)
      · obtain rfl : i = n := by omega
        refine (Any2.slices_Insert_int_end_grow Try.laysNm221 (some ⟨g, 0, none⟩) i cap vb 0 1 1 cs [x] w (by omega) hcap (by omega) (by omega) hcl rfl (fun h => by cases h)
          (fun a ha j u hu => by
            injection ha with ha; subst ha
            have := hcell j u hu
            unfold Addr.add
            split
            · next hj => simpa [hj] using this
            · exact this) hvs h1v).mono ?_
        rintro e w' ⟨rfl, rfl⟩
        have e1 : Try.laysNm221_ren.t 3 = 3 := rfl
        rw [e1]
        have hge := grownCap_ge w (i + 1) cap 3
        have hle := grownCap_le_maxLen w (i + 1) cap 3 (by unfold maxLen; omega)
        generalize grownCap w (i + 1) cap 3 = G at *
        refine ⟨_, rfl, own_block hbase (Blk.new w.drew 3 _) hge hle ?_ (by rw [ins_len hcl hi, Nat.mul_one]) ?_, (Chg.refl _ _).drew.alloc _⟩
        · rw [Array.size_append, hz]; simp; omega
        · rw [Nat.mul_one, List.take_of_length_le (l := cs) (by omega), List.drop_eq_nil_of_le (by omega), Array.toList_append, List.take_append_of_le_length (by simp; omega), List.take_of_length_le (by simp; omega)]
end Go.Proofs.Ytgbdbeaflilmlaa
