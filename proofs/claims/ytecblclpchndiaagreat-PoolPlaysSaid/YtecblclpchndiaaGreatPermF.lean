/-
  WALK: perm.Of, the order in which a backend takes slots. Condition: from 2 to 1000 slots.
-/
import Derived.Test.YtecblclpchndiaaGreatPermI
import Derived.Test.YtecblclpchndiaaGreatPickFirst
set_option linter.unusedVariables false
set_option linter.unusedSimpArgs false
namespace Go.Proofs.YtecblclpchndiaaGreat
open Go.RowKit Go.Shelf

attribute [local go_sem] Oper.semAt_some

/-- A row of one's own that a cell holds, in the worlds of a loop over a function. -/
def OutI (B : Nat) (b : Nat) (xs : List Int) (W : World) : Prop := ∃ v, W.cell? ⟨b, 0, none⟩ = some v ∧ W.frozen? ⟨b, 0, none⟩ = false ∧ W.ownsRow B 3 1 v xs.length (xs.map (Value.int .i64)) ∧ b < B ∧ B ≤ W.heap.size
theorem outI_own (B b : Nat) : Own (OutI B b) := fun s W W' row hs hg hr => by
  obtain ⟨v, h1, h2, h3, h4, h5⟩ := hs
  have hr' : ∀ r, row = some r → ∀ x t o, W.heap[r]? = some (.cells x t o) → False := fun r e x t o h => by
    obtain ⟨o', ho, hn⟩ := hr r e
    rw [h] at ho
    cases ho
    cases hn
  refine ⟨v, cell_kept h1 hg hr, (frozen_kept h1 hg hr).trans h2, h3.kept hg ?_, h4, Nat.le_trans h5 hg.size⟩
  rcases h3.2 with ⟨rfl, _⟩ | ⟨g, cap, cur, rfl, _, hh, _⟩
  · cases row with
    | none => exact .inl rfl
    | some r => exact .inr (by simp [Value.ownBlock])
  · cases row with
    | none => exact .inr (by simp [Value.ownBlock])
    | some r =>
      refine .inr ?_
      intro e
      simp [Value.ownBlock] at e
      subst e
      exact hr' _ rfl _ _ _ hh

theorem keepsO_chg {S : List Nat} {W W' : World} (h : Chg S W W') (hS : ∀ x ∈ S, ∃ cs t o, W.heap[x]? = some (.cells cs t o)) : KeepsOthers W W' :=
  ⟨h.size, fun k o hk ho => by
    have hlt := (Array.getElem?_eq_some_iff.1 hk).1
    by_cases hm : k ∈ S
    · obtain ⟨cs, t, o', hc⟩ := hS k hm
      rw [hk] at hc
      cases hc
      cases ho
    · rw [h.block k hlt hm]; exact hk⟩
theorem own_cells {w : World} {base size n : Nat} {e : TypeId} {v : Value} {xs : List Value} (h : w.ownsRow base e size v n xs) : ∀ x ∈ v.ownBlock.toList, ∃ cs t o, w.heap[x]? = some (.cells cs t o) := by
  intro x hx
  rcases h.2 with ⟨rfl, _⟩ | ⟨g, cap, cur, rfl, _, hh, _⟩
  · simp [Value.ownBlock] at hx
  · simp [Value.ownBlock] at hx
    subst hx
    exact ⟨_, _, _, hh⟩
theorem own_less {w : World} {B B' size n : Nat} {e : TypeId} {v : Value} {xs : List Value} (h : w.ownsRow B e size v n xs) (hB : B' ≤ B) : w.ownsRow B' e size v n xs := by
  refine ⟨h.1, ?_⟩
  rcases h.2 with h2 | ⟨g, cap, cur, a, b, c⟩
  · exact .inl h2
  · exact .inr ⟨g, cap, cur, a, Nat.le_trans hB b, c⟩
set_option maxRecDepth 100000 in
set_option maxHeartbeats 4000000 in
theorem of_any (ka kb node : Int) (m : Nat) (h2 : 2 ≤ m) (h3 : m ≤ 1000) (w : World) :
    Calls Tryz.prog 98 #[.agg #[.int .u64 ka, .int .u64 kb], .int .i64 node, .int .i64 m] w fun e w' => ∃ v, e = .returned v ∧ w'.ownsRow w.heap.size 3 1 v m ((ordN ka kb m node).map (fun x : Nat => Value.int .i64 x)) ∧ Chg [] w w' := by
  refine (callsIn_wide (n := 5)).1 ?_
  have hA := (Chg.refl [] w).alloc (.cells #[.int .u64 ka, .int .u64 kb] 24)
  have hB1 : Blk (w.alloc (.cells #[.int .u64 ka, .int .u64 kb] 24)) w.heap.size 24 #[.int .u64 ka, .int .u64 kb] := Blk.new _ _ _
  have hA2 := hA.alloc (.cells #[.slice none 0 0] 38)
  have hB2 := hB1.alloc (.cells #[.slice none 0 0] 38)
  have hB3 : Blk ((w.alloc (.cells #[.int .u64 ka, .int .u64 kb] 24)).alloc (.cells #[.slice none 0 0] 38)) (w.heap.size + 1) 38 #[.slice none 0 0] := Blk.new' (by simp)
  have hz : ((w.alloc (.cells #[.int .u64 ka, .int .u64 kb] 24)).alloc (.cells #[.slice none 0 0] 38)).heap.size = w.heap.size + 2 := by simp
  have HI := Lib.hid (And.intro hA2 (And.intro hB2 (And.intro hB3 hz)))
  have F0 := Lib.hid (fun W => may_any m h2 h3 W)
  have F1 := Lib.hid (fun W => offset_any ka kb node m h2 h3 W)
  have F2 := Lib.hid (fun W => skip_any ka kb node m h2 h3 W)
  have hoff := offN_lt (ka := ka) (kb := kb) (node := node) h2
  have hskp := (skpN_lt (ka := ka) (kb := kb) (node := node) h2).2
  have HR : Hid ((ordN ka kb m node) = stepsS (offN ka kb node m) (skpN ka kb node m) m) := Lib.hid rfl
  generalize offN ka kb node m = off at *
  generalize skpN ka kb node m = skp at *
  clear hA hA2 hB1 hB2 hB3 hz
  refine callsIn_of_wp_marks Tryz.func98 rfl trivial ?_ rfl
  simp only [Tryz.ntmps98, List.size_toArray, List.length_cons, List.length_nil, Nat.reduceAdd, Nat.reduceSub, Array.replicate_succ, Array.replicate_zero, List.push_toArray, List.append_toArray, List.nil_append, List.cons_append]
  gi_wp2_with (refine ⟨trivial, ?_⟩; gi_at_call 103; refine (callsIn_wide.2 (F0.out _)).mono ?_; rintro e w' ⟨rfl, rfl⟩)
  refine wpIn_wide.2 ?_
  obtain ⟨hA, hB1, hB3, hz⟩ := HI.out
  generalize ((w.alloc (.cells #[.int .u64 ka, .int .u64 kb] 24)).alloc (.cells #[.slice none 0 0] 38)) = w1 at *
  have HSR : ∀ W : World, Blk W w.heap.size 24 #[.int .u64 ka, .int .u64 kb] → W.rangeAt w.heap.size 0 (#[.int .u64 ka, .int .u64 kb] : Array Value).toList := fun W h => h.rangeQ
  have hS0 := hB1.drew
  have hA2 : Chg [] w1 w1.drew := (Chg.refl [] w1).drew
  refine wp_region_noPanic ?_
  refine wp_region_held_drew (S := fun W : World => Blk W w.heap.size 24 #[.int .u64 ka, .int .u64 kb]) (by kernel_rfl) hS0 (fun _ => ?_)
  generalize w1.drew = w2 at *
  refine wpAnyH_take (i := 0) rfl (by kernel_rfl) (by kernel_rfl) (by kernel_rfl) (fun _ _ _ h => h) (yields_row (by rfl) 24 (.tmp 3) rfl w.heap.size 0 rfl (#[.int .u64 ka, .int .u64 kb]) _ HSR Tryz.underlying24 rfl (by kernel_rfl)) (by with_reducible assumption) ?_
  try simp only [List.getElem_toArray, List.getElem_cons_succ, List.getElem_cons_zero, Act.put, List.setIfInBounds_toArray, List.set_cons_zero, List.set_cons_succ]
  refine wpAnyH_take (i := 1) (v := ?_) rfl (by kernel_rfl) (by kernel_rfl) (by kernel_rfl) (fun _ _ _ h => h) (yields_pure (by rfl) (fun w => ?_)) (by with_reducible assumption) ?_
  rotate_left
  · (go_simp <;> with_reducible rfl)
  try simp only [List.getElem_toArray, List.getElem_cons_succ, List.getElem_cons_zero, Act.put, List.setIfInBounds_toArray, List.set_cons_zero, List.set_cons_succ]
  refine wpAnyH_take (i := 2) (v := ?_) rfl (by kernel_rfl) (by kernel_rfl) (by kernel_rfl) (fun _ _ _ h => h) (yields_pure (by rfl) (fun w => ?_)) (by with_reducible assumption) ?_
  rotate_left
  · (go_simp <;> with_reducible rfl)
  try simp only [List.getElem_toArray, List.getElem_cons_succ, List.getElem_cons_zero, Act.put, List.setIfInBounds_toArray, List.set_cons_zero, List.set_cons_succ]
  refine wpAnyH_take (i := 4) rfl (by kernel_rfl) (by kernel_rfl) (by kernel_rfl) (fun _ _ _ h => h) (yields_row (by rfl) 24 (.tmp 3) rfl w.heap.size 0 rfl (#[.int .u64 ka, .int .u64 kb]) _ HSR Tryz.underlying24 rfl (by kernel_rfl)) (by with_reducible assumption) ?_
  try simp only [List.getElem_toArray, List.getElem_cons_succ, List.getElem_cons_zero, Act.put, List.setIfInBounds_toArray, List.set_cons_zero, List.set_cons_succ]
  refine wpAnyH_take (i := 5) (v := ?_) rfl (by kernel_rfl) (by kernel_rfl) (by kernel_rfl) (fun _ _ _ h => h) (yields_pure (by rfl) (fun w => ?_)) (by with_reducible assumption) ?_
  rotate_left
  · (go_simp <;> with_reducible rfl)
  try simp only [List.getElem_toArray, List.getElem_cons_succ, List.getElem_cons_zero, Act.put, List.setIfInBounds_toArray, List.set_cons_zero, List.set_cons_succ]
  refine wpAnyH_take (i := 6) (v := ?_) rfl (by kernel_rfl) (by kernel_rfl) (by kernel_rfl) (fun _ _ _ h => h) (yields_pure (by rfl) (fun w => ?_)) (by with_reducible assumption) ?_
  rotate_left
  · (go_simp <;> with_reducible rfl)
  try simp only [List.getElem_toArray, List.getElem_cons_succ, List.getElem_cons_zero, Act.put, List.setIfInBounds_toArray, List.set_cons_zero, List.set_cons_succ]
  refine wpAnyH_take (i := 8) (v := ?_) rfl (by kernel_rfl) (by kernel_rfl) (by kernel_rfl) (fun _ _ _ h => h) (yields_pure (by rfl) (fun w => ?_)) (by with_reducible assumption) ?_
  rotate_left
  · (go_simp <;> with_reducible rfl)
  try simp only [List.getElem_toArray, List.getElem_cons_succ, List.getElem_cons_zero, Act.put, List.setIfInBounds_toArray, List.set_cons_zero, List.set_cons_succ]
  refine wpAnyH_ready (rs := [3]) (by kernel_rfl) (by simp) (AllReadyH.cons rfl (fun K hK => ?_) AllReadyH.nil)
  go_simp
  refine (F1.out _).mono ?_
  rintro e w3 ⟨rfl, hc3⟩
  have hS3 : (fun W : World => Blk W w.heap.size 24 #[.int .u64 ka, .int .u64 kb]) w3 := hS0.chg hc3 (by simp)
  refine hK.out _ _ (by with_reducible assumption) (fun _ => ?_)
  clear hK K
  try simp only [List.getElem_toArray, List.getElem_cons_succ, List.getElem_cons_zero, Act.put, List.setIfInBounds_toArray, List.set_cons_zero, List.set_cons_succ]
  refine wpAnyH_ready (rs := [7]) (by kernel_rfl) (by simp) (AllReadyH.cons rfl (fun K hK => ?_) AllReadyH.nil)
  go_simp
  refine (F2.out _).mono ?_
  rintro e w4 ⟨rfl, hc4⟩
  have hS4 : (fun W : World => Blk W w.heap.size 24 #[.int .u64 ka, .int .u64 kb]) w4 := hS3.chg hc4 (by simp)
  refine hK.out _ _ (by with_reducible assumption) (fun _ => ?_)
  clear hK K
  try simp only [List.getElem_toArray, List.getElem_cons_succ, List.getElem_cons_zero, Act.put, List.setIfInBounds_toArray, List.set_cons_zero, List.set_cons_succ]
  refine wpAnyH_ready (rs := [9]) (by kernel_rfl) (by simp) (AllReadyH.cons rfl (fun K hK => ?_) AllReadyH.nil)
  go_simp
  refine (steps_any _ _ _ _).mono ?_
  rintro e w5 ⟨rfl, rfl⟩
  have hS5 : (fun W : World => Blk W w.heap.size 24 #[.int .u64 ka, .int .u64 kb]) (((w4.alloc (.cells #[.int .i64 off] 3)).alloc (.cells #[.int .i64 skp] 3)).alloc (.cells #[.int .i64 m] 3)) := ((hS4.alloc _).alloc _).alloc _
  refine hK.out _ _ (by with_reducible assumption) (fun _ => ?_)
  clear hK K
  try simp only [List.getElem_toArray, List.getElem_cons_succ, List.getElem_cons_zero, Act.put, List.setIfInBounds_toArray, List.set_cons_zero, List.set_cons_succ]
  refine wpAnyH_done (by kernel_rfl) ?_ _
  refine NoPanic.normal ?_
  have hC4 : Chg [] w1 w4 := (hA2.trans hc3).trans hc4
  have hC5 : Chg [] w1 (((w4.alloc (.cells #[.int .i64 off] 3)).alloc (.cells #[.int .i64 skp] 3)).alloc (.cells #[.int .i64 m] 3)) := ((hC4.alloc _).alloc _).alloc _
  have b0 : Blk (((w4.alloc (.cells #[.int .i64 off] 3)).alloc (.cells #[.int .i64 skp] 3)).alloc (.cells #[.int .i64 m] 3)) w4.heap.size 3 #[.int .i64 off] := ((Blk.new _ _ _).alloc _).alloc _
  have b1 : Blk (((w4.alloc (.cells #[.int .i64 off] 3)).alloc (.cells #[.int .i64 skp] 3)).alloc (.cells #[.int .i64 m] 3)) (w4.heap.size + 1) 3 #[.int .i64 skp] := (Blk.new' (by simp)).alloc _
  have b2 : Blk (((w4.alloc (.cells #[.int .i64 off] 3)).alloc (.cells #[.int .i64 skp] 3)).alloc (.cells #[.int .i64 m] 3)) (w4.heap.size + 2) 3 #[.int .i64 m] := Blk.new' (by simp)
  have hB5 := hB3.chg hC5 (by simp)
  have hz5 : (((w4.alloc (.cells #[.int .i64 off] 3)).alloc (.cells #[.int .i64 skp] 3)).alloc (.cells #[.int .i64 m] 3)).heap.size = w4.heap.size + 3 := by simp
  have hz4 := hC4.size
  clear hS0 hS3 hS4 hS5 hc3 hc4 hC4 F0 F1 F2 HI HSR hB3 hB1
  generalize w4.heap.size = n₁ at *
  generalize (((w4.alloc (.cells #[.int .i64 off] 3)).alloc (.cells #[.int .i64 skp] 3)).alloc (.cells #[.int .i64 m] 3)) = w5 at *
  have hseq := steps_stops (5 - 1) (by omega) n₁ (n₁ + 2) (n₁ + 1) n₁ (n₁ + 3) off skp m hoff hskp h3 w5 (by omega) (by omega) (by omega) (by omega) (b0.cell 0) (b2.cell 0) (b1.cell 0)
  have hW5 : Chg [] w w5 := hA.trans hC5
  have HB0 : OutI (n₁ + 3) (w.heap.size + 1) [] w5 := ⟨_, hB5.cell 0, hB5.frozen 0, World.ownsRow_nil .., by omega, by omega⟩
  gi_wp2
  refine wpIn_rangeFunc_ownF rfl (by omega) (gf := 117) (lb := #[.pointer (some ⟨n₁, 0, none⟩), .pointer (some ⟨n₁ + 2, 0, none⟩), .pointer (some ⟨n₁ + 1, 0, none⟩)]) rfl trivial (enters_of Tryz.func117 (by kernel_rfl) rfl)
    hseq (fun h k => h.trans k) (band_b (by omega)) (Below.refl _ _) (fun _ => rfl)
    (fun pre W => OutI (n₁ + 3) (w.heap.size + 1) pre W ∧ Below w.heap.size w W)
    (fun c pre W => False)
    (OwnFrom.and (Own.from (outI_own _ _) _) (ownFrom_below (Nat.le_refl _) (by omega)))
    (fun c s W W' row hs _ _ => hs)
    ⟨HB0, hW5.below⟩
    ?a1 ?assign ?body ?done ?stop
  case assign =>
    intro l x W K hK
    gi_wp2
    exact hK
  case body =>
    rintro l pre x W ⟨⟨v, hcw, hfr, hown, hbB, hnW⟩, hB⟩ hpl
    have hlt := own_lt hown
    have hbs := World.block_lt_of_cell? W _ hcw
    have hA1 := (Chg.refl [] W).alloc (.cells #[.int .i64 x] 3)
    have hcw1 := hA1.cell hcw (by simp)
    have hfr1 := (hA1.frozen hcw (by simp)).trans hfr
    have hown1 := own_chg hown hA1 (by simp)
    have hcat : Sl (W.alloc (.cells #[.int .i64 x] 3)) 0 1 (.slice (some ⟨W.heap.size, 0, none⟩) 1 1) 1 [.int .i64 x] :=
      Sl.of_own (own_lit (base := 0) W 3 1 1 #[.int .i64 x] (Nat.zero_le _) (by simp [maxLen]) rfl)
    have hzB := hB.size
    have hnm : (⟨w.heap.size + 1, 0, none⟩ : Addr).block ∉ v.ownBlock.toList := fun hm => by have := (hlt _ hm).1; simp only at this; omega
    have hsz1 : n₁ + 3 ≤ (W.alloc (.cells #[.int .i64 x] 3)).heap.size := by simp; omega
    gi_wp2_with (
      (gi_at_builtin; refine wpListIn_app elZ rfl (.tmp 23) (.tmp 25) rfl (n₁ + 3) rfl hown1 rfl hcat (by intro u hu; simp at hu; subst hu; rfl) (by unfold maxLen; omega) (by omega) hsz1 ?_; intro v2 w2 hown2 hc2; obtain ⟨A2, c2, rfl⟩ := Sl.form (Sl.of_own hown2); have hcw2 := hc2.cell hcw1 hnm; have hfr2 := (hc2.frozen hcw1 hnm).trans hfr1))
    have hSb : (w2.setCell ⟨w.heap.size + 1, 0, none⟩ (.slice A2 (pre.length + 1) c2)).ownsRow (n₁ + 3) 3 1 (.slice A2 (pre.length + 1) c2) (pre ++ [x]).length ((pre ++ [x]).map (Value.int .i64)) := by
      have := ownsRow_setCell_below hown2 (a := ⟨w.heap.size + 1, 0, none⟩) (by show w.heap.size + 1 < n₁ + 3; omega) (.slice A2 (pre.length + 1) c2)
      simpa using this
    have hce : w2.cell? ⟨w.heap.size + 1, 0, none⟩ ≠ none := by rw [hcw2]; simp
    refine ⟨?_, ?_, ⟨_, World.cell?_setCell_same' _ _ _ (by rw [hcw2]; rfl), (World.frozen?_setCell _ _ _ _).trans hfr2, hSb, hbB, ?_⟩, ?_⟩
    · exact ((KeepsOthers.alloc W _).trans (keepsO_chg hc2 (own_cells hown1))).trans (KeepsOthers.setCell _ _ _)
    · refine ((Band.of_chg hA1 (by omega) (by simp)).trans (Band.of_chg hc2 hsz1 (fun y hy => .inr (hlt y hy).1))).trans ⟨by simp [World.setCell], fun k h1 h2 => ?_⟩
      exact Below.heap_setCell _ _ _ _ (by show k ≠ w.heap.size + 1; omega)
    · have h1 := hc2.size
      simp [World.setCell]
      omega
    · refine Below.setCell (p := ⟨w.heap.size + 1, 0, none⟩) ?_ (by show w.heap.size ≤ w.heap.size + 1; omega) _
      exact (hB.alloc (by omega) _).trans (hc2.below' (by simp; omega) (fun y hy => by have := (hlt y hy).1; omega))
  case done =>
    rintro D ys W hD rfl ⟨⟨v, hcw, hfr, hown, hbB, hnW⟩, hB⟩ hK
    rw [upto_length] at hown
    obtain ⟨A2, c2, rfl⟩ := Sl.form (Sl.of_own hown)
    gi_wp2
    refine ⟨by simp, .inl ⟨_, _, rfl, run_takeDeferred hK, ?_⟩⟩
    have hkp : (W.putObj D (.deferred none)).ownsRow (n₁ + 3) 3 1 (.slice A2 m c2) m ((upto (stepF off skp m) m).map (Value.int .i64)) := hown.kept (grownBy_putObj' W D (.deferred none)) (by
      rcases hown.2 with ⟨e, _⟩ | ⟨g, cap, cur, e, _, hh, _⟩
      · rw [e]; exact .inr (by simp [Value.ownBlock])
      · rw [e]
        refine .inr ?_
        intro e2
        simp [Value.ownBlock] at e2
        subst e2
        rw [hK] at hh
        cases hh)
    refine ⟨.slice A2 m c2, ?_, ⟨_, rfl, ?_, ?_⟩⟩
    · simp [results, Tryz.f98, go_sem]
    · rw [HR.out]
      rw [stepF_all, List.map_map] at hkp
      exact own_less (B := n₁ + 3) hkp (by omega)
    · exact Chg.of_below (hB.trans (belowK_b (w := w) (Nat.le_refl _) W D _ _ (by omega) hK rfl rfl))
  case stop =>
    rintro D c pre W hD hpre hf hK
    exact hf.elim
end Go.Proofs.YtecblclpchndiaaGreat
