/-
  The document side of the pool, second part (merged of XPr5..XPr7).
-/
import Derived.Test.YtecblclpchndiaaGreatPrA
import Derived.Test.YtecblclpchndiaaGreatCut
set_option linter.unusedVariables false
set_option linter.unusedSimpArgs false
namespace Go.Proofs.YtecblclpchndiaaGreat
open Go.RowKit

/-- Backends, versions as a slice in no block of a list. -/
def RB (w : World) (S : List Nat) (v : Value) (L : List Bk) : Prop := SlB w 0 v L ∧ Safe w S v
def RV2 (w : World) (S : List Nat) (v : Value) (es : List Ve) (V : List Vs) : Prop := Sl w 0 4 v es.length (es.flatMap encV) ∧ Safe w S v ∧ VesR w S es V
theorem Safe.chg0 {w w' : World} {S : List Nat} {v : Value} (h : Safe w S v) (hc : Chg [] w w') : Safe w' S v := h.step hc.size (fun x hx => .inl hx)
theorem RB.chg0 {w w' : World} {S : List Nat} {v : Value} {L : List Bk} (h : RB w S v L) (hc : Chg [] w w') : RB w' S v L := ⟨SlB.chg0 h.1 hc, h.2.chg0 hc⟩
theorem RV2.chg0 {w w' : World} {S : List Nat} {v : Value} {es : List Ve} {V : List Vs} (h : RV2 w S v es V) (hc : Chg [] w w') : RV2 w' S v es V := ⟨Sl.chg0 h.1 hc, h.2.1.chg0 hc, h.2.2.step (hc.more (by simp)) (fun x hx => .inl hx)⟩
theorem RB.chgS {w w' : World} {S S' : List Nat} {v : Value} {L : List Bk} (h : RB w S v L) (hc : Chg S w w') (hS : ∀ x ∈ S', x ∈ S ∨ w.heap.size ≤ x) : RB w' S' v L := ⟨Sl.chgB h.1 hc (fun g hg => (h.2 g hg).2), h.2.step hc.size hS⟩
theorem RV2.chgS {w w' : World} {S S' : List Nat} {v : Value} {es : List Ve} {V : List Vs} (h : RV2 w S v es V) (hc : Chg S w w') (hS : ∀ x ∈ S', x ∈ S ∨ w.heap.size ≤ x) : RV2 w' S' v es V := ⟨Sl.chgB h.1 hc (fun g hg => (h.2.1 g hg).2), h.2.1.step hc.size hS, h.2.2.step hc hS⟩
/-- What lies in new blocks. -/
theorem safe_new {w w' : World} {S : List Nat} {base size n : Nat} {e : TypeId} {v : Value} {xs : List Value} (h : w'.ownsRow base e size v n xs) (hb : w.heap.size ≤ base) (hS : ∀ x ∈ S, x < w.heap.size) : Safe w' S v := fun g hg => by
  have := own_lt h g hg
  exact ⟨this.2, fun hm => by have := hS g hm; omega⟩
/-- A change, of the document. -/
def RfR (w w' : World) (S : List Nat) (ka kb : Int) (r : Int × PS) (e : Ending) : Prop :=
  ∃ lv vv es, e = .returned (.tuple #[.agg #[.int .u64 ka, .int .u64 kb, lv, vv, .int .i64 r.2.last], .int .i64 r.1]) ∧ RB w' S lv r.2.L ∧ RV2 w' S vv es r.2.V ∧ Chg [] w w'

set_option maxRecDepth 100000 in
set_option maxHeartbeats 4000000 in
theorem apply35_any {w : World} {S : List Nat} {ka kb now last : Int} {lv vv nv : Value} {L L' : List Bk} {es : List Ve} {V : List Vs} (hSw : ∀ x ∈ S, x < w.heap.size) (hlv : RB w S lv L) (hvv : RV2 w S vv es V) (hnv : RB w S nv L') (hL : OkB L') (hok : OkV V) (hn : 0 ≤ now ∧ now ≤ 1000000) (hla : 0 ≤ last ∧ last < 1000000) :
    Calls Tryz.prog 55 #[.agg #[.int .u64 ka, .int .u64 kb, lv, vv, .int .i64 last], .int .i64 now, nv] w fun e w' => RfR w w' S ka kb (setP ka kb now ⟨L, V, last⟩ L') e := by
  obtain ⟨Al, cl, el⟩ := Sl.form hlv.1
  obtain ⟨Av, cv, ev⟩ := Sl.form hvv.1
  obtain ⟨An, cn, en⟩ := Sl.form hnv.1
  subst el ev en
  have hle : es.length = V.length := hvv.2.2.1
  have hVl := hok.len
  have hA := ((Chg.refl [] w).alloc (.cells #[.int .u64 ka, .int .u64 kb, .slice Al L.length cl, .slice Av es.length cv, .int .i64 last] 52)).alloc (.cells #[.int .u64 0, .int .u64 0, .slice none 0 0, .slice none 0 0, .int .i64 0] 52)
  have hb0 : Blk ((w.alloc (.cells #[.int .u64 ka, .int .u64 kb, .slice Al L.length cl, .slice Av es.length cv, .int .i64 last] 52)).alloc (.cells #[.int .u64 0, .int .u64 0, .slice none 0 0, .slice none 0 0, .int .i64 0] 52)) w.heap.size 52 #[.int .u64 ka, .int .u64 kb, .slice Al L.length cl, .slice Av es.length cv, .int .i64 last] := (Blk.new _ _ _).alloc _
  have hb1 : Blk ((w.alloc (.cells #[.int .u64 ka, .int .u64 kb, .slice Al L.length cl, .slice Av es.length cv, .int .i64 last] 52)).alloc (.cells #[.int .u64 0, .int .u64 0, .slice none 0 0, .slice none 0 0, .int .i64 0] 52)) (w.heap.size + 1) 52 #[.int .u64 0, .int .u64 0, .slice none 0 0, .slice none 0 0, .int .i64 0] := Blk.new' (by simp)
  have HI := Lib.hid (And.intro hA (And.intro hb0 hb1))
  have HL := Lib.hid hlv
  have HV := Lib.hid hvv
  have HN := Lib.hid hnv
  have HOK := Lib.hid hok
  have HOL := Lib.hid hL
  have HSW := Lib.hid hSw
  have HLE := Lib.hid hle
  clear hA hb0 hb1 hlv hvv hnv hok hL hSw hle
  go_enter Tryz.func55, Tryz.ntmps55
  go_upto_region 1 with fail
  obtain ⟨hA, hb0, hb1⟩ := HI.out
  generalize ((w.alloc (.cells #[.int .u64 ka, .int .u64 kb, .slice Al L.length cl, .slice Av es.length cv, .int .i64 last] 52)).alloc (.cells #[.int .u64 0, .int .u64 0, .slice none 0 0, .slice none 0 0, .int .i64 0] 52)) = w1 at *
  have HA := Lib.hid hA
  have HB1 := Lib.hid hb1
  have HB0 := Lib.hid hb0
  have hS0 : (fun W : World => Blk W w.heap.size 52 #[.int .u64 ka, .int .u64 kb, .slice Al L.length cl, .slice Av es.length cv, .int .i64 last]) w1.drew := hb0.drew
  have HSR : ∀ W : World, (fun W : World => Blk W w.heap.size 52 #[.int .u64 ka, .int .u64 kb, .slice Al L.length cl, .slice Av es.length cv, .int .i64 last]) W → W.rangeAt w.heap.size 0 (#[.int .u64 ka, .int .u64 kb] : Array Value).toList := fun W h j u hj => by
    rw [Nat.zero_add, h.cell]
    match j, hj with
    | 0, hj => simp at hj; subst hj; rfl
    | 1, hj => simp at hj; subst hj; rfl
  clear HI hA hb0 hb1
  refine wp_region_noPanic ?_
  refine wp_region_held_drew (S := fun W : World => Blk W w.heap.size 52 #[.int .u64 ka, .int .u64 kb, .slice Al L.length cl, .slice Av es.length cv, .int .i64 last]) (by kernel_rfl) hS0 (fun _ => ?_)
  refine wpAnyH_take (i := 0) (v := ?_) rfl (by kernel_rfl) (by kernel_rfl) (by kernel_rfl) (fun _ _ _ h => h) (yields_pure (by rfl) (fun w => ?_)) (by with_reducible assumption) ?_
  rotate_left
  · (go_simp <;> with_reducible rfl)
  try simp only [List.getElem_toArray, List.getElem_cons_succ, List.getElem_cons_zero, Act.put, List.setIfInBounds_toArray, List.set_cons_zero, List.set_cons_succ]
  refine wpAnyH_take (i := 2) (v := ?_) rfl (by kernel_rfl) (by kernel_rfl) (by kernel_rfl) (fun _ _ _ h => h) (yields_pure (by rfl) (fun w => ?_)) (by with_reducible assumption) ?_
  rotate_left
  · (go_simp <;> with_reducible rfl)
  try simp only [List.getElem_toArray, List.getElem_cons_succ, List.getElem_cons_zero, Act.put, List.setIfInBounds_toArray, List.set_cons_zero, List.set_cons_succ]
  refine wpAnyH_take (i := 1) rfl (by kernel_rfl) (by kernel_rfl) (by kernel_rfl) (fun _ _ _ h => h) (yields_row (by rfl) 41 (.tmp 15) rfl w.heap.size 0 rfl (#[.int .u64 ka, .int .u64 kb]) _ HSR Tryz.underlying41 rfl (by kernel_rfl)) (by with_reducible assumption) ?_
  try simp only [List.getElem_toArray, List.getElem_cons_succ, List.getElem_cons_zero, Act.put, List.setIfInBounds_toArray, List.set_cons_zero, List.set_cons_succ]
  refine wpAnyH_ready (rs := [3]) (by kernel_rfl) (by simp) (AllReadyH.cons rfl (fun K hK => ?_) AllReadyH.nil)
  go_simp
  refine (members35_any (SlB.chg0 HN.out.1 (HA.out.trans (Chg.refl [] w1).drew)) (by have := HOL.out.len; omega)).mono ?_
  rintro e w2 ⟨v2, rfl, hm2, hc2⟩
  have hS2 : (fun W : World => Blk W w.heap.size 52 #[.int .u64 ka, .int .u64 kb, .slice Al L.length cl, .slice Av es.length cv, .int .i64 last]) w2 := hS0.chg hc2 (by simp)
  refine hK.out _ _ (by with_reducible assumption) (fun _ => ?_)
  clear hK K
  try simp only [List.getElem_toArray, List.getElem_cons_succ, List.getElem_cons_zero, Act.put, List.setIfInBounds_toArray, List.set_cons_zero, List.set_cons_succ]
  refine wpAnyH_ready (rs := [4]) (by kernel_rfl) (by simp) (AllReadyH.cons rfl (fun K hK => ?_) AllReadyH.nil)
  go_simp
  refine (build17_any ka kb 61 hm2 (by rw [membersP_len]; have := HOL.out.len; omega)).mono ?_
  rintro e w3 ⟨v3, q3, rfl, hb3, hc3⟩
  have hS3 : (fun W : World => Blk W w.heap.size 52 #[.int .u64 ka, .int .u64 kb, .slice Al L.length cl, .slice Av es.length cv, .int .i64 last]) w3 := hS2.chg hc3 (by simp)
  obtain ⟨tl, ht3, htb⟩ := hb3.tb
  obtain ⟨rfl, rfl⟩ := tabP_of HOL.out htb
  refine hK.out _ _ (by with_reducible assumption) (fun _ => ?_)
  clear hK K
  try simp only [List.getElem_toArray, List.getElem_cons_succ, List.getElem_cons_zero, Act.put, List.setIfInBounds_toArray, List.set_cons_zero, List.set_cons_succ]
  refine wpAnyH_take (i := 5) (v := ?_) rfl (by kernel_rfl) (by kernel_rfl) (by kernel_rfl) (fun _ _ _ h => h) (yields_pure (by rfl) (fun w => ?_)) (by with_reducible assumption) ?_
  rotate_left
  · (go_simp <;> with_reducible rfl)
  try simp only [List.getElem_toArray, List.getElem_cons_succ, List.getElem_cons_zero, Act.put, List.setIfInBounds_toArray, List.set_cons_zero, List.set_cons_succ]
  refine wpAnyH_take (i := 6) (v := ?_) rfl (by kernel_rfl) (by kernel_rfl) (by kernel_rfl) (fun _ _ _ h => h) (yields_pure (by rfl) (fun w => ?_)) (by with_reducible assumption) ?_
  rotate_left
  · (go_simp <;> with_reducible rfl)
  try simp only [List.getElem_toArray, List.getElem_cons_succ, List.getElem_cons_zero, Act.put, List.setIfInBounds_toArray, List.set_cons_zero, List.set_cons_succ]
  refine wpAnyH_take (i := 7) (v := ?_) rfl (by kernel_rfl) (by kernel_rfl) (by kernel_rfl) (fun _ _ _ h => h) (yields_pure (by rfl) (fun w => ?_)) (by with_reducible assumption) ?_
  rotate_left
  · (go_simp <;> with_reducible rfl)
  try simp only [List.getElem_toArray, List.getElem_cons_succ, List.getElem_cons_zero, Act.put, List.setIfInBounds_toArray, List.set_cons_zero, List.set_cons_succ]
  refine wpAnyH_take (i := 8) (v := ?_) rfl (by kernel_rfl) (by kernel_rfl) (by kernel_rfl) (fun _ _ _ h => h) (yields_pure (by rfl) (fun w => ?_)) (by with_reducible assumption) ?_
  rotate_left
  · (go_simp <;> with_reducible rfl)
  try simp only [List.getElem_toArray, List.getElem_cons_succ, List.getElem_cons_zero, Act.put, List.setIfInBounds_toArray, List.set_cons_zero, List.set_cons_succ]
  refine wpAnyH_take (i := 9) (v := ?_) rfl (by kernel_rfl) (by kernel_rfl) (by kernel_rfl) (fun _ _ _ h => h) (yields_pure (by rfl) (fun w => ?_)) (by with_reducible assumption) ?_
  rotate_left
  · (go_simp <;> with_reducible rfl)
  try simp only [List.getElem_toArray, List.getElem_cons_succ, List.getElem_cons_zero, Act.put, List.setIfInBounds_toArray, List.set_cons_zero, List.set_cons_succ]
  refine wpAnyH_done (by kernel_rfl) ?_ _
  refine NoPanic.normal ?_
  have hC13 : Chg [] w1 w3 := ((Chg.refl [] w1).drew.trans hc2).trans hc3
  have HC3 := Lib.hid (HA.out.trans hC13)
  have HB0' := Lib.hid (HB0.out.chg hC13 (by simp))
  have HB1' := Lib.hid (HB1.out.chg hC13 (by simp))
  have HT3 := Lib.hid ht3
  obtain ⟨T3, c3, e3⟩ := Sl.form ht3
  subst e3
  have p3 := HB0'.out.cell 3
  simp only [List.getElem?_toArray, List.getElem?_cons_succ, List.getElem?_cons_zero] at p3
  clear hS0 hS2 hS3 HSR hc2 hc3 hm2 hb3 htb hC13 HB0 HB1 HA
  have hz : w.heap.size + 1 ≠ w.heap.size := by omega
  have hle := HLE.out
  by_cases hnv : newV V (tabP ka kb L') = true
  · -- the table is the newest one
    have HST : Hid (setP ka kb now ⟨L, V, last⟩ L' = (0, ⟨L', V, last⟩)) := Lib.hid (by unfold setP; rw [if_pos hnv])
    obtain ⟨m, hm⟩ : ∃ m, es.length = m + 1 := ⟨es.length - 1, by
      rcases Nat.eq_zero_or_pos V.length with h0 | h0
      · rw [List.eq_nil_of_length_eq_zero h0] at hnv; simp [newV] at hnv
      · omega⟩
    obtain ⟨y, hy⟩ : ∃ y, V[m]? = some y := ⟨_, List.getElem?_eq_getElem (by omega)⟩
    obtain ⟨em, hem⟩ : ∃ y, es[m]? = some y := ⟨_, List.getElem?_eq_getElem (by omega)⟩
    have hV3 := HV.out.chg0 HC3.out
    have hvr := hV3.2.2.2 m em y hem hy
    have hyt : decide (y.tab = tabP ka kb L') = true := by
      unfold newV at hnv
      rw [← hle, hm, Nat.add_sub_cancel, hy] at hnv
      exact hnv
    obtain ⟨b, o, cc, hvv', _, hcap, hq⟩ := Sl.rec encV_len (by omega) hV3.1 hem
    simp only [Value.slice.injEq, true_and] at hvv'
    obtain ⟨rfl, rfl⟩ := hvv'
    obtain ⟨T, tc, et⟩ := Sl.form hvr.tab.1
    have g3 : w3.cell? ⟨b, o + m * 4 + 3, none⟩ = some (.slice T y.tab.length tc) := by rw [Nat.add_assoc, hq 3 (by omega), ← et]; rfl
    have FI := ints20_any hvr.tab.1 HT3.out (by have := HOK.out.tab y (List.mem_of_getElem? hy); omega)
    rw [hyt, et] at FI
    have FI := Lib.hid FI
    have hml : (m : Int) < (m : Int) + 1 := by omega
    have hmw : IntKind.i64.wrap (m : Int) = (m : Int) := by rw [IntKind.wrap_i64]; omega
    have hm1 : (m : Int) + 1 - 1 = (m : Int) := by omega
    have hne : ((m : Int) + 1 == 0) = false := by simp; omega
    rw [hm] at HB0' p3 HV hcap ⊢
    clear hnv hm hy hem hvr hyt hq et hV3 hle HT3
    go_wp2_with fail
    refine FI.out.mono ?_
    rintro e w4 ⟨rfl, hc4⟩
    have hb4 := HB0'.out.chg hc4 (by simp)
    have p2 := hb4.cell 2
    have f2 := hb4.frozen 2
    simp only [List.getElem?_toArray, List.getElem?_cons_succ, List.getElem?_cons_zero] at p2
    have hs4 : Chg [w.heap.size] w4 (w4.setCell ⟨w.heap.size, 2, none⟩ (.slice An L'.length cn)) := (Chg.refl [w.heap.size] w4).setCell (p := ⟨w.heap.size, 2, none⟩) (.inl (by simp)) _
    have hR0 := (HB1'.out.chg hc4 (by simp)).chg hs4 (by simp)
    have hRP := (hb4.set_ 2 (.slice An L'.length cn)).rangeQ
    have HC4 := Lib.hid ((HC3.out.trans hc4).trans' hs4 (fun x hx => .inr (by simp at hx; subst hx; exact Nat.le_refl _)))
    clear hc4 hs4 FI g3 hb4 p3
    go_wp2_with (first
      | (refine wpList_row 52 (.tmp 3) rfl rfl w.heap.size 0 rfl #[.int .u64 ka, .int .u64 kb, .slice An L'.length cn, .slice (some ⟨b, o, none⟩) (m + 1) cv, .int .i64 last] _ hRP Tryz.underlying52 rfl (by kernel_rfl) ?_)
      | (refine wpList_store_blk rfl 52 _ _ rfl rfl hR0 rfl rfl rfl (by kernel_rfl) rfl ?_; intro w9 hB9 hc9)
      | fail)
    refine bodyPost_ret (results_blk2 rfl rfl hB9 _ Tryz.underlying52 rfl (by kernel_rfl)) rfl ?_
    have hC9 := HC4.out.trans' hc9 (fun x hx => .inr (by simp at hx; subst hx; omega))
    unfold RfR
    rw [HST.out]
    exact ⟨_, _, es, rfl, HN.out.chg0 hC9, HV.out.chg0 hC9, hC9⟩
  · have hnf : newV V (tabP ka kb L') = false := by simpa using hnv
    clear hle
    go_upto_region 5 with fail
    go_cut [42] (fun sv wx => sv = .bool true ∧ Hid (Chg [] w3 wx))
    case first =>
      have hle := HLE.out
      rcases Nat.eq_zero_or_pos es.length with h0 | h0
      · have hz0 : ((es.length : Int) == 0) = true := by rw [h0]; rfl
        clear h0
        clear hle hnv hnf HB0'
        go_wp2_with fail
        go_meet
        exact ⟨rfl, Lib.hid (Chg.refl _ _)⟩
      · obtain ⟨m, hm⟩ : ∃ m, es.length = m + 1 := ⟨es.length - 1, by omega⟩
        obtain ⟨y, hy⟩ : ∃ y, V[m]? = some y := ⟨_, List.getElem?_eq_getElem (by omega)⟩
        obtain ⟨em, hem⟩ : ∃ y, es[m]? = some y := ⟨_, List.getElem?_eq_getElem (by omega)⟩
        have hV3 := HV.out.chg0 HC3.out
        have hvr := hV3.2.2.2 m em y hem hy
        have hyt : decide (y.tab = tabP ka kb L') = false := by
          unfold newV at hnf
          rw [← hle, hm, Nat.add_sub_cancel, hy] at hnf
          exact hnf
        obtain ⟨b, o, cc, hvv', _, hcap, hq⟩ := Sl.rec encV_len (by omega) hV3.1 hem
        simp only [Value.slice.injEq, true_and] at hvv'
        obtain ⟨rfl, rfl⟩ := hvv'
        obtain ⟨T, tc, et⟩ := Sl.form hvr.tab.1
        have g3 : w3.cell? ⟨b, o + m * 4 + 3, none⟩ = some (.slice T y.tab.length tc) := by rw [Nat.add_assoc, hq 3 (by omega), ← et]; rfl
        have FI := ints20_any hvr.tab.1 HT3.out (by have := HOK.out.tab y (List.mem_of_getElem? hy); omega)
        rw [hyt, et] at FI
        have FI := Lib.hid FI
        have hml : (m : Int) < (es.length : Int) := by omega
        have hml2 : m < es.length := by omega
        have hmw : IntKind.i64.wrap (m : Int) = (m : Int) := by rw [IntKind.wrap_i64]; omega
        have hm1 : (es.length : Int) - 1 = (m : Int) := by omega
        have hne : ((es.length : Int) == 0) = false := by simp only [beq_eq_false_iff_ne]; omega
        clear hnf hnv hm h0 hy hem hvr hyt hq et hV3 hle HB0'
        go_wp2_with fail
        refine FI.out.mono ?_
        rintro e w4 ⟨rfl, hc4⟩
        have HC4 := Lib.hid hc4
        clear hc4 FI g3
        go_wp2_with fail
        go_meet
        exact ⟨rfl, HC4⟩
    case rest =>
      obtain ⟨rfl, HC⟩ := hcut
      have HCW := Lib.hid (HC3.out.trans HC.out)
      have HB := Lib.hid (HB0'.out.chg HC.out (by simp))
      have HR := Lib.hid (HB1'.out.chg HC.out (by simp))
      have hsS : w.heap.size + 2 ≤ wc.heap.size := by have h1 := HR.out.lt; omega
      have HSS : Hid (∀ x ∈ w.heap.size :: (w.heap.size + 1) :: S, x < wc.heap.size) := Lib.hid fun x hx => by
        simp only [List.mem_cons] at hx
        rcases hx with rfl | rfl | hx
        · omega
        · omega
        · have := HSW.out x hx; omega
      have FP := Lib.hid (push20_any (HV.out.chg0 HCW.out).1 (HV.out.2.2.step (HCW.out.more (by simp)) (S' := w.heap.size :: (w.heap.size + 1) :: S) (fun x hx => by
        simp only [List.mem_cons] at hx
        rcases hx with rfl | rfl | hx
        · exact .inr (Nat.le_refl _)
        · exact .inr (by omega)
        · exact .inl hx)) HOK.out HSS.out last now hn hla (HT3.out.chg0 HC.out) (by rw [tabP_len]; omega))
      have p4 := HB.out.cell 4
      have p3 := HB.out.cell 3
      simp only [List.getElem?_toArray, List.getElem?_cons_succ, List.getElem?_cons_zero] at p4 p3
      clear HC HC3 HB0' HB1' hnv HT3
      go_wp2_with fail
      refine FP.out.mono ?_
      rintro e w5 (⟨hm, rfl, hc5⟩ | ⟨hm, v5, es5, rfl, ho5, hv5, hc5⟩)
      · have HST : Hid (setP ka kb now ⟨L, V, last⟩ L' = (mayV V now, ⟨L, V, last⟩)) := Lib.hid (by unfold setP; rw [if_neg (by rw [hnf]; simp), if_pos hm])
        generalize hmv : mayV V now = mv at *
        have hRP := (HB.out.chg hc5 (by simp)).rangeQ
        have hR0 := HR.out.chg hc5 (by simp)
        have HC5 := Lib.hid (HCW.out.trans hc5)
        clear hmv hnf hc5 FP p4 p3
        go_wp2_with (first
          | (refine wpList_row 52 (.tmp 3) rfl rfl w.heap.size 0 rfl #[.int .u64 ka, .int .u64 kb, .slice Al L.length cl, .slice Av es.length cv, .int .i64 last] _ hRP Tryz.underlying52 rfl (by kernel_rfl) ?_)
          | (refine wpList_store_blk rfl 52 _ _ rfl rfl hR0 rfl rfl rfl (by kernel_rfl) rfl ?_; intro w9 hB9 hc9)
          | fail)
        refine bodyPost_ret (results_blk2 rfl rfl hB9 _ Tryz.underlying52 rfl (by kernel_rfl)) rfl ?_
        have hC9 := HC5.out.trans' hc9 (fun x hx => .inr (by simp at hx; subst hx; omega))
        unfold RfR
        rw [HST.out]
        exact ⟨_, _, es, rfl, HL.out.chg0 hC9, HV.out.chg0 hC9, hC9⟩
      · have HST : Hid (setP ka kb now ⟨L, V, last⟩ L' = (0, ⟨L', pushV V last now (tabP ka kb L'), last + 1⟩)) := Lib.hid (by unfold setP; rw [if_neg (by rw [hnf]; simp), if_neg (by simp [hm])])
        have HV5 := Lib.hid (And.intro (Sl.less (B' := 0) (Sl.of_own ho5) (Nat.zero_le _)) (And.intro (safe_new (S := w.heap.size :: (w.heap.size + 1) :: S) ho5 (Nat.le_refl _) HSS.out) hv5))
        obtain ⟨A5, c5, e5⟩ := Sl.form (Sl.of_own ho5)
        subst e5
        have hb5 := HB.out.chg hc5 (by simp)
        have p2 := hb5.cell 2
        have p3 := hb5.cell 3
        have p4 := hb5.cell 4
        have f2 := hb5.frozen 2
        have f3 := hb5.frozen 3
        have f4 := hb5.frozen 4
        simp only [List.getElem?_toArray, List.getElem?_cons_succ, List.getElem?_cons_zero] at p2 p3 p4
        have hs5 : Chg [w.heap.size] w5 (((w5.setCell ⟨w.heap.size, 3, none⟩ (.slice A5 es5.length c5)).setCell ⟨w.heap.size, 4, none⟩ (.int .i64 (last + 1))).setCell ⟨w.heap.size, 2, none⟩ (.slice An L'.length cn)) :=
          (((Chg.refl [w.heap.size] w5).setCell (p := ⟨w.heap.size, 3, none⟩) (.inl (by simp)) _).setCell (p := ⟨w.heap.size, 4, none⟩) (.inl (by simp)) _).setCell (p := ⟨w.heap.size, 2, none⟩) (.inl (by simp)) _
        have hR0 := (HR.out.chg hc5 (by simp)).chg hs5 (by simp)
        have hRP := (((hb5.set_ 3 (.slice A5 es5.length c5)).set_ 4 (.int .i64 (last + 1))).set_ 2 (.slice An L'.length cn)).rangeQ
        have HC5 := Lib.hid ((HCW.out.trans hc5).trans' hs5 (fun x hx => .inr (by simp at hx; subst hx; exact Nat.le_refl _)))
        have HS5 := Lib.hid hs5
        clear hnf hm hc5 FP ho5 hv5 hb5 hs5
        go_wp2_with (first
          | (refine wpList_row 52 (.tmp 3) rfl rfl w.heap.size 0 rfl #[.int .u64 ka, .int .u64 kb, .slice An L'.length cn, .slice A5 es5.length c5, .int .i64 (last + 1)] _ hRP Tryz.underlying52 rfl (by kernel_rfl) ?_)
          | (refine wpList_store_blk rfl 52 _ _ rfl rfl hR0 rfl rfl rfl (by kernel_rfl) rfl ?_; intro w9 hB9 hc9)
          | fail)
        refine bodyPost_ret (results_blk2 rfl rfl hB9 _ Tryz.underlying52 rfl (by kernel_rfl)) rfl ?_
        have hC9 := HC5.out.trans' hc9 (fun x hx => .inr (by simp at hx; subst hx; omega))
        unfold RfR
        rw [HST.out]
        have hw59 : Chg [w.heap.size, w.heap.size + 1] w5 w9 := (HS5.out.more (by simp)).trans (hc9.more (by simp))
        exact ⟨_, _, es5, rfl, HN.out.chg0 hC9, RV2.chgS HV5.out (hw59.more (by simp)) (fun x hx => .inl (List.mem_cons_of_mem _ (List.mem_cons_of_mem _ hx))), hC9⟩
end Go.Proofs.YtecblclpchndiaaGreat
namespace Go.Proofs.YtecblclpchndiaaGreat
open Go.RowKit

theorem oneL_at {n : Int} {F : Bk → Int × Bk} {L : List Bk} {x : Bk} (hm : n ∈ nodesB L) (hx : L[cntB L n]? = some x) : oneL n F L = ((F x).1, L.set (cntB L n) (F x).2) := by
  unfold oneL
  rw [if_pos hm, hx]
theorem oneL_no {n : Int} {F : Bk → Int × Bk} {L : List Bk} (hm : n ∉ nodesB L) : oneL n F L = (10, []) := by
  unfold oneL
  rw [if_neg hm]
theorem chP_err {ka kb now : Int} {s : PS} {r : Int × List Bk} (h : r.1 ≠ 0) : chP ka kb now s r = (r.1, s) := by
  unfold chP
  rw [if_pos h]
theorem chP_set {ka kb now : Int} {s : PS} {L : List Bk} : chP ka kb now s (0, L) = setP ka kb now s L := by
  unfold chP
  rw [if_neg (by simp)]
theorem range_pool {W : World} {P : Nat} {cs : Array Value} (h : Blk W P 52 cs) : W.rangeAt P 0 cs.toList := h.rangeQ

set_option maxRecDepth 100000 in
set_option maxHeartbeats 4000000 in
theorem drain35_any {w : World} {S : List Nat} {ka kb now last : Int} {lv vv : Value} {L : List Bk} {es : List Ve} {V : List Vs} (hSw : ∀ x ∈ S, x < w.heap.size) (hlv : RB w S lv L) (hvv : RV2 w S vv es V) (hL : OkB L) (hok : OkV V) (hn : 0 ≤ now ∧ now ≤ 1000000) (hla : 0 ≤ last ∧ last < 1000000) (n : Int) :
    Calls Tryz.prog 37 #[.agg #[.int .u64 ka, .int .u64 kb, lv, vv, .int .i64 last], .int .i64 now, .int .i64 n] w fun e w' => RfR w w' S ka kb (chP ka kb now ⟨L, V, last⟩ (oneL n (drainF) L)) e := by
  obtain ⟨Al, cl, el⟩ := Sl.form hlv.1
  obtain ⟨Av, cv, ev⟩ := Sl.form hvv.1
  subst el ev
  have hA := ((Chg.refl [] w).alloc (.cells #[.int .u64 ka, .int .u64 kb, .slice Al L.length cl, .slice Av es.length cv, .int .i64 last] 52)).alloc (.cells #[.int .u64 0, .int .u64 0, .slice none 0 0, .slice none 0 0, .int .i64 0] 52)
  have hb0 : Blk ((w.alloc (.cells #[.int .u64 ka, .int .u64 kb, .slice Al L.length cl, .slice Av es.length cv, .int .i64 last] 52)).alloc (.cells #[.int .u64 0, .int .u64 0, .slice none 0 0, .slice none 0 0, .int .i64 0] 52)) w.heap.size 52 #[.int .u64 ka, .int .u64 kb, .slice Al L.length cl, .slice Av es.length cv, .int .i64 last] := (Blk.new _ _ _).alloc _
  have hb1 : Blk ((w.alloc (.cells #[.int .u64 ka, .int .u64 kb, .slice Al L.length cl, .slice Av es.length cv, .int .i64 last] 52)).alloc (.cells #[.int .u64 0, .int .u64 0, .slice none 0 0, .slice none 0 0, .int .i64 0] 52)) (w.heap.size + 1) 52 #[.int .u64 0, .int .u64 0, .slice none 0 0, .slice none 0 0, .int .i64 0] := Blk.new' (by simp)
  have FF := Lib.hid (find35_any (SlB.chg0 hlv.1 hA) hL n)
  have HI := Lib.hid (And.intro hA (And.intro hb0 hb1))
  have HL := Lib.hid hlv
  have HV := Lib.hid hvv
  have HOK := Lib.hid hok
  have HOL := Lib.hid hL
  have HSW := Lib.hid hSw
  have hlen := hL.len
  have hz : w.heap.size + 1 ≠ w.heap.size := by omega
  clear hA hb0 hb1 hlv hvv hok hSw
  by_cases hm : n ∈ nodesB L
  · obtain ⟨x, hx, hxn⟩ := cntB_at hL.srt hm
    have HO := Lib.hid (oneL_at (F := drainF) hm hx)
    have hfi : findI L n = (cntB L n : Int) := by unfold findI; rw [if_pos hm]
    rw [hfi] at FF
    have HOK2 := Lib.hid (oneL_ok (n := n) (f := drainF) hL (fun x hx _ => ⟨rfl, hx⟩))
    have hil := (List.getElem?_eq_some_iff.1 hx).1
    have HX := Lib.hid hx
    rw [HO.out] at HOK2
    clear hL hm hx hxn hfi
    generalize cntB L n = i at *
    have hni : ¬ ((i : Int) < 0) := by omega
    have hilI : (i : Int) < (L.length : Int) := by omega
    go_enter Tryz.func37, Tryz.ntmps37
    go_wp2_with fail
    refine FF.out.mono ?_
    rintro e w1 ⟨rfl, hc1⟩
    obtain ⟨hA, hb0, hb1⟩ := HI.out
    generalize ((w.alloc (.cells #[.int .u64 ka, .int .u64 kb, .slice Al L.length cl, .slice Av es.length cv, .int .i64 last] 52)).alloc (.cells #[.int .u64 0, .int .u64 0, .slice none 0 0, .slice none 0 0, .int .i64 0] 52)) = w0 at *
    have HC1 := Lib.hid (hA.trans hc1)
    have HB0 := Lib.hid (hb0.chg hc1 (by simp))
    have HB1 := Lib.hid (hb1.chg hc1 (by simp))
    obtain ⟨b, o, cc, hv1, hcap, d0, d1, d2, d3⟩ := (HL.out.chg0 HC1.out).1.at_ HX.out
    simp only [Value.slice.injEq, true_and] at hv1
    obtain ⟨rfl, rfl⟩ := hv1
    have p2 := HB0.out.cell 2
    simp only [List.getElem?_toArray, List.getElem?_cons_succ, List.getElem?_cons_zero] at p2
    clear hA hb0 hb1 hc1 FF HI
    obtain ⟨nd, wd, dr, dn⟩ := x
    simp only at d0 d1 d2 d3
    have hAk := (Chg.refl [] w1).alloc (.cells #[.int .i64 nd, .int .i64 wd, .bool true, .bool dn] 61)
    have hbk : Blk (w1.alloc (.cells #[.int .i64 nd, .int .i64 wd, .bool true, .bool dn] 61)) w1.heap.size 61 #[.int .i64 nd, .int .i64 wd, .bool true, .bool dn] := Blk.new _ _ _
    have HK := Lib.hid (And.intro hAk hbk)
    have h1s : w.heap.size + 2 ≤ w1.heap.size := by have := HB1.out.lt; omega
    clear hAk hbk
    go_upto_region 6 with fail
    obtain ⟨hAk, hbk⟩ := HK.out
    have hS0 : (fun W : World => Blk W w.heap.size 52 #[.int .u64 ka, .int .u64 kb, .slice (some ⟨b, o, none⟩) L.length cl, .slice Av es.length cv, .int .i64 last] ∧ Blk W w1.heap.size 61 #[.int .i64 nd, .int .i64 wd, .bool true, .bool dn]) (w1.alloc (.cells #[.int .i64 nd, .int .i64 wd, .bool true, .bool dn] 61)).drew := ⟨(HB0.out.chg hAk (by simp)).drew, hbk.drew⟩
    have HSP : ∀ W : World, (fun W : World => Blk W w.heap.size 52 #[.int .u64 ka, .int .u64 kb, .slice (some ⟨b, o, none⟩) L.length cl, .slice Av es.length cv, .int .i64 last] ∧ Blk W w1.heap.size 61 #[.int .i64 nd, .int .i64 wd, .bool true, .bool dn]) W → W.rangeAt w.heap.size 0 (#[.int .u64 ka, .int .u64 kb, .slice (some ⟨b, o, none⟩) L.length cl, .slice Av es.length cv, .int .i64 last] : Array Value).toList := fun W h => h.1.rangeQ
    have HSB : ∀ W : World, (fun W : World => Blk W w.heap.size 52 #[.int .u64 ka, .int .u64 kb, .slice (some ⟨b, o, none⟩) L.length cl, .slice Av es.length cv, .int .i64 last] ∧ Blk W w1.heap.size 61 #[.int .i64 nd, .int .i64 wd, .bool true, .bool dn]) W → W.rangeAt w1.heap.size 0 (#[.int .i64 nd, .int .i64 wd, .bool true, .bool dn] : Array Value).toList := fun W h => h.2.rangeQ
    have HSL : ∀ W : World, (fun W : World => Blk W w.heap.size 52 #[.int .u64 ka, .int .u64 kb, .slice (some ⟨b, o, none⟩) L.length cl, .slice Av es.length cv, .int .i64 last] ∧ Blk W w1.heap.size 61 #[.int .i64 nd, .int .i64 wd, .bool true, .bool dn]) W → W.cell? ⟨w.heap.size, 2, none⟩ = some (.slice (some ⟨b, o, none⟩) L.length cl) := fun W h => h.1.cell 2
    have HCK := Lib.hid (HC1.out.trans ((hAk).drew))
    have HR0 := Lib.hid ((HB1.out.chg hAk (by simp)).drew)
    have HSW2 : Hid (∀ x ∈ (w.heap.size + 1) :: S, x < (w1.alloc (.cells #[.int .i64 nd, .int .i64 wd, .bool true, .bool dn] 61)).drew.heap.size) := Lib.hid fun x hx => by
      have h2 : (w1.alloc (.cells #[.int .i64 nd, .int .i64 wd, .bool true, .bool dn] 61)).drew.heap.size = w1.heap.size + 1 := by simp [World.drew]
      rcases List.mem_cons.1 hx with rfl | hx
      · omega
      · have := HSW.out x hx; omega
    have HSX : Hid (∀ x ∈ (w.heap.size + 1) :: S, x ∈ S ∨ w.heap.size ≤ x) := Lib.hid fun x hx => by
      rcases List.mem_cons.1 hx with rfl | hx
      · exact .inr (by omega)
      · exact .inl hx
    clear hAk hbk HK d0 d1 d2 d3 p2
    generalize (w1.alloc (.cells #[.int .i64 nd, .int .i64 wd, .bool true, .bool dn] 61)) = wk at *
    refine wp_region_noPanic ?_
    refine wp_region_held_drew (S := fun W : World => Blk W w.heap.size 52 #[.int .u64 ka, .int .u64 kb, .slice (some ⟨b, o, none⟩) L.length cl, .slice Av es.length cv, .int .i64 last] ∧ Blk W w1.heap.size 61 #[.int .i64 nd, .int .i64 wd, .bool true, .bool dn]) (by kernel_rfl) hS0 (fun _ => ?_)
    refine wpAnyH_take (i := 1) (v := ?_) rfl (by kernel_rfl) (by kernel_rfl) (by kernel_rfl) (fun _ _ _ h => h) (yields_pure (by rfl) (fun w => ?_)) (by with_reducible assumption) ?_
    rotate_left
    · (go_simp <;> with_reducible rfl)
    try simp only [List.getElem_toArray, List.getElem_cons_succ, List.getElem_cons_zero, Act.put, List.setIfInBounds_toArray, List.set_cons_zero, List.set_cons_succ]
    refine wpAnyH_take (i := 2) (v := ?_) rfl (by kernel_rfl) (by kernel_rfl) (by kernel_rfl) (fun _ _ _ h => h) (yields_pure (by rfl) (fun w => ?_)) (by with_reducible assumption) ?_
    rotate_left
    · (go_simp <;> with_reducible rfl)
    try simp only [List.getElem_toArray, List.getElem_cons_succ, List.getElem_cons_zero, Act.put, List.setIfInBounds_toArray, List.set_cons_zero, List.set_cons_succ]
    refine wpAnyH_take (i := 4) (v := ?_) rfl (by kernel_rfl) (by kernel_rfl) (by kernel_rfl) (fun _ _ _ h => h) (yields_pure (by rfl) (fun w => ?_)) (by with_reducible assumption) ?_
    rotate_left
    · (go_simp <;> with_reducible rfl)
    try simp only [List.getElem_toArray, List.getElem_cons_succ, List.getElem_cons_zero, Act.put, List.setIfInBounds_toArray, List.set_cons_zero, List.set_cons_succ]
    refine wpAnyH_take (i := 0) rfl (by kernel_rfl) (by kernel_rfl) (by kernel_rfl) (fun _ _ _ h => h) (yields_row (by rfl) 52 (.tmp 3) rfl w.heap.size 0 rfl (#[.int .u64 ka, .int .u64 kb, .slice (some ⟨b, o, none⟩) L.length cl, .slice Av es.length cv, .int .i64 last]) _ HSP Tryz.underlying52 rfl (by kernel_rfl)) (by with_reducible assumption) ?_
    try simp only [List.getElem_toArray, List.getElem_cons_succ, List.getElem_cons_zero, Act.put, List.setIfInBounds_toArray, List.set_cons_zero, List.set_cons_succ]
    refine wpAnyH_take (i := 3) rfl (by kernel_rfl) (by kernel_rfl) (by kernel_rfl) (fun _ _ _ h => h) (yields_cell (by rfl) 49 (.tmp 25) rfl w.heap.size 2 rfl (.slice (some ⟨b, o, none⟩) L.length cl) _ HSL Tryz.underlying49 rfl) (by with_reducible assumption) ?_
    try simp only [List.getElem_toArray, List.getElem_cons_succ, List.getElem_cons_zero, Act.put, List.setIfInBounds_toArray, List.set_cons_zero, List.set_cons_succ]
    refine wpAnyH_take (i := 5) rfl (by kernel_rfl) (by kernel_rfl) (by kernel_rfl) (fun _ _ _ h => h) (yields_row (by rfl) 61 (.tmp 9) rfl w1.heap.size 0 rfl (#[.int .i64 nd, .int .i64 wd, .bool true, .bool dn]) _ HSB Tryz.underlying61 rfl (by kernel_rfl)) (by with_reducible assumption) ?_
    try simp only [List.getElem_toArray, List.getElem_cons_succ, List.getElem_cons_zero, Act.put, List.setIfInBounds_toArray, List.set_cons_zero, List.set_cons_succ]
    refine wpAnyH_ready (rs := [6]) (by kernel_rfl) (by simp) (AllReadyH.cons rfl (fun K hK => ?_) AllReadyH.nil)
    go_simp
    refine (with35_any (SlB.chg0 HL.out.1 HCK.out) (by omega) HX.out ⟨nd, wd, true, dn⟩).mono ?_
    rintro e w2 ⟨v2, rfl, ho2, hc2⟩
    have hS2 := And.intro (hS0.1.chg hc2 (by simp)) (hS0.2.chg hc2 (by simp))
    have hS2' : (fun W : World => Blk W w.heap.size 52 #[.int .u64 ka, .int .u64 kb, .slice (some ⟨b, o, none⟩) L.length cl, .slice Av es.length cv, .int .i64 last] ∧ Blk W w1.heap.size 61 #[.int .i64 nd, .int .i64 wd, .bool true, .bool dn]) w2 := hS2
    have HC2 := Lib.hid (HCK.out.trans hc2)
    have HNV : Hid (RB w2 ((w.heap.size + 1) :: S) v2 (L.set i ⟨nd, wd, true, dn⟩)) := Lib.hid ⟨by have := Sl.less (B' := 0) ho2.sl (Nat.zero_le _); exact this, safe_new ho2 (Nat.le_refl _) HSW2.out⟩
    refine hK.out _ _ (by with_reducible assumption) (fun _ => ?_)
    clear hK K
    try simp only [List.getElem_toArray, List.getElem_cons_succ, List.getElem_cons_zero, Act.put, List.setIfInBounds_toArray, List.set_cons_zero, List.set_cons_succ]
    refine wpAnyH_ready (rs := [7]) (by kernel_rfl) (by simp) (AllReadyH.cons rfl (fun K hK => ?_) AllReadyH.nil)
    go_simp
    refine (apply35_any (fun x hx => Nat.lt_of_lt_of_le (HSW2.out x hx) hc2.size) (HL.out.chgS (HC2.out.more (by simp)) HSX.out) (HV.out.chgS (HC2.out.more (by simp)) HSX.out) HNV.out (HOK2.out (by first | rfl | trivial)) HOK.out hn hla).mono ?_
    rintro e w3 ⟨lv3, vv3, es3, rfl, h3a, h3b, hc3⟩
    have hS3' : (fun W : World => Blk W w.heap.size 52 #[.int .u64 ka, .int .u64 kb, .slice (some ⟨b, o, none⟩) L.length cl, .slice Av es.length cv, .int .i64 last] ∧ Blk W w1.heap.size 61 #[.int .i64 nd, .int .i64 wd, .bool true, .bool dn]) w3 := ⟨hS2.1.chg hc3 (by simp), hS2.2.chg hc3 (by simp)⟩
    obtain ⟨A3, n3, c3, rfl⟩ : ∃ A n c, lv3 = .slice A n c := ⟨_, _, _, (Sl.form h3a.1).choose_spec.choose_spec⟩
    obtain ⟨A4, n4, c4, rfl⟩ : ∃ A n c, vv3 = .slice A n c := ⟨_, _, _, (Sl.form h3b.1).choose_spec.choose_spec⟩
    have hRz := (HR0.out.chg hc2 (by simp)).chg hc3 (by simp)
    refine hK.out _ _ (by with_reducible assumption) (fun _ => ?_)
    clear hK K
    try simp only [List.getElem_toArray, List.getElem_cons_succ, List.getElem_cons_zero, Act.put, List.setIfInBounds_toArray, List.set_cons_zero, List.set_cons_succ]
    refine wpAnyH_take (i := 8) (v := ?_) rfl (by kernel_rfl) (by kernel_rfl) (by kernel_rfl) (fun _ _ _ h => h) (yields_pure (by rfl) (fun w => ?_)) (by with_reducible assumption) ?_
    rotate_left
    · (go_simp <;> with_reducible rfl)
    try simp only [List.getElem_toArray, List.getElem_cons_succ, List.getElem_cons_zero, Act.put, List.setIfInBounds_toArray, List.set_cons_zero, List.set_cons_succ]
    refine wpAnyH_take (i := 9) (v := ?_) rfl (by kernel_rfl) (by kernel_rfl) (by kernel_rfl) (fun _ _ _ h => h) (yields_pure (by rfl) (fun w => ?_)) (by with_reducible assumption) ?_
    rotate_left
    · (go_simp <;> with_reducible rfl)
    try simp only [List.getElem_toArray, List.getElem_cons_succ, List.getElem_cons_zero, Act.put, List.setIfInBounds_toArray, List.set_cons_zero, List.set_cons_succ]
    refine wpAnyH_ready (rs := [10]) (by kernel_rfl) (by simp) (AllReadyH.cons rfl (fun K hK => ?_) AllReadyH.nil)
    refine step_store_blk rfl 52 (.tmp 6) (.tmp 31) rfl hRz rfl rfl rfl (by kernel_rfl) rfl ?_
    intro w4 hb4 hc4
    have hS4' : (fun W : World => Blk W w.heap.size 52 #[.int .u64 ka, .int .u64 kb, .slice (some ⟨b, o, none⟩) L.length cl, .slice Av es.length cv, .int .i64 last] ∧ Blk W w1.heap.size 61 #[.int .i64 nd, .int .i64 wd, .bool true, .bool dn]) w4 := ⟨hS3'.1.chg hc4 (by simp), hS3'.2.chg hc4 (by simp; omega)⟩
    refine hK.out _ _ (by with_reducible assumption) (fun _ => ?_)
    clear hK K
    try simp only [List.getElem_toArray, List.getElem_cons_succ, List.getElem_cons_zero, Act.put, List.setIfInBounds_toArray, List.set_cons_zero, List.set_cons_succ]
    refine wpAnyH_take (i := 11) (v := ?_) rfl (by kernel_rfl) (by kernel_rfl) (by kernel_rfl) (fun _ _ _ h => h) (yields_pure (by rfl) (fun w => ?_)) (by with_reducible assumption) ?_
    rotate_left
    · (go_simp <;> with_reducible rfl)
    try simp only [List.getElem_toArray, List.getElem_cons_succ, List.getElem_cons_zero, Act.put, List.setIfInBounds_toArray, List.set_cons_zero, List.set_cons_succ]
    refine wpAnyH_done (by kernel_rfl) ?_ _
    refine NoPanic.normal ?_
    have HR4 := Lib.hid (And.intro h3a (And.intro h3b (And.intro hc3 hc4)))
    clear hS0 hS2 hS2' hS3' hS4' HSP HSB HSL h3a h3b hc3 hc2 ho2 hRz
    go_wp2_with fail
    refine bodyPost_ret (results_blk2 rfl rfl hb4 _ Tryz.underlying52 rfl (by kernel_rfl)) rfl ?_
    obtain ⟨h3a, h3b, hc3, hc4⟩ := HR4.out
    have hC4 := (HC2.out.trans hc3).trans' hc4 (fun x hx => .inr (by simp at hx; subst hx; omega))
    rw [HO.out]; show RfR _ _ _ _ _ (chP ka kb now _ (0, _)) _; rw [chP_set]
    exact ⟨_, _, es3, rfl, h3a.chgS (hc4.more (by simp)) (fun x hx => .inl (List.mem_cons_of_mem _ hx)), h3b.chgS (hc4.more (by simp)) (fun x hx => .inl (List.mem_cons_of_mem _ hx)), hC4⟩
  · have HO := Lib.hid (oneL_no (F := drainF) hm)
    have hfi : findI L n = -1 := by unfold findI; rw [if_neg hm]
    rw [hfi] at FF
    clear hL hm hfi
    go_enter Tryz.func37, Tryz.ntmps37
    go_wp2_with fail
    refine FF.out.mono ?_
    rintro e w1 ⟨rfl, hc1⟩
    obtain ⟨hA, hb0, hb1⟩ := HI.out
    generalize ((w.alloc (.cells #[.int .u64 ka, .int .u64 kb, .slice Al L.length cl, .slice Av es.length cv, .int .i64 last] 52)).alloc (.cells #[.int .u64 0, .int .u64 0, .slice none 0 0, .slice none 0 0, .int .i64 0] 52)) = w0 at *
    have HC1 := Lib.hid (hA.trans hc1)
    have hRP := range_pool (hb0.chg hc1 (by simp))
    have hR0 := hb1.chg hc1 (by simp)
    clear hA hb0 hb1 hc1 FF HI
    go_wp2_with (first
      | (refine wpList_row 52 (.tmp 3) rfl rfl w.heap.size 0 rfl #[.int .u64 ka, .int .u64 kb, .slice Al L.length cl, .slice Av es.length cv, .int .i64 last] _ hRP Tryz.underlying52 rfl (by kernel_rfl) ?_)
      | (refine wpList_store_blk rfl 52 _ _ rfl rfl hR0 rfl rfl rfl (by kernel_rfl) rfl ?_; intro w9 hB9 hc9)
      | fail)
    refine bodyPost_ret (results_blk2 rfl rfl hB9 _ Tryz.underlying52 rfl (by kernel_rfl)) rfl ?_
    have hC9 := HC1.out.trans' hc9 (fun x hx => .inr (by simp at hx; subst hx; omega))
    rw [HO.out, chP_err (by simp)]
    exact ⟨_, _, es, rfl, HL.out.chg0 hC9, HV.out.chg0 hC9, hC9⟩

set_option maxRecDepth 100000 in
set_option maxHeartbeats 4000000 in
theorem health35_any {w : World} {S : List Nat} {ka kb now last : Int} {lv vv : Value} {L : List Bk} {es : List Ve} {V : List Vs} (hSw : ∀ x ∈ S, x < w.heap.size) (hlv : RB w S lv L) (hvv : RV2 w S vv es V) (hL : OkB L) (hok : OkV V) (hn : 0 ≤ now ∧ now ≤ 1000000) (hla : 0 ≤ last ∧ last < 1000000) (n : Int) (up : Bool) :
    Calls Tryz.prog 39 #[.agg #[.int .u64 ka, .int .u64 kb, lv, vv, .int .i64 last], .int .i64 now, .int .i64 n, .bool up] w fun e w' => RfR w w' S ka kb (chP ka kb now ⟨L, V, last⟩ (oneL n (healthF up) L)) e := by
  obtain ⟨Al, cl, el⟩ := Sl.form hlv.1
  obtain ⟨Av, cv, ev⟩ := Sl.form hvv.1
  subst el ev
  have hA := ((Chg.refl [] w).alloc (.cells #[.int .u64 ka, .int .u64 kb, .slice Al L.length cl, .slice Av es.length cv, .int .i64 last] 52)).alloc (.cells #[.int .u64 0, .int .u64 0, .slice none 0 0, .slice none 0 0, .int .i64 0] 52)
  have hb0 : Blk ((w.alloc (.cells #[.int .u64 ka, .int .u64 kb, .slice Al L.length cl, .slice Av es.length cv, .int .i64 last] 52)).alloc (.cells #[.int .u64 0, .int .u64 0, .slice none 0 0, .slice none 0 0, .int .i64 0] 52)) w.heap.size 52 #[.int .u64 ka, .int .u64 kb, .slice Al L.length cl, .slice Av es.length cv, .int .i64 last] := (Blk.new _ _ _).alloc _
  have hb1 : Blk ((w.alloc (.cells #[.int .u64 ka, .int .u64 kb, .slice Al L.length cl, .slice Av es.length cv, .int .i64 last] 52)).alloc (.cells #[.int .u64 0, .int .u64 0, .slice none 0 0, .slice none 0 0, .int .i64 0] 52)) (w.heap.size + 1) 52 #[.int .u64 0, .int .u64 0, .slice none 0 0, .slice none 0 0, .int .i64 0] := Blk.new' (by simp)
  have FF := Lib.hid (find35_any (SlB.chg0 hlv.1 hA) hL n)
  have HI := Lib.hid (And.intro hA (And.intro hb0 hb1))
  have HL := Lib.hid hlv
  have HV := Lib.hid hvv
  have HOK := Lib.hid hok
  have HOL := Lib.hid hL
  have HSW := Lib.hid hSw
  have hlen := hL.len
  have hz : w.heap.size + 1 ≠ w.heap.size := by omega
  clear hA hb0 hb1 hlv hvv hok hSw
  by_cases hm : n ∈ nodesB L
  · obtain ⟨x, hx, hxn⟩ := cntB_at hL.srt hm
    have HO := Lib.hid (oneL_at (F := healthF up) hm hx)
    have hfi : findI L n = (cntB L n : Int) := by unfold findI; rw [if_pos hm]
    rw [hfi] at FF
    have HOK2 := Lib.hid (oneL_ok (n := n) (f := healthF up) hL (fun x hx _ => ⟨rfl, hx⟩))
    have hil := (List.getElem?_eq_some_iff.1 hx).1
    have HX := Lib.hid hx
    rw [HO.out] at HOK2
    clear hL hm hx hxn hfi
    generalize cntB L n = i at *
    have hni : ¬ ((i : Int) < 0) := by omega
    have hilI : (i : Int) < (L.length : Int) := by omega
    go_enter Tryz.func39, Tryz.ntmps39
    go_wp2_with fail
    refine FF.out.mono ?_
    rintro e w1 ⟨rfl, hc1⟩
    obtain ⟨hA, hb0, hb1⟩ := HI.out
    generalize ((w.alloc (.cells #[.int .u64 ka, .int .u64 kb, .slice Al L.length cl, .slice Av es.length cv, .int .i64 last] 52)).alloc (.cells #[.int .u64 0, .int .u64 0, .slice none 0 0, .slice none 0 0, .int .i64 0] 52)) = w0 at *
    have HC1 := Lib.hid (hA.trans hc1)
    have HB0 := Lib.hid (hb0.chg hc1 (by simp))
    have HB1 := Lib.hid (hb1.chg hc1 (by simp))
    obtain ⟨b, o, cc, hv1, hcap, d0, d1, d2, d3⟩ := (HL.out.chg0 HC1.out).1.at_ HX.out
    simp only [Value.slice.injEq, true_and] at hv1
    obtain ⟨rfl, rfl⟩ := hv1
    have p2 := HB0.out.cell 2
    simp only [List.getElem?_toArray, List.getElem?_cons_succ, List.getElem?_cons_zero] at p2
    clear hA hb0 hb1 hc1 FF HI
    obtain ⟨nd, wd, dr, dn⟩ := x
    simp only at d0 d1 d2 d3
    have hAk := (Chg.refl [] w1).alloc (.cells #[.int .i64 nd, .int .i64 wd, .bool dr, .bool (!up)] 61)
    have hbk : Blk (w1.alloc (.cells #[.int .i64 nd, .int .i64 wd, .bool dr, .bool (!up)] 61)) w1.heap.size 61 #[.int .i64 nd, .int .i64 wd, .bool dr, .bool (!up)] := Blk.new _ _ _
    have HK := Lib.hid (And.intro hAk hbk)
    have h1s : w.heap.size + 2 ≤ w1.heap.size := by have := HB1.out.lt; omega
    clear hAk hbk
    go_upto_region 6 with fail
    obtain ⟨hAk, hbk⟩ := HK.out
    have hS0 : (fun W : World => Blk W w.heap.size 52 #[.int .u64 ka, .int .u64 kb, .slice (some ⟨b, o, none⟩) L.length cl, .slice Av es.length cv, .int .i64 last] ∧ Blk W w1.heap.size 61 #[.int .i64 nd, .int .i64 wd, .bool dr, .bool (!up)]) (w1.alloc (.cells #[.int .i64 nd, .int .i64 wd, .bool dr, .bool (!up)] 61)).drew := ⟨(HB0.out.chg hAk (by simp)).drew, hbk.drew⟩
    have HSP : ∀ W : World, (fun W : World => Blk W w.heap.size 52 #[.int .u64 ka, .int .u64 kb, .slice (some ⟨b, o, none⟩) L.length cl, .slice Av es.length cv, .int .i64 last] ∧ Blk W w1.heap.size 61 #[.int .i64 nd, .int .i64 wd, .bool dr, .bool (!up)]) W → W.rangeAt w.heap.size 0 (#[.int .u64 ka, .int .u64 kb, .slice (some ⟨b, o, none⟩) L.length cl, .slice Av es.length cv, .int .i64 last] : Array Value).toList := fun W h => h.1.rangeQ
    have HSB : ∀ W : World, (fun W : World => Blk W w.heap.size 52 #[.int .u64 ka, .int .u64 kb, .slice (some ⟨b, o, none⟩) L.length cl, .slice Av es.length cv, .int .i64 last] ∧ Blk W w1.heap.size 61 #[.int .i64 nd, .int .i64 wd, .bool dr, .bool (!up)]) W → W.rangeAt w1.heap.size 0 (#[.int .i64 nd, .int .i64 wd, .bool dr, .bool (!up)] : Array Value).toList := fun W h => h.2.rangeQ
    have HSL : ∀ W : World, (fun W : World => Blk W w.heap.size 52 #[.int .u64 ka, .int .u64 kb, .slice (some ⟨b, o, none⟩) L.length cl, .slice Av es.length cv, .int .i64 last] ∧ Blk W w1.heap.size 61 #[.int .i64 nd, .int .i64 wd, .bool dr, .bool (!up)]) W → W.cell? ⟨w.heap.size, 2, none⟩ = some (.slice (some ⟨b, o, none⟩) L.length cl) := fun W h => h.1.cell 2
    have HCK := Lib.hid (HC1.out.trans ((hAk).drew))
    have HR0 := Lib.hid ((HB1.out.chg hAk (by simp)).drew)
    have HSW2 : Hid (∀ x ∈ (w.heap.size + 1) :: S, x < (w1.alloc (.cells #[.int .i64 nd, .int .i64 wd, .bool dr, .bool (!up)] 61)).drew.heap.size) := Lib.hid fun x hx => by
      have h2 : (w1.alloc (.cells #[.int .i64 nd, .int .i64 wd, .bool dr, .bool (!up)] 61)).drew.heap.size = w1.heap.size + 1 := by simp [World.drew]
      rcases List.mem_cons.1 hx with rfl | hx
      · omega
      · have := HSW.out x hx; omega
    have HSX : Hid (∀ x ∈ (w.heap.size + 1) :: S, x ∈ S ∨ w.heap.size ≤ x) := Lib.hid fun x hx => by
      rcases List.mem_cons.1 hx with rfl | hx
      · exact .inr (by omega)
      · exact .inl hx
    clear hAk hbk HK d0 d1 d2 d3 p2
    generalize (w1.alloc (.cells #[.int .i64 nd, .int .i64 wd, .bool dr, .bool (!up)] 61)) = wk at *
    refine wp_region_noPanic ?_
    refine wp_region_held_drew (S := fun W : World => Blk W w.heap.size 52 #[.int .u64 ka, .int .u64 kb, .slice (some ⟨b, o, none⟩) L.length cl, .slice Av es.length cv, .int .i64 last] ∧ Blk W w1.heap.size 61 #[.int .i64 nd, .int .i64 wd, .bool dr, .bool (!up)]) (by kernel_rfl) hS0 (fun _ => ?_)
    refine wpAnyH_take (i := 1) (v := ?_) rfl (by kernel_rfl) (by kernel_rfl) (by kernel_rfl) (fun _ _ _ h => h) (yields_pure (by rfl) (fun w => ?_)) (by with_reducible assumption) ?_
    rotate_left
    · (go_simp <;> with_reducible rfl)
    try simp only [List.getElem_toArray, List.getElem_cons_succ, List.getElem_cons_zero, Act.put, List.setIfInBounds_toArray, List.set_cons_zero, List.set_cons_succ]
    refine wpAnyH_take (i := 2) (v := ?_) rfl (by kernel_rfl) (by kernel_rfl) (by kernel_rfl) (fun _ _ _ h => h) (yields_pure (by rfl) (fun w => ?_)) (by with_reducible assumption) ?_
    rotate_left
    · (go_simp <;> with_reducible rfl)
    try simp only [List.getElem_toArray, List.getElem_cons_succ, List.getElem_cons_zero, Act.put, List.setIfInBounds_toArray, List.set_cons_zero, List.set_cons_succ]
    refine wpAnyH_take (i := 4) (v := ?_) rfl (by kernel_rfl) (by kernel_rfl) (by kernel_rfl) (fun _ _ _ h => h) (yields_pure (by rfl) (fun w => ?_)) (by with_reducible assumption) ?_
    rotate_left
    · (go_simp <;> with_reducible rfl)
    try simp only [List.getElem_toArray, List.getElem_cons_succ, List.getElem_cons_zero, Act.put, List.setIfInBounds_toArray, List.set_cons_zero, List.set_cons_succ]
    refine wpAnyH_take (i := 0) rfl (by kernel_rfl) (by kernel_rfl) (by kernel_rfl) (fun _ _ _ h => h) (yields_row (by rfl) 52 (.tmp 4) rfl w.heap.size 0 rfl (#[.int .u64 ka, .int .u64 kb, .slice (some ⟨b, o, none⟩) L.length cl, .slice Av es.length cv, .int .i64 last]) _ HSP Tryz.underlying52 rfl (by kernel_rfl)) (by with_reducible assumption) ?_
    try simp only [List.getElem_toArray, List.getElem_cons_succ, List.getElem_cons_zero, Act.put, List.setIfInBounds_toArray, List.set_cons_zero, List.set_cons_succ]
    refine wpAnyH_take (i := 3) rfl (by kernel_rfl) (by kernel_rfl) (by kernel_rfl) (fun _ _ _ h => h) (yields_cell (by rfl) 49 (.tmp 29) rfl w.heap.size 2 rfl (.slice (some ⟨b, o, none⟩) L.length cl) _ HSL Tryz.underlying49 rfl) (by with_reducible assumption) ?_
    try simp only [List.getElem_toArray, List.getElem_cons_succ, List.getElem_cons_zero, Act.put, List.setIfInBounds_toArray, List.set_cons_zero, List.set_cons_succ]
    refine wpAnyH_take (i := 5) rfl (by kernel_rfl) (by kernel_rfl) (by kernel_rfl) (fun _ _ _ h => h) (yields_row (by rfl) 61 (.tmp 11) rfl w1.heap.size 0 rfl (#[.int .i64 nd, .int .i64 wd, .bool dr, .bool (!up)]) _ HSB Tryz.underlying61 rfl (by kernel_rfl)) (by with_reducible assumption) ?_
    try simp only [List.getElem_toArray, List.getElem_cons_succ, List.getElem_cons_zero, Act.put, List.setIfInBounds_toArray, List.set_cons_zero, List.set_cons_succ]
    refine wpAnyH_ready (rs := [6]) (by kernel_rfl) (by simp) (AllReadyH.cons rfl (fun K hK => ?_) AllReadyH.nil)
    go_simp
    refine (with35_any (SlB.chg0 HL.out.1 HCK.out) (by omega) HX.out ⟨nd, wd, dr, !up⟩).mono ?_
    rintro e w2 ⟨v2, rfl, ho2, hc2⟩
    have hS2 := And.intro (hS0.1.chg hc2 (by simp)) (hS0.2.chg hc2 (by simp))
    have hS2' : (fun W : World => Blk W w.heap.size 52 #[.int .u64 ka, .int .u64 kb, .slice (some ⟨b, o, none⟩) L.length cl, .slice Av es.length cv, .int .i64 last] ∧ Blk W w1.heap.size 61 #[.int .i64 nd, .int .i64 wd, .bool dr, .bool (!up)]) w2 := hS2
    have HC2 := Lib.hid (HCK.out.trans hc2)
    have HNV : Hid (RB w2 ((w.heap.size + 1) :: S) v2 (L.set i ⟨nd, wd, dr, !up⟩)) := Lib.hid ⟨by have := Sl.less (B' := 0) ho2.sl (Nat.zero_le _); exact this, safe_new ho2 (Nat.le_refl _) HSW2.out⟩
    refine hK.out _ _ (by with_reducible assumption) (fun _ => ?_)
    clear hK K
    try simp only [List.getElem_toArray, List.getElem_cons_succ, List.getElem_cons_zero, Act.put, List.setIfInBounds_toArray, List.set_cons_zero, List.set_cons_succ]
    refine wpAnyH_ready (rs := [7]) (by kernel_rfl) (by simp) (AllReadyH.cons rfl (fun K hK => ?_) AllReadyH.nil)
    go_simp
    refine (apply35_any (fun x hx => Nat.lt_of_lt_of_le (HSW2.out x hx) hc2.size) (HL.out.chgS (HC2.out.more (by simp)) HSX.out) (HV.out.chgS (HC2.out.more (by simp)) HSX.out) HNV.out (HOK2.out (by first | rfl | trivial)) HOK.out hn hla).mono ?_
    rintro e w3 ⟨lv3, vv3, es3, rfl, h3a, h3b, hc3⟩
    have hS3' : (fun W : World => Blk W w.heap.size 52 #[.int .u64 ka, .int .u64 kb, .slice (some ⟨b, o, none⟩) L.length cl, .slice Av es.length cv, .int .i64 last] ∧ Blk W w1.heap.size 61 #[.int .i64 nd, .int .i64 wd, .bool dr, .bool (!up)]) w3 := ⟨hS2.1.chg hc3 (by simp), hS2.2.chg hc3 (by simp)⟩
    obtain ⟨A3, n3, c3, rfl⟩ : ∃ A n c, lv3 = .slice A n c := ⟨_, _, _, (Sl.form h3a.1).choose_spec.choose_spec⟩
    obtain ⟨A4, n4, c4, rfl⟩ : ∃ A n c, vv3 = .slice A n c := ⟨_, _, _, (Sl.form h3b.1).choose_spec.choose_spec⟩
    have hRz := (HR0.out.chg hc2 (by simp)).chg hc3 (by simp)
    refine hK.out _ _ (by with_reducible assumption) (fun _ => ?_)
    clear hK K
    try simp only [List.getElem_toArray, List.getElem_cons_succ, List.getElem_cons_zero, Act.put, List.setIfInBounds_toArray, List.set_cons_zero, List.set_cons_succ]
    refine wpAnyH_take (i := 8) (v := ?_) rfl (by kernel_rfl) (by kernel_rfl) (by kernel_rfl) (fun _ _ _ h => h) (yields_pure (by rfl) (fun w => ?_)) (by with_reducible assumption) ?_
    rotate_left
    · (go_simp <;> with_reducible rfl)
    try simp only [List.getElem_toArray, List.getElem_cons_succ, List.getElem_cons_zero, Act.put, List.setIfInBounds_toArray, List.set_cons_zero, List.set_cons_succ]
    refine wpAnyH_take (i := 9) (v := ?_) rfl (by kernel_rfl) (by kernel_rfl) (by kernel_rfl) (fun _ _ _ h => h) (yields_pure (by rfl) (fun w => ?_)) (by with_reducible assumption) ?_
    rotate_left
    · (go_simp <;> with_reducible rfl)
    try simp only [List.getElem_toArray, List.getElem_cons_succ, List.getElem_cons_zero, Act.put, List.setIfInBounds_toArray, List.set_cons_zero, List.set_cons_succ]
    refine wpAnyH_ready (rs := [10]) (by kernel_rfl) (by simp) (AllReadyH.cons rfl (fun K hK => ?_) AllReadyH.nil)
    refine step_store_blk rfl 52 (.tmp 8) (.tmp 35) rfl hRz rfl rfl rfl (by kernel_rfl) rfl ?_
    intro w4 hb4 hc4
    have hS4' : (fun W : World => Blk W w.heap.size 52 #[.int .u64 ka, .int .u64 kb, .slice (some ⟨b, o, none⟩) L.length cl, .slice Av es.length cv, .int .i64 last] ∧ Blk W w1.heap.size 61 #[.int .i64 nd, .int .i64 wd, .bool dr, .bool (!up)]) w4 := ⟨hS3'.1.chg hc4 (by simp), hS3'.2.chg hc4 (by simp; omega)⟩
    refine hK.out _ _ (by with_reducible assumption) (fun _ => ?_)
    clear hK K
    try simp only [List.getElem_toArray, List.getElem_cons_succ, List.getElem_cons_zero, Act.put, List.setIfInBounds_toArray, List.set_cons_zero, List.set_cons_succ]
    refine wpAnyH_take (i := 11) (v := ?_) rfl (by kernel_rfl) (by kernel_rfl) (by kernel_rfl) (fun _ _ _ h => h) (yields_pure (by rfl) (fun w => ?_)) (by with_reducible assumption) ?_
    rotate_left
    · (go_simp <;> with_reducible rfl)
    try simp only [List.getElem_toArray, List.getElem_cons_succ, List.getElem_cons_zero, Act.put, List.setIfInBounds_toArray, List.set_cons_zero, List.set_cons_succ]
    refine wpAnyH_done (by kernel_rfl) ?_ _
    refine NoPanic.normal ?_
    have HR4 := Lib.hid (And.intro h3a (And.intro h3b (And.intro hc3 hc4)))
    clear hS0 hS2 hS2' hS3' hS4' HSP HSB HSL h3a h3b hc3 hc2 ho2 hRz
    go_wp2_with fail
    refine bodyPost_ret (results_blk2 rfl rfl hb4 _ Tryz.underlying52 rfl (by kernel_rfl)) rfl ?_
    obtain ⟨h3a, h3b, hc3, hc4⟩ := HR4.out
    have hC4 := (HC2.out.trans hc3).trans' hc4 (fun x hx => .inr (by simp at hx; subst hx; omega))
    rw [HO.out]; show RfR _ _ _ _ _ (chP ka kb now _ (0, _)) _; rw [chP_set]
    exact ⟨_, _, es3, rfl, h3a.chgS (hc4.more (by simp)) (fun x hx => .inl (List.mem_cons_of_mem _ hx)), h3b.chgS (hc4.more (by simp)) (fun x hx => .inl (List.mem_cons_of_mem _ hx)), hC4⟩
  · have HO := Lib.hid (oneL_no (F := healthF up) hm)
    have hfi : findI L n = -1 := by unfold findI; rw [if_neg hm]
    rw [hfi] at FF
    clear hL hm hfi
    go_enter Tryz.func39, Tryz.ntmps39
    go_wp2_with fail
    refine FF.out.mono ?_
    rintro e w1 ⟨rfl, hc1⟩
    obtain ⟨hA, hb0, hb1⟩ := HI.out
    generalize ((w.alloc (.cells #[.int .u64 ka, .int .u64 kb, .slice Al L.length cl, .slice Av es.length cv, .int .i64 last] 52)).alloc (.cells #[.int .u64 0, .int .u64 0, .slice none 0 0, .slice none 0 0, .int .i64 0] 52)) = w0 at *
    have HC1 := Lib.hid (hA.trans hc1)
    have hRP := range_pool (hb0.chg hc1 (by simp))
    have hR0 := hb1.chg hc1 (by simp)
    clear hA hb0 hb1 hc1 FF HI
    go_wp2_with (first
      | (refine wpList_row 52 (.tmp 4) rfl rfl w.heap.size 0 rfl #[.int .u64 ka, .int .u64 kb, .slice Al L.length cl, .slice Av es.length cv, .int .i64 last] _ hRP Tryz.underlying52 rfl (by kernel_rfl) ?_)
      | (refine wpList_store_blk rfl 52 _ _ rfl rfl hR0 rfl rfl rfl (by kernel_rfl) rfl ?_; intro w9 hB9 hc9)
      | fail)
    refine bodyPost_ret (results_blk2 rfl rfl hB9 _ Tryz.underlying52 rfl (by kernel_rfl)) rfl ?_
    have hC9 := HC1.out.trans' hc9 (fun x hx => .inr (by simp at hx; subst hx; omega))
    rw [HO.out, chP_err (by simp)]
    exact ⟨_, _, es, rfl, HL.out.chg0 hC9, HV.out.chg0 hC9, hC9⟩

set_option maxRecDepth 100000 in
set_option maxHeartbeats 4000000 in
theorem weigh35_any {w : World} {S : List Nat} {ka kb now last : Int} {lv vv : Value} {L : List Bk} {es : List Ve} {V : List Vs} (hSw : ∀ x ∈ S, x < w.heap.size) (hlv : RB w S lv L) (hvv : RV2 w S vv es V) (hL : OkB L) (hok : OkV V) (hn : 0 ≤ now ∧ now ≤ 1000000) (hla : 0 ≤ last ∧ last < 1000000) (n : Int) (wt : Int) :
    Calls Tryz.prog 36 #[.agg #[.int .u64 ka, .int .u64 kb, lv, vv, .int .i64 last], .int .i64 now, .int .i64 n, .int .i64 wt] w fun e w' => RfR w w' S ka kb (chP ka kb now ⟨L, V, last⟩ (oneL n (weighF wt) L)) e := by
  obtain ⟨Al, cl, el⟩ := Sl.form hlv.1
  obtain ⟨Av, cv, ev⟩ := Sl.form hvv.1
  subst el ev
  have hA := ((Chg.refl [] w).alloc (.cells #[.int .u64 ka, .int .u64 kb, .slice Al L.length cl, .slice Av es.length cv, .int .i64 last] 52)).alloc (.cells #[.int .u64 0, .int .u64 0, .slice none 0 0, .slice none 0 0, .int .i64 0] 52)
  have hb0 : Blk ((w.alloc (.cells #[.int .u64 ka, .int .u64 kb, .slice Al L.length cl, .slice Av es.length cv, .int .i64 last] 52)).alloc (.cells #[.int .u64 0, .int .u64 0, .slice none 0 0, .slice none 0 0, .int .i64 0] 52)) w.heap.size 52 #[.int .u64 ka, .int .u64 kb, .slice Al L.length cl, .slice Av es.length cv, .int .i64 last] := (Blk.new _ _ _).alloc _
  have hb1 : Blk ((w.alloc (.cells #[.int .u64 ka, .int .u64 kb, .slice Al L.length cl, .slice Av es.length cv, .int .i64 last] 52)).alloc (.cells #[.int .u64 0, .int .u64 0, .slice none 0 0, .slice none 0 0, .int .i64 0] 52)) (w.heap.size + 1) 52 #[.int .u64 0, .int .u64 0, .slice none 0 0, .slice none 0 0, .int .i64 0] := Blk.new' (by simp)
  have FF := Lib.hid (find35_any (SlB.chg0 hlv.1 hA) hL n)
  have HI := Lib.hid (And.intro hA (And.intro hb0 hb1))
  have HL := Lib.hid hlv
  have HV := Lib.hid hvv
  have HOK := Lib.hid hok
  have HOL := Lib.hid hL
  have HSW := Lib.hid hSw
  have hlen := hL.len
  have hz : w.heap.size + 1 ≠ w.heap.size := by omega
  clear hA hb0 hb1 hlv hvv hok hSw
  by_cases hm : n ∈ nodesB L
  · obtain ⟨x, hx, hxn⟩ := cntB_at hL.srt hm
    have HO := Lib.hid (oneL_at (F := weighF wt) hm hx)
    have hfi : findI L n = (cntB L n : Int) := by unfold findI; rw [if_pos hm]
    rw [hfi] at FF
    have HOK2 := Lib.hid (oneL_ok (n := n) (f := weighF wt) hL (fun x hx => by
      unfold weighF
      split
      · intro e; simp at e
      · next hw => intro _; exact ⟨rfl, by show 0 ≤ wt; omega, by show wt ≤ 4; omega⟩))
    have hil := (List.getElem?_eq_some_iff.1 hx).1
    have HX := Lib.hid hx
    rw [HO.out] at HOK2
    clear hL hm hx hxn hfi
    generalize cntB L n = i at *
    have hni : ¬ ((i : Int) < 0) := by omega
    have hilI : (i : Int) < (L.length : Int) := by omega
    go_enter Tryz.func36, Tryz.ntmps36
    go_wp2_with fail
    refine FF.out.mono ?_
    rintro e w1 ⟨rfl, hc1⟩
    obtain ⟨hA, hb0, hb1⟩ := HI.out
    generalize ((w.alloc (.cells #[.int .u64 ka, .int .u64 kb, .slice Al L.length cl, .slice Av es.length cv, .int .i64 last] 52)).alloc (.cells #[.int .u64 0, .int .u64 0, .slice none 0 0, .slice none 0 0, .int .i64 0] 52)) = w0 at *
    have HC1 := Lib.hid (hA.trans hc1)
    have HB0 := Lib.hid (hb0.chg hc1 (by simp))
    have HB1 := Lib.hid (hb1.chg hc1 (by simp))
    obtain ⟨b, o, cc, hv1, hcap, d0, d1, d2, d3⟩ := (HL.out.chg0 HC1.out).1.at_ HX.out
    simp only [Value.slice.injEq, true_and] at hv1
    obtain ⟨rfl, rfl⟩ := hv1
    have p2 := HB0.out.cell 2
    simp only [List.getElem?_toArray, List.getElem?_cons_succ, List.getElem?_cons_zero] at p2
    clear hA hb0 hb1 hc1 FF HI
    by_cases hb : wt < 0 ∨ 4 < wt
    · have HFB : Hid (weighF wt x = (2, x)) := Lib.hid (by unfold weighF; rw [if_pos hb])
      rw [HFB.out] at HO
      have hRP := range_pool HB0.out
      have hR0 := HB1.out
      clear d0 d1 d2 d3 p2 HOK2
      rcases Int.lt_or_le wt 0 with h0 | h0
      · clear hb
        go_wp2_with (first
          | (refine wpList_row 52 (.tmp 4) rfl rfl w.heap.size 0 rfl #[.int .u64 ka, .int .u64 kb, .slice (some ⟨b, o, none⟩) L.length cl, .slice Av es.length cv, .int .i64 last] _ hRP Tryz.underlying52 rfl (by kernel_rfl) ?_)
          | (refine wpList_store_blk rfl 52 _ _ rfl rfl hR0 rfl rfl rfl (by kernel_rfl) rfl ?_; intro w9 hB9 hc9)
          | fail)
        refine bodyPost_ret (results_blk2 rfl rfl hB9 _ Tryz.underlying52 rfl (by kernel_rfl)) rfl ?_
        have hC9 := HC1.out.trans' hc9 (fun x hx => .inr (by simp at hx; subst hx; omega))
        rw [HO.out, chP_err (by simp)]
        exact ⟨_, _, es, rfl, HL.out.chg0 hC9, HV.out.chg0 hC9, hC9⟩
      · have h4 : 4 < wt := by omega
        have h0' : ¬ wt < 0 := by omega
        clear hb
        go_wp2_with (first
          | (refine wpList_row 52 (.tmp 4) rfl rfl w.heap.size 0 rfl #[.int .u64 ka, .int .u64 kb, .slice (some ⟨b, o, none⟩) L.length cl, .slice Av es.length cv, .int .i64 last] _ hRP Tryz.underlying52 rfl (by kernel_rfl) ?_)
          | (refine wpList_store_blk rfl 52 _ _ rfl rfl hR0 rfl rfl rfl (by kernel_rfl) rfl ?_; intro w9 hB9 hc9)
          | fail)
        refine bodyPost_ret (results_blk2 rfl rfl hB9 _ Tryz.underlying52 rfl (by kernel_rfl)) rfl ?_
        have hC9 := HC1.out.trans' hc9 (fun x hx => .inr (by simp at hx; subst hx; omega))
        rw [HO.out, chP_err (by simp)]
        exact ⟨_, _, es, rfl, HL.out.chg0 hC9, HV.out.chg0 hC9, hC9⟩
    · have HFB : Hid (weighF wt x = (0, { x with w := wt })) := Lib.hid (by unfold weighF; rw [if_neg hb])
      have h0 : ¬ wt < 0 := by omega
      have h4 : ¬ 4 < wt := by omega
      rw [HFB.out] at HO HOK2
      clear hb HFB
      obtain ⟨nd, wd, dr, dn⟩ := x
      simp only at d0 d1 d2 d3
      have hAk := (Chg.refl [] w1).alloc (.cells #[.int .i64 nd, .int .i64 wt, .bool dr, .bool dn] 61)
      have hbk : Blk (w1.alloc (.cells #[.int .i64 nd, .int .i64 wt, .bool dr, .bool dn] 61)) w1.heap.size 61 #[.int .i64 nd, .int .i64 wt, .bool dr, .bool dn] := Blk.new _ _ _
      have HK := Lib.hid (And.intro hAk hbk)
      have h1s : w.heap.size + 2 ≤ w1.heap.size := by have := HB1.out.lt; omega
      clear hAk hbk
      go_upto_region 8 with fail
      obtain ⟨hAk, hbk⟩ := HK.out
      have hS0 : (fun W : World => Blk W w.heap.size 52 #[.int .u64 ka, .int .u64 kb, .slice (some ⟨b, o, none⟩) L.length cl, .slice Av es.length cv, .int .i64 last] ∧ Blk W w1.heap.size 61 #[.int .i64 nd, .int .i64 wt, .bool dr, .bool dn]) (w1.alloc (.cells #[.int .i64 nd, .int .i64 wt, .bool dr, .bool dn] 61)).drew := ⟨(HB0.out.chg hAk (by simp)).drew, hbk.drew⟩
      have HSP : ∀ W : World, (fun W : World => Blk W w.heap.size 52 #[.int .u64 ka, .int .u64 kb, .slice (some ⟨b, o, none⟩) L.length cl, .slice Av es.length cv, .int .i64 last] ∧ Blk W w1.heap.size 61 #[.int .i64 nd, .int .i64 wt, .bool dr, .bool dn]) W → W.rangeAt w.heap.size 0 (#[.int .u64 ka, .int .u64 kb, .slice (some ⟨b, o, none⟩) L.length cl, .slice Av es.length cv, .int .i64 last] : Array Value).toList := fun W h => h.1.rangeQ
      have HSB : ∀ W : World, (fun W : World => Blk W w.heap.size 52 #[.int .u64 ka, .int .u64 kb, .slice (some ⟨b, o, none⟩) L.length cl, .slice Av es.length cv, .int .i64 last] ∧ Blk W w1.heap.size 61 #[.int .i64 nd, .int .i64 wt, .bool dr, .bool dn]) W → W.rangeAt w1.heap.size 0 (#[.int .i64 nd, .int .i64 wt, .bool dr, .bool dn] : Array Value).toList := fun W h => h.2.rangeQ
      have HSL : ∀ W : World, (fun W : World => Blk W w.heap.size 52 #[.int .u64 ka, .int .u64 kb, .slice (some ⟨b, o, none⟩) L.length cl, .slice Av es.length cv, .int .i64 last] ∧ Blk W w1.heap.size 61 #[.int .i64 nd, .int .i64 wt, .bool dr, .bool dn]) W → W.cell? ⟨w.heap.size, 2, none⟩ = some (.slice (some ⟨b, o, none⟩) L.length cl) := fun W h => h.1.cell 2
      have HCK := Lib.hid (HC1.out.trans ((hAk).drew))
      have HR0 := Lib.hid ((HB1.out.chg hAk (by simp)).drew)
      have HSW2 : Hid (∀ x ∈ (w.heap.size + 1) :: S, x < (w1.alloc (.cells #[.int .i64 nd, .int .i64 wt, .bool dr, .bool dn] 61)).drew.heap.size) := Lib.hid fun x hx => by
        have h2 : (w1.alloc (.cells #[.int .i64 nd, .int .i64 wt, .bool dr, .bool dn] 61)).drew.heap.size = w1.heap.size + 1 := by simp [World.drew]
        rcases List.mem_cons.1 hx with rfl | hx
        · omega
        · have := HSW.out x hx; omega
      have HSX : Hid (∀ x ∈ (w.heap.size + 1) :: S, x ∈ S ∨ w.heap.size ≤ x) := Lib.hid fun x hx => by
        rcases List.mem_cons.1 hx with rfl | hx
        · exact .inr (by omega)
        · exact .inl hx
      clear hAk hbk HK d0 d1 d2 d3 p2
      generalize (w1.alloc (.cells #[.int .i64 nd, .int .i64 wt, .bool dr, .bool dn] 61)) = wk at *
      refine wp_region_noPanic ?_
      refine wp_region_held_drew (S := fun W : World => Blk W w.heap.size 52 #[.int .u64 ka, .int .u64 kb, .slice (some ⟨b, o, none⟩) L.length cl, .slice Av es.length cv, .int .i64 last] ∧ Blk W w1.heap.size 61 #[.int .i64 nd, .int .i64 wt, .bool dr, .bool dn]) (by kernel_rfl) hS0 (fun _ => ?_)
      refine wpAnyH_take (i := 1) (v := ?_) rfl (by kernel_rfl) (by kernel_rfl) (by kernel_rfl) (fun _ _ _ h => h) (yields_pure (by rfl) (fun w => ?_)) (by with_reducible assumption) ?_
      rotate_left
      · (go_simp <;> with_reducible rfl)
      try simp only [List.getElem_toArray, List.getElem_cons_succ, List.getElem_cons_zero, Act.put, List.setIfInBounds_toArray, List.set_cons_zero, List.set_cons_succ]
      refine wpAnyH_take (i := 2) (v := ?_) rfl (by kernel_rfl) (by kernel_rfl) (by kernel_rfl) (fun _ _ _ h => h) (yields_pure (by rfl) (fun w => ?_)) (by with_reducible assumption) ?_
      rotate_left
      · (go_simp <;> with_reducible rfl)
      try simp only [List.getElem_toArray, List.getElem_cons_succ, List.getElem_cons_zero, Act.put, List.setIfInBounds_toArray, List.set_cons_zero, List.set_cons_succ]
      refine wpAnyH_take (i := 4) (v := ?_) rfl (by kernel_rfl) (by kernel_rfl) (by kernel_rfl) (fun _ _ _ h => h) (yields_pure (by rfl) (fun w => ?_)) (by with_reducible assumption) ?_
      rotate_left
      · (go_simp <;> with_reducible rfl)
      try simp only [List.getElem_toArray, List.getElem_cons_succ, List.getElem_cons_zero, Act.put, List.setIfInBounds_toArray, List.set_cons_zero, List.set_cons_succ]
      refine wpAnyH_take (i := 0) rfl (by kernel_rfl) (by kernel_rfl) (by kernel_rfl) (fun _ _ _ h => h) (yields_row (by rfl) 52 (.tmp 4) rfl w.heap.size 0 rfl (#[.int .u64 ka, .int .u64 kb, .slice (some ⟨b, o, none⟩) L.length cl, .slice Av es.length cv, .int .i64 last]) _ HSP Tryz.underlying52 rfl (by kernel_rfl)) (by with_reducible assumption) ?_
      try simp only [List.getElem_toArray, List.getElem_cons_succ, List.getElem_cons_zero, Act.put, List.setIfInBounds_toArray, List.set_cons_zero, List.set_cons_succ]
      refine wpAnyH_take (i := 3) rfl (by kernel_rfl) (by kernel_rfl) (by kernel_rfl) (fun _ _ _ h => h) (yields_cell (by rfl) 49 (.tmp 35) rfl w.heap.size 2 rfl (.slice (some ⟨b, o, none⟩) L.length cl) _ HSL Tryz.underlying49 rfl) (by with_reducible assumption) ?_
      try simp only [List.getElem_toArray, List.getElem_cons_succ, List.getElem_cons_zero, Act.put, List.setIfInBounds_toArray, List.set_cons_zero, List.set_cons_succ]
      refine wpAnyH_take (i := 5) rfl (by kernel_rfl) (by kernel_rfl) (by kernel_rfl) (fun _ _ _ h => h) (yields_row (by rfl) 61 (.tmp 11) rfl w1.heap.size 0 rfl (#[.int .i64 nd, .int .i64 wt, .bool dr, .bool dn]) _ HSB Tryz.underlying61 rfl (by kernel_rfl)) (by with_reducible assumption) ?_
      try simp only [List.getElem_toArray, List.getElem_cons_succ, List.getElem_cons_zero, Act.put, List.setIfInBounds_toArray, List.set_cons_zero, List.set_cons_succ]
      refine wpAnyH_ready (rs := [6]) (by kernel_rfl) (by simp) (AllReadyH.cons rfl (fun K hK => ?_) AllReadyH.nil)
      go_simp
      refine (with35_any (SlB.chg0 HL.out.1 HCK.out) (by omega) HX.out ⟨nd, wt, dr, dn⟩).mono ?_
      rintro e w2 ⟨v2, rfl, ho2, hc2⟩
      have hS2 := And.intro (hS0.1.chg hc2 (by simp)) (hS0.2.chg hc2 (by simp))
      have hS2' : (fun W : World => Blk W w.heap.size 52 #[.int .u64 ka, .int .u64 kb, .slice (some ⟨b, o, none⟩) L.length cl, .slice Av es.length cv, .int .i64 last] ∧ Blk W w1.heap.size 61 #[.int .i64 nd, .int .i64 wt, .bool dr, .bool dn]) w2 := hS2
      have HC2 := Lib.hid (HCK.out.trans hc2)
      have HNV : Hid (RB w2 ((w.heap.size + 1) :: S) v2 (L.set i ⟨nd, wt, dr, dn⟩)) := Lib.hid ⟨by have := Sl.less (B' := 0) ho2.sl (Nat.zero_le _); exact this, safe_new ho2 (Nat.le_refl _) HSW2.out⟩
      refine hK.out _ _ (by with_reducible assumption) (fun _ => ?_)
      clear hK K
      try simp only [List.getElem_toArray, List.getElem_cons_succ, List.getElem_cons_zero, Act.put, List.setIfInBounds_toArray, List.set_cons_zero, List.set_cons_succ]
      refine wpAnyH_ready (rs := [7]) (by kernel_rfl) (by simp) (AllReadyH.cons rfl (fun K hK => ?_) AllReadyH.nil)
      go_simp
      refine (apply35_any (fun x hx => Nat.lt_of_lt_of_le (HSW2.out x hx) hc2.size) (HL.out.chgS (HC2.out.more (by simp)) HSX.out) (HV.out.chgS (HC2.out.more (by simp)) HSX.out) HNV.out (HOK2.out (by first | rfl | trivial)) HOK.out hn hla).mono ?_
      rintro e w3 ⟨lv3, vv3, es3, rfl, h3a, h3b, hc3⟩
      have hS3' : (fun W : World => Blk W w.heap.size 52 #[.int .u64 ka, .int .u64 kb, .slice (some ⟨b, o, none⟩) L.length cl, .slice Av es.length cv, .int .i64 last] ∧ Blk W w1.heap.size 61 #[.int .i64 nd, .int .i64 wt, .bool dr, .bool dn]) w3 := ⟨hS2.1.chg hc3 (by simp), hS2.2.chg hc3 (by simp)⟩
      obtain ⟨A3, n3, c3, rfl⟩ : ∃ A n c, lv3 = .slice A n c := ⟨_, _, _, (Sl.form h3a.1).choose_spec.choose_spec⟩
      obtain ⟨A4, n4, c4, rfl⟩ : ∃ A n c, vv3 = .slice A n c := ⟨_, _, _, (Sl.form h3b.1).choose_spec.choose_spec⟩
      have hRz := (HR0.out.chg hc2 (by simp)).chg hc3 (by simp)
      refine hK.out _ _ (by with_reducible assumption) (fun _ => ?_)
      clear hK K
      try simp only [List.getElem_toArray, List.getElem_cons_succ, List.getElem_cons_zero, Act.put, List.setIfInBounds_toArray, List.set_cons_zero, List.set_cons_succ]
      refine wpAnyH_take (i := 8) (v := ?_) rfl (by kernel_rfl) (by kernel_rfl) (by kernel_rfl) (fun _ _ _ h => h) (yields_pure (by rfl) (fun w => ?_)) (by with_reducible assumption) ?_
      rotate_left
      · (go_simp <;> with_reducible rfl)
      try simp only [List.getElem_toArray, List.getElem_cons_succ, List.getElem_cons_zero, Act.put, List.setIfInBounds_toArray, List.set_cons_zero, List.set_cons_succ]
      refine wpAnyH_take (i := 9) (v := ?_) rfl (by kernel_rfl) (by kernel_rfl) (by kernel_rfl) (fun _ _ _ h => h) (yields_pure (by rfl) (fun w => ?_)) (by with_reducible assumption) ?_
      rotate_left
      · (go_simp <;> with_reducible rfl)
      try simp only [List.getElem_toArray, List.getElem_cons_succ, List.getElem_cons_zero, Act.put, List.setIfInBounds_toArray, List.set_cons_zero, List.set_cons_succ]
      refine wpAnyH_ready (rs := [10]) (by kernel_rfl) (by simp) (AllReadyH.cons rfl (fun K hK => ?_) AllReadyH.nil)
      refine step_store_blk rfl 52 (.tmp 8) (.tmp 41) rfl hRz rfl rfl rfl (by kernel_rfl) rfl ?_
      intro w4 hb4 hc4
      have hS4' : (fun W : World => Blk W w.heap.size 52 #[.int .u64 ka, .int .u64 kb, .slice (some ⟨b, o, none⟩) L.length cl, .slice Av es.length cv, .int .i64 last] ∧ Blk W w1.heap.size 61 #[.int .i64 nd, .int .i64 wt, .bool dr, .bool dn]) w4 := ⟨hS3'.1.chg hc4 (by simp), hS3'.2.chg hc4 (by simp; omega)⟩
      refine hK.out _ _ (by with_reducible assumption) (fun _ => ?_)
      clear hK K
      try simp only [List.getElem_toArray, List.getElem_cons_succ, List.getElem_cons_zero, Act.put, List.setIfInBounds_toArray, List.set_cons_zero, List.set_cons_succ]
      refine wpAnyH_take (i := 11) (v := ?_) rfl (by kernel_rfl) (by kernel_rfl) (by kernel_rfl) (fun _ _ _ h => h) (yields_pure (by rfl) (fun w => ?_)) (by with_reducible assumption) ?_
      rotate_left
      · (go_simp <;> with_reducible rfl)
      try simp only [List.getElem_toArray, List.getElem_cons_succ, List.getElem_cons_zero, Act.put, List.setIfInBounds_toArray, List.set_cons_zero, List.set_cons_succ]
      refine wpAnyH_done (by kernel_rfl) ?_ _
      refine NoPanic.normal ?_
      have HR4 := Lib.hid (And.intro h3a (And.intro h3b (And.intro hc3 hc4)))
      clear hS0 hS2 hS2' hS3' hS4' HSP HSB HSL h3a h3b hc3 hc2 ho2 hRz
      go_wp2_with fail
      refine bodyPost_ret (results_blk2 rfl rfl hb4 _ Tryz.underlying52 rfl (by kernel_rfl)) rfl ?_
      obtain ⟨h3a, h3b, hc3, hc4⟩ := HR4.out
      have hC4 := (HC2.out.trans hc3).trans' hc4 (fun x hx => .inr (by simp at hx; subst hx; omega))
      rw [HO.out, chP_set]
      exact ⟨_, _, es3, rfl, h3a.chgS (hc4.more (by simp)) (fun x hx => .inl (List.mem_cons_of_mem _ hx)), h3b.chgS (hc4.more (by simp)) (fun x hx => .inl (List.mem_cons_of_mem _ hx)), hC4⟩
  · have HO := Lib.hid (oneL_no (F := weighF wt) hm)
    have hfi : findI L n = -1 := by unfold findI; rw [if_neg hm]
    rw [hfi] at FF
    clear hL hm hfi
    go_enter Tryz.func36, Tryz.ntmps36
    go_wp2_with fail
    refine FF.out.mono ?_
    rintro e w1 ⟨rfl, hc1⟩
    obtain ⟨hA, hb0, hb1⟩ := HI.out
    generalize ((w.alloc (.cells #[.int .u64 ka, .int .u64 kb, .slice Al L.length cl, .slice Av es.length cv, .int .i64 last] 52)).alloc (.cells #[.int .u64 0, .int .u64 0, .slice none 0 0, .slice none 0 0, .int .i64 0] 52)) = w0 at *
    have HC1 := Lib.hid (hA.trans hc1)
    have hRP := range_pool (hb0.chg hc1 (by simp))
    have hR0 := hb1.chg hc1 (by simp)
    clear hA hb0 hb1 hc1 FF HI
    go_wp2_with (first
      | (refine wpList_row 52 (.tmp 4) rfl rfl w.heap.size 0 rfl #[.int .u64 ka, .int .u64 kb, .slice Al L.length cl, .slice Av es.length cv, .int .i64 last] _ hRP Tryz.underlying52 rfl (by kernel_rfl) ?_)
      | (refine wpList_store_blk rfl 52 _ _ rfl rfl hR0 rfl rfl rfl (by kernel_rfl) rfl ?_; intro w9 hB9 hc9)
      | fail)
    refine bodyPost_ret (results_blk2 rfl rfl hB9 _ Tryz.underlying52 rfl (by kernel_rfl)) rfl ?_
    have hC9 := HC1.out.trans' hc9 (fun x hx => .inr (by simp at hx; subst hx; omega))
    rw [HO.out, chP_err (by simp)]
    exact ⟨_, _, es, rfl, HL.out.chg0 hC9, HV.out.chg0 hC9, hC9⟩

end Go.Proofs.YtecblclpchndiaaGreat
namespace Go.Proofs.YtecblclpchndiaaGreat
open Go.RowKit

theorem flatB_cut (L : List Bk) (i j : Nat) : (L.flatMap encB).take (i * 4) ++ (L.flatMap encB).drop (j * 4) = (L.take i ++ L.drop j).flatMap encB := by
  rw [flat_take encB_len, flat_drop encB_len, List.flatMap_append]
theorem one_sub {l : List Bk} {i : Nat} : (∀ u ∈ (l.flatMap encB).take (i * 4), u.oneCell' = true) ∧ (∀ u ∈ (l.flatMap encB).drop (i * 4), u.oneCell' = true) :=
  ⟨fun u hu => flatB_one l u (List.mem_of_mem_take hu), fun u hu => flatB_one l u (List.mem_of_mem_drop hu)⟩

set_option maxRecDepth 100000 in
set_option maxHeartbeats 4000000 in
theorem remove35_any {w : World} {S : List Nat} {ka kb now last : Int} {lv vv : Value} {L : List Bk} {es : List Ve} {V : List Vs} (hSw : ∀ x ∈ S, x < w.heap.size) (hlv : RB w S lv L) (hvv : RV2 w S vv es V) (hL : OkB L) (hok : OkV V) (hn : 0 ≤ now ∧ now ≤ 1000000) (hla : 0 ≤ last ∧ last < 1000000) (n : Int) :
    Calls Tryz.prog 38 #[.agg #[.int .u64 ka, .int .u64 kb, lv, vv, .int .i64 last], .int .i64 now, .int .i64 n] w fun e w' => RfR w w' S ka kb (chP ka kb now ⟨L, V, last⟩ (removeL n L)) e := by
  obtain ⟨Al, cl, el⟩ := Sl.form hlv.1
  obtain ⟨Av, cv, ev⟩ := Sl.form hvv.1
  subst el ev
  have hA := ((Chg.refl [] w).alloc (.cells #[.int .u64 ka, .int .u64 kb, .slice Al L.length cl, .slice Av es.length cv, .int .i64 last] 52)).alloc (.cells #[.int .u64 0, .int .u64 0, .slice none 0 0, .slice none 0 0, .int .i64 0] 52)
  have hb0 : Blk ((w.alloc (.cells #[.int .u64 ka, .int .u64 kb, .slice Al L.length cl, .slice Av es.length cv, .int .i64 last] 52)).alloc (.cells #[.int .u64 0, .int .u64 0, .slice none 0 0, .slice none 0 0, .int .i64 0] 52)) w.heap.size 52 #[.int .u64 ka, .int .u64 kb, .slice Al L.length cl, .slice Av es.length cv, .int .i64 last] := (Blk.new _ _ _).alloc _
  have hb1 : Blk ((w.alloc (.cells #[.int .u64 ka, .int .u64 kb, .slice Al L.length cl, .slice Av es.length cv, .int .i64 last] 52)).alloc (.cells #[.int .u64 0, .int .u64 0, .slice none 0 0, .slice none 0 0, .int .i64 0] 52)) (w.heap.size + 1) 52 #[.int .u64 0, .int .u64 0, .slice none 0 0, .slice none 0 0, .int .i64 0] := Blk.new' (by simp)
  have FF := Lib.hid (find35_any (SlB.chg0 hlv.1 hA) hL n)
  have HI := Lib.hid (And.intro hA (And.intro hb0 hb1))
  have HL := Lib.hid hlv
  have HV := Lib.hid hvv
  have HOK := Lib.hid hok
  have HSW := Lib.hid hSw
  have hlen := hL.len
  have hz : w.heap.size + 1 ≠ w.heap.size := by omega
  have HOK2 := Lib.hid (removeL_ok (n := n) hL)
  clear hA hb0 hb1 hlv hvv hok hSw
  by_cases hm : n ∈ nodesB L
  · obtain ⟨x, hx, hxn⟩ := cntB_at hL.srt hm
    have HO : Hid (removeL n L = (0, L.take (cntB L n) ++ L.drop (cntB L n + 1))) := Lib.hid (by unfold removeL; rw [if_pos hm])
    have hfi : findI L n = (cntB L n : Int) := by unfold findI; rw [if_pos hm]
    rw [hfi] at FF
    have hil := (List.getElem?_eq_some_iff.1 hx).1
    rw [HO.out] at HOK2
    clear hL hm hx hxn hfi
    generalize cntB L n = i at *
    have hni : ¬ ((i : Int) < 0) := by omega
    have hilI : (i : Int) < (L.length : Int) := by omega
    go_enter Tryz.func38, Tryz.ntmps38
    go_wp2_with fail
    refine FF.out.mono ?_
    rintro e w1 ⟨rfl, hc1⟩
    obtain ⟨hA, hb0, hb1⟩ := HI.out
    generalize ((w.alloc (.cells #[.int .u64 ka, .int .u64 kb, .slice Al L.length cl, .slice Av es.length cv, .int .i64 last] 52)).alloc (.cells #[.int .u64 0, .int .u64 0, .slice none 0 0, .slice none 0 0, .int .i64 0] 52)) = w0 at *
    have HC1 := Lib.hid (hA.trans hc1)
    have HB0 := Lib.hid (hb0.chg hc1 (by simp))
    have HB1 := Lib.hid (hb1.chg hc1 (by simp))
    have p2 := HB0.out.cell 2
    simp only [List.getElem?_toArray, List.getElem?_cons_succ, List.getElem?_cons_zero] at p2
    have hAe := (Chg.refl [] w1).alloc (.cells #[] 61)
    have p2a := hAe.cell p2 (by simp)
    have hown := own_lit (base := w1.heap.size) w1 61 4 0 #[] (Nat.le_refl _) (by simp [maxLen]) rfl
    have hsl1 : SlB w1 0 (.slice Al L.length cl) L := (HL.out.chg0 HC1.out).1
    obtain ⟨hcut1, hsl2⟩ := cut_to elB2 (Sl.chg0 hsl1 hAe) (Nat.le_of_lt hil)
    have hzz : w1.heap.size ≤ (w1.alloc (.cells #[] 61)).heap.size := by simp
    obtain ⟨X, hcut2, hsl3⟩ := cut_from elB2 hsl1 (lo := i + 1) (by omega)
    clear p2
    have hcut2' : ∀ W : World, (Instr.slice 49 (.slice Al L.length cl) (some (.int .i64 ((i : Int) + 1))) none none).run Tryz.prog W = .ok (.slice X (L.length - (i + 1)) (cl - (i + 1))) W := hcut2
    clear hcut2
    have HOW := Lib.hid (And.intro hown (And.intro hsl2 hsl3))
    have HAE := Lib.hid hAe
    have HONE := Lib.hid (one_sub (l := L) (i := i))
    have HONE2 := Lib.hid (one_sub (l := L) (i := i + 1))
    have hiw : IntKind.i64.wrap ((i : Int) + 1) = (i : Int) + 1 := by rw [IntKind.wrap_i64]; omega
    have h1s : w.heap.size + 2 ≤ w1.heap.size := by have := HB1.out.lt; omega
    clear hA hb0 hb1 hc1 FF HI hAe hown hsl1 hsl2 hsl3
    go_upto_region 5 with (first
      | (at_builtin; refine wpList_app elB2 rfl (.tmp 17) (.tmp 21) rfl w1.heap.size rfl HOW.out.1 rfl HOW.out.2.1 HONE.out.1 (by unfold maxLen; omega) (by omega) hzz ?_; intro v2 w2 hown2 hc2 hb2)
      | fail)
    have hC12 : Chg [] w1 w2 := HAE.out.trans' hc2 (fun x hx => .inr (by have := (own_lt HOW.out.1 x hx).1; omega))
    have ho2 : w2.ownsRow w1.heap.size 61 4 v2 i ((L.flatMap encB).take (i * 4)) := by simpa using hown2
    have HSW2 : Hid (∀ x ∈ (w.heap.size + 1) :: S, x < w1.heap.size) := Lib.hid fun x hx => by
      rcases List.mem_cons.1 hx with rfl | hx
      · omega
      · have := HSW.out x hx; omega
    have HSX : Hid (∀ x ∈ (w.heap.size + 1) :: S, x ∈ S ∨ w.heap.size ≤ x) := Lib.hid fun x hx => by
      rcases List.mem_cons.1 hx with rfl | hx
      · exact .inr (by omega)
      · exact .inl hx
    have HC2 := Lib.hid (HC1.out.trans hC12.drew)
    have hS0 : (fun W : World => Blk W w.heap.size 52 #[.int .u64 ka, .int .u64 kb, .slice Al L.length cl, .slice Av es.length cv, .int .i64 last]) w2.drew := (HB0.out.chg hC12 (by simp)).drew
    have HSP : ∀ W : World, (fun W : World => Blk W w.heap.size 52 #[.int .u64 ka, .int .u64 kb, .slice Al L.length cl, .slice Av es.length cv, .int .i64 last]) W → W.rangeAt w.heap.size 0 (#[.int .u64 ka, .int .u64 kb, .slice Al L.length cl, .slice Av es.length cv, .int .i64 last] : Array Value).toList := fun W h => h.rangeQ
    have HSL : ∀ W : World, (fun W : World => Blk W w.heap.size 52 #[.int .u64 ka, .int .u64 kb, .slice Al L.length cl, .slice Av es.length cv, .int .i64 last]) W → W.cell? ⟨w.heap.size, 2, none⟩ = some (.slice Al L.length cl) := fun W h => h.cell 2
    have HR0 := Lib.hid ((HB1.out.chg hC12 (by simp)).drew)
    have hownd : w2.drew.ownsRow w1.heap.size 61 4 v2 i ((L.flatMap encB).take (i * 4)) := own_chg ho2 ((Chg.refl [] w2).drew) (by simp)
    have hsl3d := HOW.out.2.2.chg0 (hC12.drew)
    have HLT := Lib.hid (own_lt hownd)
    have hzd : w1.heap.size ≤ w2.drew.heap.size := hC12.size
    have hpw : w.heap.size < w1.heap.size := by omega
    clear hc2 hown2 hC12 ho2 HOW p2a HB0 HB1 HAE
    refine wp_region_noPanic ?_
    refine wp_region_held_drew (S := fun W : World => Blk W w.heap.size 52 #[.int .u64 ka, .int .u64 kb, .slice Al L.length cl, .slice Av es.length cv, .int .i64 last]) (by kernel_rfl) hS0 (fun _ => ?_)
    generalize w2.drew = w3 at *
    refine wpAnyH_take (i := 1) (v := ?_) rfl (by kernel_rfl) (by kernel_rfl) (by kernel_rfl) (fun _ _ _ h => h) (yields_pure (by rfl) (fun w => ?_)) (by with_reducible assumption) ?_
    rotate_left
    · (go_simp <;> with_reducible rfl)
    try simp only [List.getElem_toArray, List.getElem_cons_succ, List.getElem_cons_zero, Act.put, List.setIfInBounds_toArray, List.set_cons_zero, List.set_cons_succ]
    refine wpAnyH_take (i := 2) (v := ?_) rfl (by kernel_rfl) (by kernel_rfl) (by kernel_rfl) (fun _ _ _ h => h) (yields_pure (by rfl) (fun w => ?_)) (by with_reducible assumption) ?_
    rotate_left
    · (go_simp <;> with_reducible rfl)
    try simp only [List.getElem_toArray, List.getElem_cons_succ, List.getElem_cons_zero, Act.put, List.setIfInBounds_toArray, List.set_cons_zero, List.set_cons_succ]
    refine wpAnyH_take (i := 3) (v := ?_) rfl (by kernel_rfl) (by kernel_rfl) (by kernel_rfl) (fun _ _ _ h => h) (yields_pure (by rfl) (fun w => ?_)) (by with_reducible assumption) ?_
    rotate_left
    · (go_simp <;> with_reducible rfl)
    try simp only [List.getElem_toArray, List.getElem_cons_succ, List.getElem_cons_zero, Act.put, List.setIfInBounds_toArray, List.set_cons_zero, List.set_cons_succ]
    refine wpAnyH_take (i := 5) (v := ?_) rfl (by kernel_rfl) (by kernel_rfl) (by kernel_rfl) (fun _ _ _ h => h) (yields_pure (by rfl) (fun w => ?_)) (by with_reducible assumption) ?_
    rotate_left
    · (go_simp <;> with_reducible rfl)
    try simp only [List.getElem_toArray, List.getElem_cons_succ, List.getElem_cons_zero, Act.put, List.setIfInBounds_toArray, List.set_cons_zero, List.set_cons_succ]
    refine wpAnyH_take (i := 0) rfl (by kernel_rfl) (by kernel_rfl) (by kernel_rfl) (fun _ _ _ h => h) (yields_row (by rfl) 52 (.tmp 3) rfl w.heap.size 0 rfl (#[.int .u64 ka, .int .u64 kb, .slice Al L.length cl, .slice Av es.length cv, .int .i64 last]) _ HSP Tryz.underlying52 rfl (by kernel_rfl)) (by with_reducible assumption) ?_
    try simp only [List.getElem_toArray, List.getElem_cons_succ, List.getElem_cons_zero, Act.put, List.setIfInBounds_toArray, List.set_cons_zero, List.set_cons_succ]
    refine wpAnyH_take (i := 4) rfl (by kernel_rfl) (by kernel_rfl) (by kernel_rfl) (fun _ _ _ h => h) (yields_cell (by rfl) 49 (.tmp 26) rfl w.heap.size 2 rfl (.slice Al L.length cl) _ HSL Tryz.underlying49 rfl) (by with_reducible assumption) ?_
    try simp only [List.getElem_toArray, List.getElem_cons_succ, List.getElem_cons_zero, Act.put, List.setIfInBounds_toArray, List.set_cons_zero, List.set_cons_succ]
    refine wpAnyH_take (i := 6) (v := ?_) rfl (by kernel_rfl) (by kernel_rfl) (by kernel_rfl) (fun _ _ _ h => h) (yields_pure (by rfl) (fun w => ?_)) (by with_reducible assumption) ?_
    rotate_left
    · (go_simp <;> with_reducible rfl)
    try simp only [List.getElem_toArray, List.getElem_cons_succ, List.getElem_cons_zero, Act.put, List.setIfInBounds_toArray, List.set_cons_zero, List.set_cons_succ]
    refine wpAnyH_take (i := 7) (v := ?_) rfl (by kernel_rfl) (by kernel_rfl) (by kernel_rfl) (fun _ _ _ h => h) (yields_pure (by rfl) (fun w => ?_)) (by with_reducible assumption) ?_
    rotate_left
    · (go_simp <;> with_reducible rfl)
    try simp only [List.getElem_toArray, List.getElem_cons_succ, List.getElem_cons_zero, Act.put, List.setIfInBounds_toArray, List.set_cons_zero, List.set_cons_succ]
    refine wpAnyH_ready (rs := [8]) (by kernel_rfl) (by simp) (AllReadyH.cons rfl (fun K hK => ?_) AllReadyH.nil)
    refine step_app elB2 rfl (.tmp 25) (.tmp 30) rfl w1.heap.size rfl hownd rfl hsl3d HONE2.out.2 (by unfold maxLen; omega) (by omega) hzd ?_
    intro v5 w5 hown5 hc5 hb5
    have hS5 : (fun W : World => Blk W w.heap.size 52 #[.int .u64 ka, .int .u64 kb, .slice Al L.length cl, .slice Av es.length cv, .int .i64 last]) w5 := hS0.chg hc5 (fun hm => by have := (HLT.out _ hm).1; omega)
    have hl5 : (L.take i ++ L.drop (i + 1)).length = i + (L.length - (i + 1)) := by rw [List.length_append, List.length_take, List.length_drop]; omega
    have HNV : Hid (RB w5 ((w.heap.size + 1) :: S) v5 (L.take i ++ L.drop (i + 1))) := Lib.hid (by
      refine ⟨?_, safe_new hown5 (Nat.le_refl _) HSW2.out⟩
      have := Sl.less (B' := 0) (Sl.of_own hown5) (Nat.zero_le _)
      rw [flatB_cut] at this
      unfold SlB
      rw [hl5]
      exact this)
    have HC5 := Lib.hid (HC2.out.trans' hc5 (fun x hx => .inr (by have := (HLT.out _ hx).1; omega)))
    have hR5 := HR0.out.chg hc5 (fun hm => by have := (HLT.out _ hm).1; omega)
    obtain ⟨A5, n5, c5, rfl⟩ : ∃ A n c, v5 = .slice A n c := ⟨_, _, _, (Sl.form HNV.out.1).choose_spec.choose_spec⟩
    refine hK.out _ _ (by with_reducible assumption) (fun _ => ?_)
    clear hK K
    try simp only [List.getElem_toArray, List.getElem_cons_succ, List.getElem_cons_zero, Act.put, List.setIfInBounds_toArray, List.set_cons_zero, List.set_cons_succ]
    refine wpAnyH_ready (rs := [9]) (by kernel_rfl) (by simp) (AllReadyH.cons rfl (fun K hK => ?_) AllReadyH.nil)
    go_simp
    refine (apply35_any (fun x hx => by have h1 := HSW2.out x hx; have h2 := hc5.size; omega) (HL.out.chgS (HC5.out.more (by simp)) HSX.out) (HV.out.chgS (HC5.out.more (by simp)) HSX.out) HNV.out (HOK2.out (by first | rfl | trivial)) HOK.out hn hla).mono ?_
    rintro e w6 ⟨lv3, vv3, es3, rfl, h3a, h3b, hc6⟩
    have hS6 : (fun W : World => Blk W w.heap.size 52 #[.int .u64 ka, .int .u64 kb, .slice Al L.length cl, .slice Av es.length cv, .int .i64 last]) w6 := hS5.chg hc6 (by simp)
    obtain ⟨A3, n3, c3, rfl⟩ : ∃ A n c, lv3 = .slice A n c := ⟨_, _, _, (Sl.form h3a.1).choose_spec.choose_spec⟩
    obtain ⟨A4, n4, c4, rfl⟩ : ∃ A n c, vv3 = .slice A n c := ⟨_, _, _, (Sl.form h3b.1).choose_spec.choose_spec⟩
    have hRz := hR5.chg hc6 (by simp)
    refine hK.out _ _ (by with_reducible assumption) (fun _ => ?_)
    clear hK K
    try simp only [List.getElem_toArray, List.getElem_cons_succ, List.getElem_cons_zero, Act.put, List.setIfInBounds_toArray, List.set_cons_zero, List.set_cons_succ]
    refine wpAnyH_take (i := 10) (v := ?_) rfl (by kernel_rfl) (by kernel_rfl) (by kernel_rfl) (fun _ _ _ h => h) (yields_pure (by rfl) (fun w => ?_)) (by with_reducible assumption) ?_
    rotate_left
    · (go_simp <;> with_reducible rfl)
    try simp only [List.getElem_toArray, List.getElem_cons_succ, List.getElem_cons_zero, Act.put, List.setIfInBounds_toArray, List.set_cons_zero, List.set_cons_succ]
    refine wpAnyH_take (i := 11) (v := ?_) rfl (by kernel_rfl) (by kernel_rfl) (by kernel_rfl) (fun _ _ _ h => h) (yields_pure (by rfl) (fun w => ?_)) (by with_reducible assumption) ?_
    rotate_left
    · (go_simp <;> with_reducible rfl)
    try simp only [List.getElem_toArray, List.getElem_cons_succ, List.getElem_cons_zero, Act.put, List.setIfInBounds_toArray, List.set_cons_zero, List.set_cons_succ]
    refine wpAnyH_ready (rs := [12]) (by kernel_rfl) (by simp) (AllReadyH.cons rfl (fun K hK => ?_) AllReadyH.nil)
    refine step_store_blk rfl 52 (.tmp 6) (.tmp 33) rfl hRz rfl rfl rfl (by kernel_rfl) rfl ?_
    intro w7 hb7 hc7
    have hS7 : (fun W : World => Blk W w.heap.size 52 #[.int .u64 ka, .int .u64 kb, .slice Al L.length cl, .slice Av es.length cv, .int .i64 last]) w7 := hS6.chg hc7 (by simp)
    refine hK.out _ _ (by with_reducible assumption) (fun _ => ?_)
    clear hK K
    try simp only [List.getElem_toArray, List.getElem_cons_succ, List.getElem_cons_zero, Act.put, List.setIfInBounds_toArray, List.set_cons_zero, List.set_cons_succ]
    refine wpAnyH_take (i := 13) (v := ?_) rfl (by kernel_rfl) (by kernel_rfl) (by kernel_rfl) (fun _ _ _ h => h) (yields_pure (by rfl) (fun w => ?_)) (by with_reducible assumption) ?_
    rotate_left
    · (go_simp <;> with_reducible rfl)
    try simp only [List.getElem_toArray, List.getElem_cons_succ, List.getElem_cons_zero, Act.put, List.setIfInBounds_toArray, List.set_cons_zero, List.set_cons_succ]
    refine wpAnyH_done (by kernel_rfl) ?_ _
    refine NoPanic.normal ?_
    have HR7 := Lib.hid (And.intro h3a (And.intro h3b (And.intro hc6 hc7)))
    clear hS0 hS5 hS6 hS7 HSP HSL h3a h3b hc6 hc5 hown5 hRz hR5 hownd hsl3d hb5 hl5
    go_wp2_with fail
    refine bodyPost_ret (results_blk2 rfl rfl hb7 _ Tryz.underlying52 rfl (by kernel_rfl)) rfl ?_
    obtain ⟨h3a, h3b, hc6, hc7⟩ := HR7.out
    have hC7 := (HC5.out.trans hc6).trans' hc7 (fun x hx => .inr (by simp at hx; subst hx; omega))
    rw [HO.out, chP_set]
    exact ⟨_, _, es3, rfl, h3a.chgS (hc7.more (by simp)) (fun x hx => .inl (List.mem_cons_of_mem _ hx)), h3b.chgS (hc7.more (by simp)) (fun x hx => .inl (List.mem_cons_of_mem _ hx)), hC7⟩
  · have HO : Hid (removeL n L = (10, [])) := Lib.hid (by unfold removeL; rw [if_neg hm])
    have hfi : findI L n = -1 := by unfold findI; rw [if_neg hm]
    rw [hfi] at FF
    clear hL hm hfi
    go_enter Tryz.func38, Tryz.ntmps38
    go_wp2_with fail
    refine FF.out.mono ?_
    rintro e w1 ⟨rfl, hc1⟩
    obtain ⟨hA, hb0, hb1⟩ := HI.out
    generalize ((w.alloc (.cells #[.int .u64 ka, .int .u64 kb, .slice Al L.length cl, .slice Av es.length cv, .int .i64 last] 52)).alloc (.cells #[.int .u64 0, .int .u64 0, .slice none 0 0, .slice none 0 0, .int .i64 0] 52)) = w0 at *
    have HC1 := Lib.hid (hA.trans hc1)
    have hRP := range_pool (hb0.chg hc1 (by simp))
    have hR0 := hb1.chg hc1 (by simp)
    clear hA hb0 hb1 hc1 FF HI
    go_wp2_with (first
      | (refine wpList_row 52 (.tmp 3) rfl rfl w.heap.size 0 rfl #[.int .u64 ka, .int .u64 kb, .slice Al L.length cl, .slice Av es.length cv, .int .i64 last] _ hRP Tryz.underlying52 rfl (by kernel_rfl) ?_)
      | (refine wpList_store_blk rfl 52 _ _ rfl rfl hR0 rfl rfl rfl (by kernel_rfl) rfl ?_; intro w9 hB9 hc9)
      | fail)
    refine bodyPost_ret (results_blk2 rfl rfl hB9 _ Tryz.underlying52 rfl (by kernel_rfl)) rfl ?_
    have hC9 := HC1.out.trans' hc9 (fun x hx => .inr (by simp at hx; subst hx; omega))
    rw [HO.out, chP_err (by simp)]
    exact ⟨_, _, es, rfl, HL.out.chg0 hC9, HV.out.chg0 hC9, hC9⟩
end Go.Proofs.YtecblclpchndiaaGreat
