/-
  WALKS over package conns: Put where there is no room; Put. Condition: a table that New made, at most 999 calls.
-/
import Derived.Test.YtgbdbeaflilmlaaConnU
set_option linter.unusedVariables false
set_option linter.unusedSimpArgs false
namespace Go.Proofs.Ytgbdbeaflilmlaa
open Go.RowKit Go.Maps

section
variable {w : World} {tb m1 m2 m3 q nn : Nat} {vs : Value} {sq : Int} {its : List It} {c : TC}
set_option maxRecDepth 100000 in
set_option maxHeartbeats 4000000 in
theorem cput_room (h : CtR w tb m1 m2 m3 q nn vs sq its c) {e : En} (he : okF e.fl) (hk : e.kind = 1 ∨ e.kind = 2) (hn : hasC c e.fl = false) (hr : c.n ≤ (c.l.length : Int)) :
    Calls Try.prog 36 #[.pointer (some ⟨tb, 0, none⟩), .agg (arrN e)] w fun x w' => x = .returned (.bool false) ∧ Chg [] w w' := by
  have hcA := (Chg.refl [] w).alloc (.cells (arrN e) 96)
  have hBf : Blk (w.alloc (.cells (arrN e) 96)) w.heap.size 96 (arrN e) := Blk.new _ _ _
  have hcr := h.chg0 hcA
  have FF := Lib.hid (cis_any hcr)
  have F0 := Lib.hid (fun W' (hc : Chg [] (w.alloc (.cells (arrN e) 96)) W') => cfind_any (hcr.chg0 hc) he)
  have HI := Lib.hid (And.intro hcA (And.intro hBf (And.intro hn hr)))
  have HT := Lib.hid hcr
  have ck : (w.alloc (.cells (arrN e) 96)).cell? ⟨w.heap.size, 34, none⟩ = some (.int .i64 e.kind) := hBf.cell 34
  have hsz : (w.alloc (.cells (arrN e) 96)).heap.size = w.heap.size + 1 := by simp
  clear hcA h hcr hr
  go_enter Try.func36, Try.ntmps36
  go_upto_region 1 with fail
  generalize w.alloc (.cells (arrN e) 96) = w1 at *
  have hBr := rgN_fl hBf.rangeQ
  generalize hgf : w.heap.size = gf at *
  have HK := Lib.hid hk
  clear hBf hk
  go_cut [19] (fun v wx => v = .bool false ∧ w1 = wx)
  case first =>
    have hk := HK.out
    have b12 : (e.kind != 1 && e.kind != 2) = false := by rcases hk with hk | hk <;> simp [hk]
    clear hBr
    go_wp2_with fail
    refine FF.out.mono ?_
    rintro e1 w2 ⟨rfl, rfl⟩
    go_wp2_with fail
    · go_meet
      exact ⟨rfl, rfl⟩
    · go_meet
      exact ⟨rfl, rfl⟩
  case rest =>
  obtain ⟨rfl, rfl⟩ := hcut
  clear FF ck
  go_wp2_with (first
    | (refine wpList_row 73 (.tmp 22) rfl rfl gf 0 rfl (arrF e.fl) _ hBr Try.underlying73 rfl infF ?_)
    | fail)
  refine (F0.out w1 (Chg.refl _ _)).mono ?_
  rintro e1 w2 ⟨rfl, hc2⟩
  clear F0
  generalize ((getC c e.fl).map (·.1)).getD eN0 = x at *
  rw [hn]
  have HR := Lib.hid HI.out.2.2.2
  clear hn
  have hBl : Blk (w2.alloc (.cells arrN0 96)) w2.heap.size 96 arrN0 := Blk.new _ _ _
  have HC2 := Lib.hid (hc2.trans ((Chg.refl [] w2).alloc (.cells arrN0 96)))
  have HZ2 := Lib.hid hc2.size
  clear hc2
  go_wp2_with (first
    | (refine wpList_store_blk rfl 96 _ _ rfl rfl hBl rfl rfl rfl (infN (e := x)) rfl ?_; intro w3 hB3 hc3)
    | fail)
  have HC3 : Hid (Chg [] w1 w3) := Lib.hid (HC2.out.trans' hc3 (by intro y hy; simp at hy; subst hy; exact .inr HZ2.out))
  clear hBl HC2 hB3 hc3 hBr
  go_upto_region 4 with fail
  go_cut [40] (fun v wx => v = .bool true ∧ Hid (Chg [] w1 wx))
  case first =>
    have hr := HR.out
    have hr2 : decide (c.n ≤ (c.l.length : Int)) = true := decide_eq_true hr
    have HC30 : ∀ W, Chg [] w3 W → W.cell? ⟨tb, 3, none⟩ = some (.map (some m1)) := fun W hc => (HC3.out.trans hc).cell (HT.out.blk.cell 3) (by simp)
    have HC00 : ∀ W, Chg [] w3 W → W.cell? ⟨tb, 0, none⟩ = some (.int .i64 c.n) := fun W hc => (HC3.out.trans hc).cell (HT.out.blk.cell 0) (by simp)
    have hl := fun ty => (HT.out.oe.chg0 (HC3.out.drew)).len Try.underlying125 ty
    have hS0 : Chg [] w3 w3.drew := (Chg.refl [] w3).drew
    clear hr
    refine wp_region_noPanic ?_
    refine wp_region_held_drew (S := Chg [] w3) (by kernel_rfl) hS0 (fun _ => ?_)
    refine wpAnyH_take (i := 0) (v := ?_) rfl (by kernel_rfl) (by kernel_rfl) (by kernel_rfl) (fun _ _ _ h => h) (yields_pure (by rfl) (fun w => ?_)) (by with_reducible assumption) ?_
    rotate_left
    · (go_simp <;> with_reducible rfl)
    try simp only [List.getElem_toArray, List.getElem_cons_succ, List.getElem_cons_zero, Act.put, List.setIfInBounds_toArray, List.set_cons_zero, List.set_cons_succ]
    refine wpAnyH_take (i := 1) (v := ?_) rfl (by kernel_rfl) (by kernel_rfl) (by kernel_rfl) (fun _ _ _ h => h) (yields_pure (by rfl) (fun w => ?_)) (by with_reducible assumption) ?_
    rotate_left
    · (go_simp <;> with_reducible rfl)
    try simp only [List.getElem_toArray, List.getElem_cons_succ, List.getElem_cons_zero, Act.put, List.setIfInBounds_toArray, List.set_cons_zero, List.set_cons_succ]
    refine wpAnyH_take (i := 2) (v := ?_) rfl (by kernel_rfl) (by kernel_rfl) (by kernel_rfl) (fun _ _ _ h => h) (yields_pure (by rfl) (fun w => ?_)) (by with_reducible assumption) ?_
    rotate_left
    · (go_simp <;> with_reducible rfl)
    try simp only [List.getElem_toArray, List.getElem_cons_succ, List.getElem_cons_zero, Act.put, List.setIfInBounds_toArray, List.set_cons_zero, List.set_cons_succ]
    refine wpAnyH_take (i := 3) (v := ?_) rfl (by kernel_rfl) (by kernel_rfl) (by kernel_rfl) (fun _ _ _ h => h) (yields_pure (by rfl) (fun w => ?_)) (by with_reducible assumption) ?_
    rotate_left
    · (go_simp <;> with_reducible rfl)
    try simp only [List.getElem_toArray, List.getElem_cons_succ, List.getElem_cons_zero, Act.put, List.setIfInBounds_toArray, List.set_cons_zero, List.set_cons_succ]
    refine wpAnyH_take (i := 4) (v := ?_) rfl (by kernel_rfl) (by kernel_rfl) (by kernel_rfl) (fun _ _ _ h => h) (yields_pure (by rfl) (fun w => ?_)) (by with_reducible assumption) ?_
    rotate_left
    · (go_simp <;> with_reducible rfl)
    try simp only [List.getElem_toArray, List.getElem_cons_succ, List.getElem_cons_zero, Act.put, List.setIfInBounds_toArray, List.set_cons_zero, List.set_cons_succ]
    refine wpAnyH_take (i := 5) (v := ?_) rfl (by kernel_rfl) (by kernel_rfl) (by kernel_rfl) (fun _ _ _ h => h) (yields_pure (by rfl) (fun w => ?_)) (by with_reducible assumption) ?_
    rotate_left
    · (go_simp <;> with_reducible rfl)
    try simp only [List.getElem_toArray, List.getElem_cons_succ, List.getElem_cons_zero, Act.put, List.setIfInBounds_toArray, List.set_cons_zero, List.set_cons_succ]
    refine wpAnyH_take (i := 6) rfl (by kernel_rfl) (by kernel_rfl) (by kernel_rfl) (fun _ _ _ h => h) (yields_cell (by rfl) 125 (.tmp 32) rfl tb 3 rfl (.map (some m1)) _ HC30 Try.underlying125 rfl) (by with_reducible assumption) ?_
    try simp only [List.getElem_toArray, List.getElem_cons_succ, List.getElem_cons_zero, Act.put, List.setIfInBounds_toArray, List.set_cons_zero, List.set_cons_succ]
    refine wpAnyH_take (i := 8) (v := ?_) rfl (by kernel_rfl) (by kernel_rfl) (by kernel_rfl) (fun _ _ _ h => h) (yields_pure (by rfl) (fun w => ?_)) (by with_reducible assumption) ?_
    rotate_left
    · (go_simp <;> with_reducible rfl)
    try simp only [List.getElem_toArray, List.getElem_cons_succ, List.getElem_cons_zero, Act.put, List.setIfInBounds_toArray, List.set_cons_zero, List.set_cons_succ]
    refine wpAnyH_take (i := 9) (v := ?_) rfl (by kernel_rfl) (by kernel_rfl) (by kernel_rfl) (fun _ _ _ h => h) (yields_pure (by rfl) (fun w => ?_)) (by with_reducible assumption) ?_
    rotate_left
    · (go_simp <;> with_reducible rfl)
    try simp only [List.getElem_toArray, List.getElem_cons_succ, List.getElem_cons_zero, Act.put, List.setIfInBounds_toArray, List.set_cons_zero, List.set_cons_succ]
    refine wpAnyH_take (i := 10) (v := ?_) rfl (by kernel_rfl) (by kernel_rfl) (by kernel_rfl) (fun _ _ _ h => h) (yields_pure (by rfl) (fun w => ?_)) (by with_reducible assumption) ?_
    rotate_left
    · (go_simp <;> with_reducible rfl)
    try simp only [List.getElem_toArray, List.getElem_cons_succ, List.getElem_cons_zero, Act.put, List.setIfInBounds_toArray, List.set_cons_zero, List.set_cons_succ]
    refine wpAnyH_take (i := 11) rfl (by kernel_rfl) (by kernel_rfl) (by kernel_rfl) (fun _ _ _ h => h) (yields_cell (by rfl) 3 (.tmp 37) rfl tb 0 rfl (.int .i64 c.n) _ HC00 Try.underlying3 rfl) (by with_reducible assumption) ?_
    try simp only [List.getElem_toArray, List.getElem_cons_succ, List.getElem_cons_zero, Act.put, List.setIfInBounds_toArray, List.set_cons_zero, List.set_cons_succ]
    refine wpAnyH_ready (rs := [7]) (by kernel_rfl) (by simp) (AllReadyH.cons rfl (fun K hK => ?_) AllReadyH.nil)
    go_simp
    refine hK.out _ _ (by with_reducible assumption) (fun _ => ?_)
    clear hK K
    try simp only [List.getElem_toArray, List.getElem_cons_succ, List.getElem_cons_zero, Act.put, List.setIfInBounds_toArray, List.set_cons_zero, List.set_cons_succ]
    refine wpAnyH_take (i := 12) (v := ?_) rfl (by kernel_rfl) (by kernel_rfl) (by kernel_rfl) (fun _ _ _ h => h) (yields_pure (by rfl) (fun w => ?_)) (by with_reducible assumption) ?_
    rotate_left
    · (go_simp <;> with_reducible rfl)
    try simp only [List.getElem_toArray, List.getElem_cons_succ, List.getElem_cons_zero, Act.put, List.setIfInBounds_toArray, List.set_cons_zero, List.set_cons_succ]
    refine wpAnyH_take (i := 13) (v := ?_) rfl (by kernel_rfl) (by kernel_rfl) (by kernel_rfl) (fun _ _ _ h => h) (yields_pure (by rfl) (fun w => ?_)) (by with_reducible assumption) ?_
    rotate_left
    · (go_simp <;> with_reducible rfl)
    try simp only [List.getElem_toArray, List.getElem_cons_succ, List.getElem_cons_zero, Act.put, List.setIfInBounds_toArray, List.set_cons_zero, List.set_cons_succ]
    refine wpAnyH_done (by kernel_rfl) ?_ _
    refine NoPanic.normal ?_
    have HC4 := Lib.hid (HC3.out.drew)
    clear hS0 HC30 HC00 hl
    go_wp2_with fail
    go_meet
    exact ⟨rfl, HC4⟩
  case rest =>
  obtain ⟨rfl, HC4⟩ := hcut
  clear HR HC3 HZ2
  go_wp2_with fail
  go_ret
  exact ⟨rfl, HI.out.1.trans HC4.out⟩
end
theorem cput_any {W w : World} {tb K : Nat} {c : TC} {S : List Nat} (h : CtS W w tb K c S) (hK : K ≤ 999) {e : En} (he : okF e.fl) :
    Calls Try.prog 36 #[.pointer (some ⟨tb, 0, none⟩), .agg (arrN e)] w fun x w' => x = .returned (.bool (putC c e).2) ∧ CtTo W w tb (K + 1) (putC c e).1 S w' := by
  by_cases hk : e.kind = 1 ∨ e.kind = 2
  · by_cases hr : hasC c e.fl = false ∧ c.n ≤ (c.l.length : Int)
    · have hp : putC c e = (c, false) := by
        unfold putC
        rw [if_neg (by omega), if_pos hr]
      rw [hp]
      obtain ⟨⟨m1, m2, m3, q, nn, vs, sq, its, hcr, r⟩, _⟩ := id h
      refine (cput_room hcr he hk hr.1 hr.2).mono ?_
      rintro x w' ⟨rfl, hc⟩
      exact ⟨rfl, h.same (by omega) hc⟩
    · have hp : putC c e = (⟨c.n, c.now, c.last + 1, dropL c.l e.fl ++ [(e, c.last + 1)]⟩, true) := by
        unfold putC
        rw [if_neg (by omega), if_neg hr]
      rw [hp]
      refine cput_yes h hK he hk ?_
      cases hh : hasC c e.fl with
      | true => exact .inl rfl
      | false =>
        refine .inr ?_
        by_cases h2 : (c.l.length : Int) < c.n
        · exact h2
        · exact absurd ⟨hh, by omega⟩ hr
  · have hp : putC c e = (c, false) := by
      unfold putC
      rw [if_pos (by omega)]
    rw [hp]
    obtain ⟨⟨m1, m2, m3, q, nn, vs, sq, its, hcr, r⟩, _⟩ := id h
    refine (cput_kind hcr (by omega) (by omega)).mono ?_
    rintro x w' ⟨rfl, hc⟩
    exact ⟨rfl, h.same (by omega) hc⟩
end Go.Proofs.Ytgbdbeaflilmlaa
