/-
  WALKS over package vips: one service more, one less. Condition: the table is one that New made, or none at all.
-/
import Derived.Test.YtojkbljpjpifoaaVTab
set_option linter.unusedVariables false
set_option linter.unusedSimpArgs false
namespace Go.Proofs.Ytojkbljpjpifoaa
open Go.RowKit Go.Maps Go.WideShapes

theorem Blk.range {w : World} {g : Nat} {t : TypeId} {cs : Array Value} (h : Blk w g t cs) : w.rangeAt g 0 cs.toList := fun j v hj => by
  rw [Nat.zero_add, h.cell]; simpa using hj
theorem MS_ins {l l' : List Sv} {T : Sv} (h : ∀ x, x ∈ l' ↔ x = T ∨ x ∈ l) : (fun x => if x = T then some 1 else MS l x) = MS l' := by
  funext x
  unfold MS
  by_cases e : x = T
  · rw [if_pos e, if_pos ((h x).2 (.inl e))]
  · rw [if_neg e]
    by_cases hm : x ∈ l
    · rw [if_pos hm, if_pos ((h x).2 (.inr hm))]
    · rw [if_neg hm, if_neg (fun h' => ((h x).1 h').elim e hm)]
theorem MS_del {l : List Sv} {T : Sv} : (fun x => if x = T then none else MS l x) = MS (delS T l) := by
  funext x
  unfold MS
  by_cases e : x = T
  · rw [if_pos e, if_neg (fun h => (mem_delS.1 h).2 e)]
  · rw [if_neg e]
    by_cases hm : x ∈ l
    · rw [if_pos hm, if_pos (mem_delS.2 ⟨hm, e⟩)]
    · rw [if_neg hm, if_neg (fun h' => hm (mem_delS.1 h').1)]

set_option maxRecDepth 100000 in
set_option maxHeartbeats 1000000 in
theorem vhas_no {w : World} {p : Value} (h : NoT w p) (A : Ad) (pt : Int) : Calls Try.prog 26 #[p, A.v, .int .i64 pt] w fun e w' => e = .returned (.bool false) ∧ Chg [] w w' := by
  have hA := (Chg.refl [] w).alloc (.cells (arrA A) 55)
  have F1 := Lib.hid (fun q => vis_no ((h.chg0 hA).chg0 ((Chg.refl [] _).drewN q)))
  clear h
  go_enter Try.func26, Try.ntmps26
  go_wp2_with fail
  go_quiet ((go_at_call 38; exact Calls.quiet_of_same ((F1.out _).mono fun _ _ ⟨a, b⟩ => ⟨a, b.symm⟩)))
  go_wp2_with fail
  go_ret
  exact ⟨rfl, hA.drewN _⟩
set_option maxRecDepth 100000 in
set_option maxHeartbeats 1000000 in
theorem vadd_no {w : World} {p : Value} (h : NoT w p) (A : Ad) (pt : Int) : Calls Try.prog 24 #[p, A.v, .int .i64 pt] w fun e w' => e = .returned (.int .i64 1) ∧ Chg [] w w' := by
  have hA := (Chg.refl [] w).alloc (.cells (arrA A) 55)
  have F1 := Lib.hid (vis_no (h.chg0 hA))
  clear h
  go_enter Try.func24, Try.ntmps24
  go_wp2_with fail
  refine F1.out.mono ?_
  rintro e w1 ⟨rfl, rfl⟩
  go_wp2_with fail
  go_ret
  exact ⟨rfl, hA⟩
set_option maxRecDepth 100000 in
set_option maxHeartbeats 1000000 in
theorem vdrop_no {w : World} {p : Value} (h : NoT w p) (A : Ad) (pt : Int) : Calls Try.prog 22 #[p, A.v, .int .i64 pt] w fun e w' => e = .returned (.bool false) ∧ Chg [] w w' := by
  have hA := (Chg.refl [] w).alloc (.cells (arrA A) 55)
  have F1 := Lib.hid (vhas_no (h.chg0 hA) A pt)
  clear h
  go_enter Try.func22, Try.ntmps22
  go_wp2_with fail
  refine F1.out.mono ?_
  rintro e w1 ⟨rfl, hc1⟩
  go_wp2_with fail
  go_ret
  exact ⟨rfl, hA.trans hc1⟩

set_option maxRecDepth 100000 in
set_option maxHeartbeats 1000000 in
theorem vdrop_any {w : World} {b m n : Nat} {l : List Sv} (h : Tb w b m n l) (hl : LI l) {A : Ad} {p : Int} (hT : okS ⟨A, p⟩) :
    Calls Try.prog 22 #[.pointer (some ⟨b, 0, none⟩), A.v, .int .i64 p] w fun e w' => e = .returned (.bool (dropS l ⟨A, p⟩).2) ∧ Tb w' b m n (dropS l ⟨A, p⟩).1 ∧ Chg [b, m] w w' := by
  have hA := (Chg.refl [] w).alloc (.cells (arrA A) 55)
  have F1 := Lib.hid (vhas_any (h.chg0 hA) hT)
  have HT := Lib.hid h
  have HL := Lib.hid hl
  by_cases hm : (⟨A, p⟩ : Sv) ∈ l
  · have e1 : Hid (dropS l ⟨A, p⟩ = (delS ⟨A, p⟩ l, true)) := Lib.hid (by simp [dropS, hm])
    have HM := Lib.hid hm
    simp only [hm, decide_true] at F1
    have hB0 : Blk (w.alloc (.cells (arrA A) 55)) w.heap.size 55 (arrA A) := Blk.new _ _ _
    have hkey := key_sv svTy1 hT
    have hz := h.lt
    clear h hl hm
    go_enter Try.func22, Try.ntmps22
    go_wp2_with fail
    refine F1.out.mono ?_
    rintro e w1 ⟨rfl, hc1⟩
    have hc2 := hA.trans hc1
    have hT1 := HT.out.chg0 hc2
    have hB1 := hB0.chg hc1 (by simp)
    obtain ⟨D, hD, hR, hZ⟩ := hT1.own
    have HR := Lib.hid (And.intro hR hZ)
    have HT1 := Lib.hid hT1
    have h1 : w1.cell? ⟨b, 0, none⟩ = some (.map (some m)) := hT1.blk.cell 0
    obtain ⟨c0, c1, c2, c3, c4, c5, c6, c7, c8, c9, c10, c11, c12, c13, c14, c15⟩ := cellsA hB1
    clear hR hZ hT1 hB1 hB0 hA hc1 F1
    go_wp2_with fail
    go_still_tail 7, (by kernel_rfl)
    change wpList _ _ _ _ _ w1.drew
    have hD5 := hD.drew
    have hc5 := hc2.drew
    have HT5 := Lib.hid (HT1.out.chg0 (Chg.refl [] w1).drew)
    have HT2 := Lib.hid (hD.tidy lawS)
    clear hD hc2 h1 HT1 c0 c1 c2 c3 c4 c5 c6 c7 c8 c9 c10 c11 c12 c13 c14 c15
    generalize w1.drew = w5 at *
    go_wp2_with (first | (at_delete; refine wpList_delete_own _ rfl _ _ 74 72 rfl 3 lawS Try.underlying74 _ m n D rfl hD5 _ _ rfl hkey ?_; intro w6 hown6 hturn6) | fail)
    go_ret
    rw [e1.out]
    have hc6 : Chg [m] w5 w6 := (Chg.refl _ _).grown hturn6.grown (fun k e => by cases e; exact .inl (by simp))
    refine ⟨rfl, ⟨HT5.out.blk.chg hc6 (by simpa using HT5.out.bm), ⟨_, hown6, ?_, ?_⟩, HT5.out.bm⟩, (hc5.more (by simp)).trans (hc6.more (by simp))⟩
    · have := HR.out.1.del (n := ⟨A, p⟩) hT
      rw [MS_del] at this
      exact this
    · have e2 := Maps.size_del (k := keyS ⟨A, p⟩) HT2.out
      have e3 : Maps.has D (keyS ⟨A, p⟩) = (MS l ⟨A, p⟩).isSome := HR.out.1.has (n := ⟨A, p⟩) hT
      have e4 : (MS l ⟨A, p⟩).isSome = true := by unfold MS; rw [if_pos HM.out]; rfl
      rw [e3, e4] at e2
      have e5 := len_delS HL.out.srt.nodup HM.out
      have e6 := HR.out.2
      simp at e2
      show _ = (delS ⟨A, p⟩ l).length
      omega
  · have e1 : Hid (dropS l ⟨A, p⟩ = (l, false)) := Lib.hid (by simp [dropS, hm])
    simp only [hm, decide_false] at F1
    clear h hl hm
    go_enter Try.func22, Try.ntmps22
    go_wp2_with fail
    refine F1.out.mono ?_
    rintro e w1 ⟨rfl, hc1⟩
    go_wp2_with fail
    go_ret
    rw [e1.out]
    exact ⟨rfl, HT.out.chg0 (hA.trans hc1), (hA.trans hc1).more (by simp)⟩

set_option maxRecDepth 100000 in
set_option maxHeartbeats 2000000 in
theorem vadd_any {w : World} {b m n : Nat} {l : List Sv} (h : Tb w b m n l) (hl : LI l) {A : Ad} {p : Int} (hT : okS ⟨A, p⟩) (hn : n < 10000) :
    Calls Try.prog 24 #[.pointer (some ⟨b, 0, none⟩), A.v, .int .i64 p] w fun e w' => e = .returned (.int .i64 (addS l ⟨A, p⟩).2) ∧ Tb w' b m (n + 1) (addS l ⟨A, p⟩).1 ∧ Chg [b, m] w w' := by
  have hA := (Chg.refl [] w).alloc (.cells (arrA A) 55)
  have F1 := Lib.hid (vis_any (h.chg0 hA))
  have F2 := Lib.hid (fun W => split_any hT.1 W)
  have HT := Lib.hid h
  have HL := Lib.hid hl
  have hB0 : Blk (w.alloc (.cells (arrA A) 55)) w.heap.size 55 (arrA A) := Blk.new _ _ _
  have HM : ∀ W : World, Tb W b m n l → Tb W b m (n + 1) l := fun W ⟨h1, ⟨D, h2, h3⟩, h4⟩ => ⟨h1, ⟨D, h2.mono (by omega), h3⟩, h4⟩
  have HMn := Lib.hid HM
  have hz : ∃ x y u : Int, splitV A = .tuple #[sidV x y u, .bool (ownA A)] := by
    unfold splitV
    cases ownA A
    · exact ⟨0, 0, 0, rfl⟩
    · exact ⟨_, _, _, rfl⟩
  obtain ⟨x, y, u, hz⟩ := hz
  rw [hz] at F2
  have HOw : Hid (∀ r : List Sv × Int, addS l ⟨A, p⟩ = if p < 1 ∨ 65535 < p then (l, 2) else if ownA A = true then (l, 5) else if (⟨A, p⟩ : Sv) ∈ l then (l, 9) else if 8 ≤ l.length then (l, 8) else (insS ⟨A, p⟩ l, 0)) := Lib.hid fun _ => rfl
  have hkey := key_sv svTy1 hT
  have hzl := h.lt
  clear HM hl hz h
  go_enter Try.func24, Try.ntmps24
  go_wp2_with fail
  refine F1.out.mono ?_
  rintro e w1 ⟨rfl, rfl⟩
  go_wp2_with fail
  refine (F2.out _).mono ?_
  rintro e w2 ⟨rfl, hc2⟩
  have hcw := hA.trans hc2
  have hB2 := hB0.chg hc2 (by simp)
  clear F1 F2 hB0 hc2
  generalize hown : ownA A = ow at *
  have hb3 := hB2.alloc (.cells #[.int .i64 x, .int .i64 y, .int .u32 u] 86)
  have hcw3 := hcw.alloc (.cells #[.int .i64 x, .int .i64 y, .int .u32 u] 86)
  by_cases hp : p < 1 ∨ 65535 < p
  · have e1 : Hid (addS l ⟨A, p⟩ = (l, 2)) := Lib.hid (by rw [HOw.out (l, 0), if_pos hp])
    rcases (show p < 1 ∨ (¬ p < 1 ∧ 65535 < p) by omega) with h1 | ⟨h1, h2⟩
    all_goals
      clear hp
      go_wp2_with fail
      go_ret
      rw [e1.out]
      exact ⟨rfl, HMn.out _ (HT.out.chg0 hcw3), hcw3.more (by simp)⟩
  · have hp1 : ¬ p < 1 := by omega
    have hp2 : ¬ 65535 < p := by omega
    cases ow with
    | true =>
      have e1 : Hid (addS l ⟨A, p⟩ = (l, 5)) := Lib.hid (by rw [HOw.out (l, 0), if_neg hp]; simp)
      clear hp
      go_wp2_with fail
      go_ret
      rw [e1.out]
      exact ⟨rfl, HMn.out _ (HT.out.chg0 hcw3), hcw3.more (by simp)⟩
    | false =>
      have F3 := Lib.hid (vhas_any (HT.out.chg0 hcw3) hT)
      by_cases hm : (⟨A, p⟩ : Sv) ∈ l
      · have e1 : Hid (addS l ⟨A, p⟩ = (l, 9)) := Lib.hid (by rw [HOw.out (l, 0), if_neg hp, if_neg (by simp), if_pos hm])
        simp only [hm, decide_true] at F3
        clear hp hm
        go_wp2_with (first
          | (refine wpList_load_blk rfl 55 _ rfl hb3 rfl _ Try.underlying55 rfl infA ?_)
          | fail)
        refine F3.out.mono ?_
        rintro e w4 ⟨rfl, hc4⟩
        have hcw4 := hcw3.trans hc4
        go_wp2_with fail
        go_ret
        rw [e1.out]
        exact ⟨rfl, HMn.out _ (HT.out.chg0 hcw4), hcw4.more (by simp)⟩
      · simp only [hm, decide_false] at F3
        have HLn := Lib.hid (fun W (h : Tb W b m n l) => h.own)
        by_cases hl8 : 8 ≤ l.length
        · have e1 : Hid (addS l ⟨A, p⟩ = (l, 8)) := Lib.hid (by rw [HOw.out (l, 0), if_neg hp, if_neg (by simp), if_neg hm, if_pos hl8])
          clear hp hm
          go_wp2_with (first
            | (refine wpList_load_blk rfl 55 _ rfl hb3 rfl _ Try.underlying55 rfl infA ?_)
            | fail)
          refine F3.out.mono ?_
          rintro e w4 ⟨rfl, hc4⟩
          have hcw4 := hcw3.trans hc4
          have hT4 := HT.out.chg0 hcw4
          have h1 : w4.cell? ⟨b, 0, none⟩ = some (.map (some m)) := hT4.blk.cell 0
          obtain ⟨D, hD, hR, hZ⟩ := hT4.own
          have hZ8 : 8 ≤ Maps.size D := by omega
          clear hR hZ hT4 hl8 hcw hcw3 hA hc4
          go_wp2_with (first | (at_len; refine wpList_len_own _ rfl _ 74 rfl 72 3 Try.underlying74 _ m n D rfl hD ?_) | fail)
          go_ret
          rw [e1.out]
          exact ⟨rfl, HMn.out _ (HT.out.chg0 hcw4), hcw4.more (by simp)⟩
        · have e1 : Hid (addS l ⟨A, p⟩ = (insS ⟨A, p⟩ l, 0)) := Lib.hid (by rw [HOw.out (l, 0), if_neg hp, if_neg (by simp), if_neg hm, if_neg hl8])
          have HMm := Lib.hid hm
          clear hp hm
          go_wp2_with (first
            | (refine wpList_load_blk rfl 55 _ rfl hb3 rfl _ Try.underlying55 rfl infA ?_)
            | fail)
          refine F3.out.mono ?_
          rintro e w4 ⟨rfl, hc4⟩
          have hcw4 := hcw3.trans hc4
          have hT4 := HT.out.chg0 hcw4
          have h1 : w4.cell? ⟨b, 0, none⟩ = some (.map (some m)) := hT4.blk.cell 0
          obtain ⟨D, hD, hR, hZ⟩ := hT4.own
          have hZ8 : ¬ 8 ≤ Maps.size D := by omega
          have hb4 := hb3.chg hc4 (by simp)
          have hlk := hT4.chg0 (Chg.refl [] w4).drew |>.look hT
          rw [if_neg HMm.out] at hlk
          obtain ⟨v0, st, w5, w6, D5, hE, hS, hD6, hg6, hD5, hg5, hDD⟩ := ownsMap_bump hD.drew lawSv lawS Try.underlying74 (by unfold maxLen; omega) zeroZ hkey (plainElem_int Try.underlying3 (wf01 1 (.inr rfl))) (plainElem_int Try.underlying3 (wf01 0 (.inl rfl)))
          have hlk5 : (Instr.lookup 74 (.map (some m)) (.agg (arrS ⟨A, p⟩)) false).run Try.prog w5 = .ok (.int .i64 0) w5 := by
            obtain ⟨c, hrun, hat, _⟩ := hD5.lookup_int lawS Try.underlying74 Try.underlying3 (zeroZ w5) hkey
            have e0 : D.atKey (keyS ⟨A, p⟩) (dI 0) = dI 0 := by
              have := hR.at_ (n := ⟨A, p⟩) hT 0
              have e9 : (MS l ⟨A, p⟩).getD 0 = 0 := by unfold MS; rw [if_neg HMm.out]; rfl
              rw [e9] at this; exact this
            have e1 : D5.atKey (keyS ⟨A, p⟩) (dI 0) = dI 0 := by
              rcases hDD with rfl | rfl
              · exact e0
              · exact Maps.atKey_put_same hR.1 (KS.key ⟨A, p⟩ hT) _ _
            have e2 : dI c = dI 0 := (hat.symm.trans e1 : _)
            have e3 : c = 0 := by simpa [dI] using e2
            rw [e3] at hrun
            exact hrun
          have hc5 : Chg [m] w4.drew w5 := (Chg.refl _ _).grown hg5 (fun k e => by cases e; exact .inl (by simp))
          have hc6 : Chg [m] w4.drew w6 := (Chg.refl _ _).grown hg6 (fun k e => by cases e; exact .inl (by simp))
          have hbm' : w.heap.size ≠ m := by omega
          have hB5 := hT4.blk.drew.chg hc5 (by simpa using hT4.bm)
          have hB6 := hT4.blk.drew.chg hc6 (by simpa using hT4.bm)
          have hS4 : w4.drew.cell? ⟨b, 0, none⟩ = some (.map (some m)) ∧ w4.drew.rangeAt w.heap.size 0 ([.int .u8 A.a0, .int .u8 A.a1, .int .u8 A.a2, .int .u8 A.a3, .int .u8 A.a4, .int .u8 A.a5, .int .u8 A.a6, .int .u8 A.a7, .int .u8 A.a8, .int .u8 A.a9, .int .u8 A.a10, .int .u8 A.a11, .int .u8 A.a12, .int .u8 A.a13, .int .u8 A.a14, .int .u8 A.a15] : List Value) := ⟨hT4.blk.drew.cell 0, hb4.drew.range⟩
          have hS5 : w5.cell? ⟨b, 0, none⟩ = some (.map (some m)) ∧ w5.rangeAt w.heap.size 0 ([.int .u8 A.a0, .int .u8 A.a1, .int .u8 A.a2, .int .u8 A.a3, .int .u8 A.a4, .int .u8 A.a5, .int .u8 A.a6, .int .u8 A.a7, .int .u8 A.a8, .int .u8 A.a9, .int .u8 A.a10, .int .u8 A.a11, .int .u8 A.a12, .int .u8 A.a13, .int .u8 A.a14, .int .u8 A.a15] : List Value) := ⟨hB5.cell 0, (hb4.drew.chg hc5 (by simpa using hbm')).range⟩
          have hS6 : w6.cell? ⟨b, 0, none⟩ = some (.map (some m)) ∧ w6.rangeAt w.heap.size 0 ([.int .u8 A.a0, .int .u8 A.a1, .int .u8 A.a2, .int .u8 A.a3, .int .u8 A.a4, .int .u8 A.a5, .int .u8 A.a6, .int .u8 A.a7, .int .u8 A.a8, .int .u8 A.a9, .int .u8 A.a10, .int .u8 A.a11, .int .u8 A.a12, .int .u8 A.a13, .int .u8 A.a14, .int .u8 A.a15] : List Value) := ⟨hB6.cell 0, (hb4.drew.chg hc6 (by simpa using hbm')).range⟩
          have hub := Try.underlying55
          have hin : (Try.prog.info? 55).map (·.size) = some (List.length ([.int .u8 A.a0, .int .u8 A.a1, .int .u8 A.a2, .int .u8 A.a3, .int .u8 A.a4, .int .u8 A.a5, .int .u8 A.a6, .int .u8 A.a7, .int .u8 A.a8, .int .u8 A.a9, .int .u8 A.a10, .int .u8 A.a11, .int .u8 A.a12, .int .u8 A.a13, .int .u8 A.a14, .int .u8 A.a15] : List Value)) := infA (A := A)
          have HR := Lib.hid (And.intro hR (And.intro hZ (hD.tidy lawS)))
          have HT4 := Lib.hid hT4
          have HG := Lib.hid (And.intro hD6 hg6)
          have HCW := Lib.hid hcw4
          obtain ⟨c0, c1, c2, c3, c4, c5, c6, c7, c8, c9, c10, c11, c12, c13, c14, c15⟩ := cellsA hb4
          clear hR hZ hT4 hl8 hcw hcw3 hA hc4 hb4 hb3 hB2 hD6 hg6 hcw4
          go_wp2_with (first | (at_len; refine wpList_len_own _ rfl _ 74 rfl 72 3 Try.underlying74 _ m n D rfl hD ?_) | fail)
          have hw1 : IntKind.i64.wrap 1 = 1 := by decide
          go_region_held3 (fun w' => w'.cell? ⟨b, 0, none⟩ = some (.map (some m)) ∧ w'.rangeAt w.heap.size 0 [.int .u8 A.a0, .int .u8 A.a1, .int .u8 A.a2, .int .u8 A.a3, .int .u8 A.a4, .int .u8 A.a5, .int .u8 A.a6, .int .u8 A.a7, .int .u8 A.a8, .int .u8 A.a9, .int .u8 A.a10, .int .u8 A.a11, .int .u8 A.a12, .int .u8 A.a13, .int .u8 A.a14, .int .u8 A.a15]) ((first | exact hS4 | exact hS5 | exact hS6)) (fail)
          all_goals
            go_wp2_with fail
            go_ret
            rw [e1.out]
            have hc6 : Chg [m] w4.drew w6 := (Chg.refl _ _).grown HG.out.2 (fun k e => by cases e; exact .inl (by simp))
            refine ⟨rfl, ⟨(HT4.out.chg0 (Chg.refl [] w4).drew).blk.chg hc6 (by simpa using HT4.out.bm), ⟨_, HG.out.1, ?_, ?_⟩, HT4.out.bm⟩, (HCW.out.drew.more (by simp)).trans (hc6.more (by simp))⟩
            · have := HR.out.1.put (n := ⟨A, p⟩) hT 1
              rw [MS_ins (l' := insS ⟨A, p⟩ l) (fun x => mem_insS)] at this
              exact this
            · have e2 := Maps.size_put (k := keyS ⟨A, p⟩) HR.out.2.2 (dI 1)
              have e3 : Maps.has D (keyS ⟨A, p⟩) = (MS l ⟨A, p⟩).isSome := HR.out.1.has (n := ⟨A, p⟩) hT
              have e4 : (MS l ⟨A, p⟩).isSome = false := by unfold MS; rw [if_neg HMm.out]; rfl
              rw [e3, e4] at e2
              have e5 := len_insS ⟨A, p⟩ l
              have e6 := HR.out.2.1
              simp at e2
              show _ = (insS ⟨A, p⟩ l).length
              have e7 : Maps.size (D.put (keyS ⟨A, p⟩) (dI 1)) = Maps.size D + 1 := e2
              rw [e5, ← e6]
              exact e7
end Go.Proofs.Ytojkbljpjpifoaa
