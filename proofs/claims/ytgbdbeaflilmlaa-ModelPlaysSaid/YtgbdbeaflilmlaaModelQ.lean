/-
  WALK: ModelPlays. Condition: the events read as data.
-/
import Derived.Test.YtgbdbeaflilmlaaModelM
import Derived.Test.YtgbdbeaflilmlaaModelNil
import Derived.Test.YtgbdbeaflilmlaaOpen44
import Derived.Deep.CutBlock
set_option linter.unusedVariables false
set_option linter.unusedSimpArgs false
namespace Go.Proofs.Ytgbdbeaflilmlaa
open Go.RowKit Go.Maps

theorem arrE_list (e : Ev) : (arrE e).toList = encE e := rfl
theorem SlEv.one {w : World} {A : Option Addr} {n c : Nat} {l : List Ev} (h : SlEv w 0 (.slice A n c) l) (hn : l.length = n) {i : Nat} {x : Ev} (hx : l[i]? = some x) :
    ∃ b o, A = some ⟨b, o, none⟩ ∧ w.rangeAt b (o + i * 39) (arrE x).toList := by
  obtain ⟨b, o, c', hv, _, _, hc⟩ := Sl.rec encE_len (by omega) h hx
  simp only [Value.slice.injEq] at hv
  obtain ⟨rfl, _, _⟩ := hv
  refine ⟨b, o, rfl, fun j u hu => ?_⟩
  have hj : j < 39 := by have := (List.getElem?_eq_some_iff.1 hu).1; exact this
  rw [Nat.add_assoc, hc j hj]
  exact hu
theorem rg_ev {w : World} {b o : Nat} {e : Ev} (h : w.rangeAt b o (arrE e).toList) : w.rangeAt b (o + 2) (arrF e.flow).toList := fun j u hu => by
  have hj : j < 34 := (List.getElem?_eq_some_iff.1 hu).1
  rw [Nat.add_assoc]
  refine h (2 + j) u ?_
  rw [arrE_list, show 2 + j = (j + 1) + 1 by omega]
  unfold encE
  rw [List.getElem?_cons_succ, List.getElem?_cons_succ, List.getElem?_append_left (by rw [encF_len]; exact hj)]
  exact hu
theorem SlFo.one {w : World} {B n c : Nat} {A : Option Addr} {l : List Fl} (h : SlFo w B (.slice A n c) l) {i : Nat} {x : Fl} (hx : l[i]? = some x) :
    ∃ b o, A = some ⟨b, o, none⟩ ∧ w.rangeAt b (o + i * 34) (arrF x).toList := by
  obtain ⟨b, o, c', hv, _, _, hc⟩ := Sl.rec encF_len (by omega) h hx
  simp only [Value.slice.injEq] at hv
  obtain ⟨rfl, _, _⟩ := hv
  refine ⟨b, o, rfl, fun j u hu => ?_⟩
  have hj : j < 34 := by have := (List.getElem?_eq_some_iff.1 hu).1; exact this
  rw [Nat.add_assoc, hc j hj]
  exact hu
/-- The model beside the document's rows. -/
structure JM (W w : World) (mb m k : Nat) (v : Value) (R : List Rf) : Prop where
  mo : MoS W w mb m k (DR (livesR R))
  rf : SlR w (m + 1) v R
  li : LI k (livesR R)
  ch : Chg [] W w
  lt : m + 1 ≤ w.heap.size
theorem MoS.lt {W w : World} {mb m K : Nat} {D : Fl → Option Lf} (h : MoS W w mb m K D) : m + 1 ≤ w.heap.size ∧ W.heap.size ≤ m := by
  obtain ⟨nn, V, s, h1, h2, _⟩ := h
  have := h1.lt
  exact ⟨by omega, h2⟩
theorem JM.chg0 {W w w' : World} {mb m k : Nat} {v : Value} {R : List Rf} (h : JM W w mb m k v R) (hc : Chg [] w w') : JM W w' mb m k v R :=
  ⟨h.mo.chg0 hc, h.rf.chg0 hc, h.li, h.ch.trans hc, by have := hc.size; have := h.lt; omega⟩

set_option maxRecDepth 100000 in
set_option maxHeartbeats 4000000 in
theorem plays44 {w : World} {v : Value} {l : List Ev} (hs : SlEv w 0 v l) (hm : l.length ≤ maxLen) (hk : ∀ x ∈ l, okE x) :
    Calls Try.prog 6 #[v] w fun r w' => r = .returned (.bool true) ∧ Chg [] w w' := by
  obtain ⟨A, c, rfl⟩ := Sl.form hs
  have HE := Lib.hid (fun W (hc : Chg [] w W) i (x : Ev) (hx : l[i]? = some x) => SlEv.one (Sl.chg0 hs hc : SlEv W 0 _ l) rfl hx)
  have HX : Hid (∀ i, i < l.length → ∃ x, l[i]? = some x ∧ okE x) := Lib.hid fun i hi => ⟨_, List.getElem?_eq_getElem hi, hk _ (List.getElem_mem hi)⟩
  clear hs hk
  generalize hN : l.length = N at *
  have HNN : Hid (l.length = N) := Lib.hid hN
  clear hN
  go_enter Try.func6, Try.ntmps6
  go_wp2_with fail
  refine (mnew_any w).mono ?_
  rintro r w1 ⟨mb, m, rfl, hS, hc1⟩
  have HJ0 : Hid (JM w w1 mb m 0 (.slice none 0 0) []) := Lib.hid ⟨hS, ⟨Sl.nil _ _ _, by simp⟩, LI.nil, hc1, hS.lt.1⟩
  have hwm : w.heap.size ≤ m := hS.lt.2
  clear hS hc1
  go_upto_block 0 with fail
  go_cut [4] (fun wv wx => ∃ (k : Nat) (R : List Rf), k ≤ 100 ∧ Hid (JM w wx mb m k wv R))
  case first =>
    go_wp2_with fail
    go_loopw [4, 5] (fun wv iv wr => ∃ (k : Nat) (R : List Rf), k ≤ 100 ∧ k ≤ N ∧ iv = .int .i64 k ∧ Hid (JM w wr mb m k wv R)) (fun _ iv _ => N - (intOf iv).toNat)
    case atStart => exact ⟨0, [], by omega, by omega, rfl, HJ0⟩
    case round =>
      obtain ⟨k, R, hk100, hkN, rfl, HJ⟩ := hrel
      obtain ⟨A4, c4, hv4⟩ := Sl.form HJ.out.rf.1
      subst hv4
      clear HJ0
      by_cases hgo : k < N ∧ k < 100
      · obtain ⟨hlt, hlt100⟩ := hgo
        obtain ⟨x, hx, hxo⟩ := HX.out k hlt
        obtain ⟨b, o, rfl, hrg⟩ := HE.out _ HJ.out.ch k x hx
        have RE := Lib.hid (fun W (hc : Chg [] w W) => by
          obtain ⟨b', o', hA, hr⟩ := HE.out W hc k x hx
          simp only [Option.some.injEq, Addr.mk.injEq, and_true] at hA
          obtain ⟨rfl, rfl⟩ := hA
          exact (hr : W.rangeAt b (o + k * 39) (arrE x).toList))
        have F1 := Lib.hid (rstep_any HJ.out.rf HJ.out.li (by omega) HJ.out.lt hxo)
        have HXO := Lib.hid hxo
        have hb100 : ((k : Int) < 100) := by omega
        clear hrg hx hxo HE HX
        have re0 := RE.out _ HJ.out.ch
        go_wp2_with (first
          | (refine wpList_row 75 (.tmp 31) rfl rfl b _ rfl (arrE x) _ re0 Try.underlying75 rfl infE ?_)
          | fail)
        refine F1.out.mono ?_
        rintro r w2 ⟨v2, R2, rfl, hs2, hl2, hc2⟩
        obtain ⟨A2, c2, hv2⟩ := Sl.form hs2.1
        subst hv2
        have HR2 := Lib.hid (And.intro hs2 (And.intro hl2 hc2))
        have F2 := Lib.hid (mstep_any (HJ.out.mo.chg0 hc2) (by omega) HXO.out)
        have re2 := RE.out _ (HJ.out.ch.trans hc2)
        have hself : ∀ q : Bool, (q != q) = false := by simp
        have hI2 := HJ.out.li.step x
        have HI2 := Lib.hid hI2
        generalize (stepL (livesR R) x).2 = bb at *
        clear re0 F1 hs2 hl2 hc2 hI2
        go_wp2_with (first
          | (refine wpList_row 75 (.tmp 40) rfl rfl b _ rfl (arrE x) _ re2 Try.underlying75 rfl infE ?_)
          | fail)
        refine F2.out.mono ?_
        rintro r w3 ⟨rfl, hm3, hc3⟩
        have hJ3 : JM w w3 mb m (k + 1) (.slice A2 R2.length c2) R2 := by
          refine ⟨by rw [HR2.out.2.1]; exact hm3, HR2.out.1.chg hc3 (by intro y hy; simp at hy; omega), by rw [HR2.out.2.1]; exact HI2.out, (HJ.out.ch.trans HR2.out.2.2).trans' hc3 (by intro y hy; simp at hy; subst hy; exact .inr hwm), ?_⟩
          have := hc3.size
          have := HR2.out.2.2.size
          have := HJ.out.lt
          omega
        have HJ3 := Lib.hid hJ3
        have re3 := rg_ev (RE.out _ hJ3.ch)
        have F3 := Lib.hid (rfind_any hJ3.rf (by have := hJ3.li.len; unfold livesR at this; rw [List.length_map] at this; omega) HXO.out)
        clear re2 F2 hm3 hc3 hJ3 HR2 HI2
        go_wp2_with (first
          | (refine wpList_row 73 (.tmp 49) rfl rfl b _ rfl (arrF x.flow) _ re3 Try.underlying73 rfl infF ?_)
          | fail)
        refine F3.out.mono ?_
        rintro r w4 ⟨rfl, hc4⟩
        have HQ := Lib.hid (And.intro (find_lives R2 x.flow).2 (find_ok (HJ3.out.rf.chg0 hc4).2 HXO.out))
        have ho := Lib.hid HQ.out.2.oneA
        have hq34 := HQ.out.1
        generalize findR44 R2 x.flow = q at *
        have HQX : Hid ((DR (livesR R2) x.flow).getD zL = q.x) := Lib.hid hq34.symm
        have hcx := (Chg.refl [] w4).alloc (.cells arrZ78 78)
        have hBl : Blk (w4.alloc (.cells arrZ78 78)) w4.heap.size 78 arrZ78 := Blk.new _ _ _
        have HC4 := Lib.hid hc4
        clear re3 F3 hc4 hq34
        go_upto_region 13 with (first
          | (refine wpList_store_blk rfl 78 _ _ rfl rfl hBl rfl rfl rfl (infR (r := q)) ho.out ?_; intro w5 hB5 hc5)
          | fail)
        have hc35 : Chg [] w3 w5 := HC4.out.trans (hcx.trans' hc5 (by intro y hy; simp at hy; subst hy; exact .inr (Nat.le_refl _)))
        have HJ5 := Lib.hid (HJ3.out.chg0 hc35)
        have HQ5 := Lib.hid (HQ.out.2.chg (hcx.trans' hc5 (by intro y hy; simp at hy; subst hy; exact .inr (Nat.le_refl _))) (by simp))
        generalize w4.heap.size = gy at *
        have HB5 := Lib.hid hB5
        have re5 := rg_ev (RE.out _ HJ5.out.ch)
        have F4 := Lib.hid (mowner_any HJ5.out.mo HXO.out)
        clear hcx hBl hB5 hc5 hc35 HC4 HQ
        go_wp2_with (first
          | (refine wpList_row 73 (.tmp 57) rfl rfl b _ rfl (arrF x.flow) _ re5 Try.underlying73 rfl infF ?_)
          | fail)
        refine F4.out.mono ?_
        rintro r w6 ⟨rfl, hc6⟩
        have HJ6 := Lib.hid (HJ5.out.chg0 hc6)
        have HB6 := Lib.hid (HB5.out.chg hc6 (by simp))
        have HQ6 := Lib.hid (HQ5.out.chg hc6 (by simp))
        rw [HQX.out]
        clear re5 F4 hc6 HJ5 HB5 HQ5
        go_upto_region 14 with fail
        have hS0 : Chg [] w6 w6.drew := (Chg.refl [] w6).drew
        have RF : Hid (∀ W, Chg [] w6 W → W.rangeAt b (o + k * 39 + 2) (arrF x.flow).toList) := Lib.hid fun W hc => rg_ev (RE.out W (HJ6.out.ch.trans hc))
        obtain ⟨A7, k7, hv7⟩ := Sl.form HQ6.out.2.1
        have D0 : Hid (∀ W, Chg [] w6 W → W.cell? ⟨gy, 34, none⟩ = some (.int .i64 q.x.st)) := Lib.hid fun W hc => hc.cell (HB6.out.cell 34) (by simp)
        have D1 : Hid (∀ W, Chg [] w6 W → W.cell? ⟨gy, 35, none⟩ = some (.int .i64 q.x.ow)) := Lib.hid fun W hc => hc.cell (HB6.out.cell 35) (by simp)
        have D2 : Hid (∀ W, Chg [] w6 W → W.cell? ⟨gy, 36, none⟩ = some (.slice A7 q.x.ls.length k7)) := Lib.hid fun W hc => by rw [← hv7]; exact hc.cell (HB6.out.cell 36) (by simp)
        have hqs : SlZ w6 (m + 1) (.slice A7 q.x.ls.length k7) q.x.ls := by rw [← hv7]; exact HQ6.out.2.1
        have HQS := Lib.hid hqs
        have hql : q.x.ls.length ≤ 900 := by have := (HJ6.out.li.at_ x.flow).2; rw [HQX.out] at this; omega
        have F5 := Lib.hid (mstate_any (HJ6.out.mo.chg0 hS0) HXO.out)
        rw [HQX.out] at F5
        have n1 : (q.x.st != q.x.st) = false := by simp
        have n2 : (q.x.ow != q.x.ow) = false := by simp
        have n3 : ((q.x.st == 2) != (q.x.st == 2)) = false := by simp
        clear hqs hv7
        refine wp_region_noPanic ?_
        refine wp_region_held_drew (S := Chg [] w6) (by kernel_rfl) hS0 (fun _ => ?_)
        refine wpAnyH_take (i := 0) (v := ?_) rfl (by kernel_rfl) (by kernel_rfl) (by kernel_rfl) (fun _ _ _ h => h) (yields_pure (by rfl) (fun w => ?_)) (by with_reducible assumption) ?_
        rotate_left
        · (go_simp <;> with_reducible rfl)
        try simp only [List.getElem_toArray, List.getElem_cons_succ, List.getElem_cons_zero, Act.put, List.setIfInBounds_toArray, List.set_cons_zero, List.set_cons_succ]
        refine wpAnyH_take (i := 1) (v := ?_) rfl (by kernel_rfl) (by kernel_rfl) (by kernel_rfl) (fun _ _ _ h => h) (yields_pure (by rfl) (fun w => ?_)) (by with_reducible assumption) ?_
        rotate_left
        · (go_simp <;> with_reducible rfl)
        try simp only [List.getElem_toArray, List.getElem_cons_succ, List.getElem_cons_zero, Act.put, List.setIfInBounds_toArray, List.set_cons_zero, List.set_cons_succ]
        refine wpAnyH_take (i := 2) (v := ?_) rfl (by kernel_rfl) (by kernel_rfl) (by kernel_rfl) (fun _ _ _ h => h) (yields_pure (by rfl) (fun w => ?_)) (by with_reducible assumption) ?_
        rotate_left
        · (go_simp <;> with_reducible rfl)
        try simp only [List.getElem_toArray, List.getElem_cons_succ, List.getElem_cons_zero, Act.put, List.setIfInBounds_toArray, List.set_cons_zero, List.set_cons_succ]
        refine wpAnyH_take (i := 3) (v := ?_) rfl (by kernel_rfl) (by kernel_rfl) (by kernel_rfl) (fun _ _ _ h => h) (yields_pure (by rfl) (fun w => ?_)) (by with_reducible assumption) ?_
        rotate_left
        · (go_simp <;> with_reducible rfl)
        try simp only [List.getElem_toArray, List.getElem_cons_succ, List.getElem_cons_zero, Act.put, List.setIfInBounds_toArray, List.set_cons_zero, List.set_cons_succ]
        refine wpAnyH_take (i := 4) (v := ?_) rfl (by kernel_rfl) (by kernel_rfl) (by kernel_rfl) (fun _ _ _ h => h) (yields_pure (by rfl) (fun w => ?_)) (by with_reducible assumption) ?_
        rotate_left
        · (go_simp <;> with_reducible rfl)
        try simp only [List.getElem_toArray, List.getElem_cons_succ, List.getElem_cons_zero, Act.put, List.setIfInBounds_toArray, List.set_cons_zero, List.set_cons_succ]
        refine wpAnyH_take (i := 5) rfl (by kernel_rfl) (by kernel_rfl) (by kernel_rfl) (fun _ _ _ h => h) (yields_row (by rfl) 73 (.tmp 66) rfl b (o + k * 39 + 2) rfl (arrF x.flow) _ RF.out Try.underlying73 rfl infF) (by with_reducible assumption) ?_
        try simp only [List.getElem_toArray, List.getElem_cons_succ, List.getElem_cons_zero, Act.put, List.setIfInBounds_toArray, List.set_cons_zero, List.set_cons_succ]
        refine wpAnyH_take (i := 7) (v := ?_) rfl (by kernel_rfl) (by kernel_rfl) (by kernel_rfl) (fun _ _ _ h => h) (yields_pure (by rfl) (fun w => ?_)) (by with_reducible assumption) ?_
        rotate_left
        · (go_simp <;> with_reducible rfl)
        try simp only [List.getElem_toArray, List.getElem_cons_succ, List.getElem_cons_zero, Act.put, List.setIfInBounds_toArray, List.set_cons_zero, List.set_cons_succ]
        refine wpAnyH_take (i := 8) rfl (by kernel_rfl) (by kernel_rfl) (by kernel_rfl) (fun _ _ _ h => h) (yields_cell (by rfl) 3 (.tmp 69) rfl gy 34 rfl (.int .i64 q.x.st) _ D0.out Try.underlying3 rfl) (by with_reducible assumption) ?_
        try simp only [List.getElem_toArray, List.getElem_cons_succ, List.getElem_cons_zero, Act.put, List.setIfInBounds_toArray, List.set_cons_zero, List.set_cons_succ]
        refine wpAnyH_ready (rs := [6]) (by kernel_rfl) (by simp) (AllReadyH.cons rfl (fun K hK => ?_) AllReadyH.nil)
        go_simp
        refine F5.out.mono ?_
        rintro r w7 ⟨rfl, hc7⟩
        have hS7 : Chg [] w6 w7 := hS0.trans hc7
        have F6 := Lib.hid (mlisted_any (HJ6.out.mo.chg0 hS7) (by omega) HXO.out)
        rw [HQX.out] at F6
        clear F5 hc7
        refine hK.out _ _ (by with_reducible assumption) (fun _ => ?_)
        clear hK K
        try simp only [List.getElem_toArray, List.getElem_cons_succ, List.getElem_cons_zero, Act.put, List.setIfInBounds_toArray, List.set_cons_zero, List.set_cons_succ]
        refine wpAnyH_take (i := 9) (v := ?_) rfl (by kernel_rfl) (by kernel_rfl) (by kernel_rfl) (fun _ _ _ h => h) (yields_pure (by rfl) (fun w => ?_)) (by with_reducible assumption) ?_
        rotate_left
        · (go_simp <;> with_reducible rfl)
        try simp only [List.getElem_toArray, List.getElem_cons_succ, List.getElem_cons_zero, Act.put, List.setIfInBounds_toArray, List.set_cons_zero, List.set_cons_succ]
        refine wpAnyH_take (i := 10) (v := ?_) rfl (by kernel_rfl) (by kernel_rfl) (by kernel_rfl) (fun _ _ _ h => h) (yields_pure (by rfl) (fun w => ?_)) (by with_reducible assumption) ?_
        rotate_left
        · (go_simp <;> with_reducible rfl)
        try simp only [List.getElem_toArray, List.getElem_cons_succ, List.getElem_cons_zero, Act.put, List.setIfInBounds_toArray, List.set_cons_zero, List.set_cons_succ]
        refine wpAnyH_take (i := 11) (v := ?_) rfl (by kernel_rfl) (by kernel_rfl) (by kernel_rfl) (fun _ _ _ h => h) (yields_pure (by rfl) (fun w => ?_)) (by with_reducible assumption) ?_
        rotate_left
        · (go_simp <;> with_reducible rfl)
        try simp only [List.getElem_toArray, List.getElem_cons_succ, List.getElem_cons_zero, Act.put, List.setIfInBounds_toArray, List.set_cons_zero, List.set_cons_succ]
        refine wpAnyH_take (i := 12) (v := ?_) rfl (by kernel_rfl) (by kernel_rfl) (by kernel_rfl) (fun _ _ _ h => h) (yields_pure (by rfl) (fun w => ?_)) (by with_reducible assumption) ?_
        rotate_left
        · (go_simp <;> with_reducible rfl)
        try simp only [List.getElem_toArray, List.getElem_cons_succ, List.getElem_cons_zero, Act.put, List.setIfInBounds_toArray, List.set_cons_zero, List.set_cons_succ]
        refine wpAnyH_take (i := 13) rfl (by kernel_rfl) (by kernel_rfl) (by kernel_rfl) (fun _ _ _ h => h) (yields_cell (by rfl) 3 (.tmp 74) rfl gy 35 rfl (.int .i64 q.x.ow) _ D1.out Try.underlying3 rfl) (by with_reducible assumption) ?_
        try simp only [List.getElem_toArray, List.getElem_cons_succ, List.getElem_cons_zero, Act.put, List.setIfInBounds_toArray, List.set_cons_zero, List.set_cons_succ]
        refine wpAnyH_take (i := 14) (v := ?_) rfl (by kernel_rfl) (by kernel_rfl) (by kernel_rfl) (fun _ _ _ h => h) (yields_pure (by rfl) (fun w => ?_)) (by with_reducible assumption) ?_
        rotate_left
        · (go_simp <;> with_reducible rfl)
        try simp only [List.getElem_toArray, List.getElem_cons_succ, List.getElem_cons_zero, Act.put, List.setIfInBounds_toArray, List.set_cons_zero, List.set_cons_succ]
        refine wpAnyH_take (i := 15) (v := ?_) rfl (by kernel_rfl) (by kernel_rfl) (by kernel_rfl) (fun _ _ _ h => h) (yields_pure (by rfl) (fun w => ?_)) (by with_reducible assumption) ?_
        rotate_left
        · (go_simp <;> with_reducible rfl)
        try simp only [List.getElem_toArray, List.getElem_cons_succ, List.getElem_cons_zero, Act.put, List.setIfInBounds_toArray, List.set_cons_zero, List.set_cons_succ]
        refine wpAnyH_take (i := 16) (v := ?_) rfl (by kernel_rfl) (by kernel_rfl) (by kernel_rfl) (fun _ _ _ h => h) (yields_pure (by rfl) (fun w => ?_)) (by with_reducible assumption) ?_
        rotate_left
        · (go_simp <;> with_reducible rfl)
        try simp only [List.getElem_toArray, List.getElem_cons_succ, List.getElem_cons_zero, Act.put, List.setIfInBounds_toArray, List.set_cons_zero, List.set_cons_succ]
        refine wpAnyH_take (i := 17) (v := ?_) rfl (by kernel_rfl) (by kernel_rfl) (by kernel_rfl) (fun _ _ _ h => h) (yields_pure (by rfl) (fun w => ?_)) (by with_reducible assumption) ?_
        rotate_left
        · (go_simp <;> with_reducible rfl)
        try simp only [List.getElem_toArray, List.getElem_cons_succ, List.getElem_cons_zero, Act.put, List.setIfInBounds_toArray, List.set_cons_zero, List.set_cons_succ]
        refine wpAnyH_take (i := 18) (v := ?_) rfl (by kernel_rfl) (by kernel_rfl) (by kernel_rfl) (fun _ _ _ h => h) (yields_pure (by rfl) (fun w => ?_)) (by with_reducible assumption) ?_
        rotate_left
        · (go_simp <;> with_reducible rfl)
        try simp only [List.getElem_toArray, List.getElem_cons_succ, List.getElem_cons_zero, Act.put, List.setIfInBounds_toArray, List.set_cons_zero, List.set_cons_succ]
        refine wpAnyH_take (i := 19) rfl (by kernel_rfl) (by kernel_rfl) (by kernel_rfl) (fun _ _ _ h => h) (yields_cell (by rfl) 3 (.tmp 80) rfl gy 34 rfl (.int .i64 q.x.st) _ D0.out Try.underlying3 rfl) (by with_reducible assumption) ?_
        try simp only [List.getElem_toArray, List.getElem_cons_succ, List.getElem_cons_zero, Act.put, List.setIfInBounds_toArray, List.set_cons_zero, List.set_cons_succ]
        refine wpAnyH_take (i := 20) (v := ?_) rfl (by kernel_rfl) (by kernel_rfl) (by kernel_rfl) (fun _ _ _ h => h) (yields_pure (by rfl) (fun w => ?_)) (by with_reducible assumption) ?_
        rotate_left
        · (go_simp <;> with_reducible rfl)
        try simp only [List.getElem_toArray, List.getElem_cons_succ, List.getElem_cons_zero, Act.put, List.setIfInBounds_toArray, List.set_cons_zero, List.set_cons_succ]
        refine wpAnyH_take (i := 21) (v := ?_) rfl (by kernel_rfl) (by kernel_rfl) (by kernel_rfl) (fun _ _ _ h => h) (yields_pure (by rfl) (fun w => ?_)) (by with_reducible assumption) ?_
        rotate_left
        · (go_simp <;> with_reducible rfl)
        try simp only [List.getElem_toArray, List.getElem_cons_succ, List.getElem_cons_zero, Act.put, List.setIfInBounds_toArray, List.set_cons_zero, List.set_cons_succ]
        refine wpAnyH_take (i := 22) (v := ?_) rfl (by kernel_rfl) (by kernel_rfl) (by kernel_rfl) (fun _ _ _ h => h) (yields_pure (by rfl) (fun w => ?_)) (by with_reducible assumption) ?_
        rotate_left
        · (go_simp <;> with_reducible rfl)
        try simp only [List.getElem_toArray, List.getElem_cons_succ, List.getElem_cons_zero, Act.put, List.setIfInBounds_toArray, List.set_cons_zero, List.set_cons_succ]
        refine wpAnyH_take (i := 23) (v := ?_) rfl (by kernel_rfl) (by kernel_rfl) (by kernel_rfl) (fun _ _ _ h => h) (yields_pure (by rfl) (fun w => ?_)) (by with_reducible assumption) ?_
        rotate_left
        · (go_simp <;> with_reducible rfl)
        try simp only [List.getElem_toArray, List.getElem_cons_succ, List.getElem_cons_zero, Act.put, List.setIfInBounds_toArray, List.set_cons_zero, List.set_cons_succ]
        refine wpAnyH_take (i := 24) (v := ?_) rfl (by kernel_rfl) (by kernel_rfl) (by kernel_rfl) (fun _ _ _ h => h) (yields_pure (by rfl) (fun w => ?_)) (by with_reducible assumption) ?_
        rotate_left
        · (go_simp <;> with_reducible rfl)
        try simp only [List.getElem_toArray, List.getElem_cons_succ, List.getElem_cons_zero, Act.put, List.setIfInBounds_toArray, List.set_cons_zero, List.set_cons_succ]
        refine wpAnyH_take (i := 25) (v := ?_) rfl (by kernel_rfl) (by kernel_rfl) (by kernel_rfl) (fun _ _ _ h => h) (yields_pure (by rfl) (fun w => ?_)) (by with_reducible assumption) ?_
        rotate_left
        · (go_simp <;> with_reducible rfl)
        try simp only [List.getElem_toArray, List.getElem_cons_succ, List.getElem_cons_zero, Act.put, List.setIfInBounds_toArray, List.set_cons_zero, List.set_cons_succ]
        refine wpAnyH_take (i := 26) (v := ?_) rfl (by kernel_rfl) (by kernel_rfl) (by kernel_rfl) (fun _ _ _ h => h) (yields_pure (by rfl) (fun w => ?_)) (by with_reducible assumption) ?_
        rotate_left
        · (go_simp <;> with_reducible rfl)
        try simp only [List.getElem_toArray, List.getElem_cons_succ, List.getElem_cons_zero, Act.put, List.setIfInBounds_toArray, List.set_cons_zero, List.set_cons_succ]
        refine wpAnyH_take (i := 27) (v := ?_) rfl (by kernel_rfl) (by kernel_rfl) (by kernel_rfl) (fun _ _ _ h => h) (yields_pure (by rfl) (fun w => ?_)) (by with_reducible assumption) ?_
        rotate_left
        · (go_simp <;> with_reducible rfl)
        try simp only [List.getElem_toArray, List.getElem_cons_succ, List.getElem_cons_zero, Act.put, List.setIfInBounds_toArray, List.set_cons_zero, List.set_cons_succ]
        refine wpAnyH_take (i := 28) (v := ?_) rfl (by kernel_rfl) (by kernel_rfl) (by kernel_rfl) (fun _ _ _ h => h) (yields_pure (by rfl) (fun w => ?_)) (by with_reducible assumption) ?_
        rotate_left
        · (go_simp <;> with_reducible rfl)
        try simp only [List.getElem_toArray, List.getElem_cons_succ, List.getElem_cons_zero, Act.put, List.setIfInBounds_toArray, List.set_cons_zero, List.set_cons_succ]
        refine wpAnyH_take (i := 29) rfl (by kernel_rfl) (by kernel_rfl) (by kernel_rfl) (fun _ _ _ h => h) (yields_row (by rfl) 73 (.tmp 90) rfl b (o + k * 39 + 2) rfl (arrF x.flow) _ RF.out Try.underlying73 rfl infF) (by with_reducible assumption) ?_
        try simp only [List.getElem_toArray, List.getElem_cons_succ, List.getElem_cons_zero, Act.put, List.setIfInBounds_toArray, List.set_cons_zero, List.set_cons_succ]
        refine wpAnyH_take (i := 31) (v := ?_) rfl (by kernel_rfl) (by kernel_rfl) (by kernel_rfl) (fun _ _ _ h => h) (yields_pure (by rfl) (fun w => ?_)) (by with_reducible assumption) ?_
        rotate_left
        · (go_simp <;> with_reducible rfl)
        try simp only [List.getElem_toArray, List.getElem_cons_succ, List.getElem_cons_zero, Act.put, List.setIfInBounds_toArray, List.set_cons_zero, List.set_cons_succ]
        refine wpAnyH_take (i := 32) rfl (by kernel_rfl) (by kernel_rfl) (by kernel_rfl) (fun _ _ _ h => h) (yields_cell (by rfl) 22 (.tmp 93) rfl gy 36 rfl (.slice A7 q.x.ls.length k7) _ D2.out Try.underlying22 rfl) (by with_reducible assumption) ?_
        try simp only [List.getElem_toArray, List.getElem_cons_succ, List.getElem_cons_zero, Act.put, List.setIfInBounds_toArray, List.set_cons_zero, List.set_cons_succ]
        refine wpAnyH_ready (rs := [30]) (by kernel_rfl) (by simp) (AllReadyH.cons rfl (fun K hK => ?_) AllReadyH.nil)
        go_simp
        refine F6.out.mono ?_
        rintro r w8 ⟨v8, rfl, hs8, hc8⟩
        have hS8 : Chg [] w6 w8 := hS7.trans hc8
        have F7 := Lib.hid (ints_any hs8 (HQS.out.chg0 hS8) (by omega) (by omega))
        rw [show decide (q.x.ls = q.x.ls) = true by simp] at F7
        clear F6 hc8 hs8
        refine hK.out _ _ (by with_reducible assumption) (fun _ => ?_)
        clear hK K
        try simp only [List.getElem_toArray, List.getElem_cons_succ, List.getElem_cons_zero, Act.put, List.setIfInBounds_toArray, List.set_cons_zero, List.set_cons_succ]
        refine wpAnyH_ready (rs := [33]) (by kernel_rfl) (by simp) (AllReadyH.cons rfl (fun K hK => ?_) AllReadyH.nil)
        go_simp
        refine F7.out.mono ?_
        rintro r w9 ⟨rfl, hc9⟩
        have hS9 : Chg [] w6 w9 := hS8.trans hc9
        clear F7 hc9
        refine hK.out _ _ (by with_reducible assumption) (fun _ => ?_)
        clear hK K
        try simp only [List.getElem_toArray, List.getElem_cons_succ, List.getElem_cons_zero, Act.put, List.setIfInBounds_toArray, List.set_cons_zero, List.set_cons_succ]
        refine wpAnyH_take (i := 34) (v := ?_) rfl (by kernel_rfl) (by kernel_rfl) (by kernel_rfl) (fun _ _ _ h => h) (yields_pure (by rfl) (fun w => ?_)) (by with_reducible assumption) ?_
        rotate_left
        · (go_simp <;> with_reducible rfl)
        try simp only [List.getElem_toArray, List.getElem_cons_succ, List.getElem_cons_zero, Act.put, List.setIfInBounds_toArray, List.set_cons_zero, List.set_cons_succ]
        refine wpAnyH_take (i := 35) (v := ?_) rfl (by kernel_rfl) (by kernel_rfl) (by kernel_rfl) (fun _ _ _ h => h) (yields_pure (by rfl) (fun w => ?_)) (by with_reducible assumption) ?_
        rotate_left
        · (go_simp <;> with_reducible rfl)
        try simp only [List.getElem_toArray, List.getElem_cons_succ, List.getElem_cons_zero, Act.put, List.setIfInBounds_toArray, List.set_cons_zero, List.set_cons_succ]
        refine wpAnyH_done (by kernel_rfl) ?_ _
        refine NoPanic.normal ?_
        have HJ9 := Lib.hid (HJ6.out.chg0 hS9)
        clear hS0 hS7 hS8 hS9 RF D0 D1 D2
        go_wp2_with fail
        go_roundw
        case rel => exact ⟨k + 1, R2, by omega, by omega, by go_num, HJ9⟩
        case measure => simp [intOf]; omega
      · clear HE HX
        go_wp2_with fail
        all_goals go_meet
        all_goals exact ⟨k, R, hk100, HJ⟩
  case rest =>
    obtain ⟨k, R, hk100, HJ⟩ := hcut
    obtain ⟨A4, c4, hv4⟩ := Sl.form HJ.out.rf.1
    subst hv4
    have hRL : R.length ≤ 300 := by have := HJ.out.li.len; unfold livesR at this; rw [List.length_map] at this; omega
    have F1 := Lib.hid (mflows_any HJ.out.mo HJ.out.li (by omega))
    have HOKF : Hid (∀ f, f ∈ (livesR R).map (·.1) → okF f) := Lib.hid fun f hf => by
      unfold livesR at hf
      rw [List.map_map] at hf
      obtain ⟨r, hr, rfl⟩ := List.mem_map.1 hf
      exact (HJ.out.rf.2 r hr).1
    clear HE HX HJ0
    go_wp2_with fail
    refine F1.out.mono ?_
    rintro r w2 ⟨v1, F, rfl, hs1, hm1, hsl1, hc1⟩
    have F2 := Lib.hid (rflows_any (HJ.out.chg0 hc1).rf hRL)
    have HF1 := Lib.hid (And.intro hs1 (And.intro hm1 (And.intro hsl1 hc1)))
    clear hs1 hm1 hsl1 hc1 F1
    go_wp2_with fail
    refine F2.out.mono ?_
    rintro r w3 ⟨v2, F', rfl, hs2, hm2, hsl2, hc2⟩
    have hFF : F = F' := SrtF.eq HF1.out.1 hs2 (fun f => by
      rw [HF1.out.2.1, hm2]
      exact ⟨fun h => h.2, fun h => ⟨HOKF.out f h, h⟩⟩)
    subst hFF
    have hFl : F.length ≤ 300 := by
      have := hs2.nodup.length_le_of_subset (l₂ := (livesR R).map (·.1)) (fun f hf => (hm2 f).1 hf)
      have h2 := HJ.out.li.len
      rw [List.length_map] at this
      omega
    have HOK : Hid (∀ f ∈ F, okF f) := Lib.hid fun f hf => HOKF.out f ((hm2 f).1 hf)
    obtain ⟨B1, d1, hb1⟩ := Sl.form HF1.out.2.2.1
    obtain ⟨B2, d2, hb2⟩ := Sl.form hsl2
    subst hb1 hb2
    have HX1 := Lib.hid (fun W (hc : Chg [] w3 W) i (x : Fl) (hx : F[i]? = some x) => SlFo.one (Sl.chg0 (Sl.chg0 HF1.out.2.2.1 hc2) hc : SlFo W _ _ F) hx)
    have HX2 := Lib.hid (fun W (hc : Chg [] w3 W) i (x : Fl) (hx : F[i]? = some x) => SlFo.one (Sl.chg0 hsl2 hc : SlFo W _ _ F) hx)
    have HC3 := Lib.hid (HJ.out.ch.trans (HF1.out.2.2.2.trans hc2))
    clear hs2 hm2 hsl2 hc2 F2 HOKF
    generalize hn : F.length = n at *
    have HN : Hid (F.length = n) := Lib.hid hn
    have hbn : ((n : Int) != (n : Int)) = false := by simp
    clear hn HF1
    go_wp2_with fail
    go_loopw [13] (fun iv wr => ∃ i : Nat, i ≤ n ∧ iv = .int .i64 i ∧ Hid (Chg [] w3 wr)) (fun iv _ => n - (intOf iv).toNat)
    case atStart => exact ⟨0, by omega, rfl, Lib.hid (Chg.refl _ _)⟩
    case round =>
      obtain ⟨i, hi, rfl, HC⟩ := hrel
      by_cases hlt : i < n
      · have hx : F[i]? = some (F[i]'(by have := HN.out; omega)) := List.getElem?_eq_getElem _
        have hxo := HOK.out _ (List.mem_of_getElem? hx)
        generalize F[i]'(by have := HN.out; omega) = x at hx hxo
        obtain ⟨b1, o1, rfl, hr1⟩ := HX1.out _ HC.out i x hx
        obtain ⟨b2, o2, rfl, hr2⟩ := HX2.out _ HC.out i x hx
        have R1 := Lib.hid (fun W (hc : Chg [] wr W) => rangeAt_chg hr1 hc (by simp))
        have R2 := Lib.hid (fun W (hc : Chg [] wr W) => rangeAt_chg hr2 hc (by simp))
        have hE1 := fun W => eq_fl W hxo hxo
        rw [show decide (x = x) = true by simp] at hE1
        clear hr1 hr2 hx hxo
        go_upto_region 22 with fail
        refine wp_region_chg (by kernel_rfl) (by kernel_rfl) ?_
        (with_reducible refine wpQuiet_pure (v := ?_) ?_ (fun w => ?_) ?_); rotate_left; (focus rfl); (focus (go_simp <;> with_reducible rfl)); (try simp only [List.getElem_toArray, List.getElem_cons_succ, List.getElem_cons_zero, Act.put, List.setIfInBounds_toArray, List.set_cons_zero, List.set_cons_succ])
        (with_reducible refine wpQuiet_pure (v := ?_) ?_ (fun w => ?_) ?_); rotate_left; (focus rfl); (focus (go_simp <;> with_reducible rfl)); (try simp only [List.getElem_toArray, List.getElem_cons_succ, List.getElem_cons_zero, Act.put, List.setIfInBounds_toArray, List.set_cons_zero, List.set_cons_succ])
        (with_reducible refine wpQuiet_pure (v := ?_) ?_ (fun w => ?_) ?_); rotate_left; (focus rfl); (focus (go_simp <;> with_reducible rfl)); (try simp only [List.getElem_toArray, List.getElem_cons_succ, List.getElem_cons_zero, Act.put, List.setIfInBounds_toArray, List.set_cons_zero, List.set_cons_succ])
        (with_reducible refine wpQuiet_rowC 73 (.tmp 115) ?_ ?_ b1 _ ?_ (arrF x) _ R1.out Try.underlying73 ?_ infF ?_); (focus rfl); (focus rfl); (focus rfl); (focus rfl); (try simp only [List.getElem_toArray, List.getElem_cons_succ, List.getElem_cons_zero, Act.put, List.setIfInBounds_toArray, List.set_cons_zero, List.set_cons_succ])
        (with_reducible refine wpQuiet_pure (v := ?_) ?_ (fun w => ?_) ?_); rotate_left; (focus rfl); (focus (go_simp <;> with_reducible rfl)); (try simp only [List.getElem_toArray, List.getElem_cons_succ, List.getElem_cons_zero, Act.put, List.setIfInBounds_toArray, List.set_cons_zero, List.set_cons_succ])
        (with_reducible refine wpQuiet_pure (v := ?_) ?_ (fun w => ?_) ?_); rotate_left; (focus rfl); (focus (go_simp <;> with_reducible rfl)); (try simp only [List.getElem_toArray, List.getElem_cons_succ, List.getElem_cons_zero, Act.put, List.setIfInBounds_toArray, List.set_cons_zero, List.set_cons_succ])
        (with_reducible refine wpQuiet_pure (v := ?_) ?_ (fun w => ?_) ?_); rotate_left; (focus rfl); (focus (go_simp <;> with_reducible rfl)); (try simp only [List.getElem_toArray, List.getElem_cons_succ, List.getElem_cons_zero, Act.put, List.setIfInBounds_toArray, List.set_cons_zero, List.set_cons_succ])
        (with_reducible refine wpQuiet_rowC 73 (.tmp 119) ?_ ?_ b2 _ ?_ (arrF x) _ R2.out Try.underlying73 ?_ infF ?_); (focus rfl); (focus rfl); (focus rfl); (focus rfl); (try simp only [List.getElem_toArray, List.getElem_cons_succ, List.getElem_cons_zero, Act.put, List.setIfInBounds_toArray, List.set_cons_zero, List.set_cons_succ])
        (with_reducible refine wpQuiet_pure (v := ?_) ?_ (fun w => ?_) ?_); rotate_left; (focus rfl); (focus (go_simp <;> with_reducible rfl)); (try simp only [List.getElem_toArray, List.getElem_cons_succ, List.getElem_cons_zero, Act.put, List.setIfInBounds_toArray, List.set_cons_zero, List.set_cons_succ])
        refine wpQuiet_nil ?_
        intro w5 hc5
        have HC5 := Lib.hid (HC.out.trans hc5)
        clear hc5 R1 R2
        go_wp2_with fail
        go_roundw
        case rel => exact ⟨i + 1, by omega, by go_num, HC5⟩
        case measure => simp [intOf]; omega
      · obtain rfl : i = n := by omega
        have LV := Lib.hid (lives44 wr)
        clear HX1 HX2
        go_wp2_with fail
        refine LV.out.mono ?_
        rintro r w6 ⟨rfl, hc6⟩
        have HC6 := Lib.hid ((HC3.out.trans HC.out).trans hc6)
        clear hc6 LV
        go_wp2_with fail
        go_ret
        exact ⟨rfl, HC6.out⟩
end Go.Proofs.Ytgbdbeaflilmlaa
