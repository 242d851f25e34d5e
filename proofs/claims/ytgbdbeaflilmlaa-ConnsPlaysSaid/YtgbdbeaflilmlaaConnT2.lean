/-
  WALKS over package conns: Tick, the walk. Condition: a table that New made, at most 900 calls.
-/
import Derived.Test.YtgbdbeaflilmlaaConnT
set_option linter.unusedVariables false
set_option linter.unusedSimpArgs false
namespace Go.Proofs.Ytgbdbeaflilmlaa
open Go.RowKit Go.Maps

set_option maxRecDepth 100000 in
set_option maxHeartbeats 4000000 in
theorem ctick_any {W w : World} {tb K : Nat} {c : TC} {S : List Nat} (h : CtS W w tb K c S) (hK : K ≤ 900) :
    Calls Try.prog 39 #[.pointer (some ⟨tb, 0, none⟩)] w fun e w' => ∃ v' L, e = .returned v' ∧ SrtF L ∧ L.Perm (goneC c) ∧ Sl w' w.heap.size 34 v' L.length (L.flatMap encF) ∧ CtTo W w tb (K + 1) (tickC c) S w' := by
  have hz00 : ∀ w, (zeroValue 73).run Try.prog w = .ok eN0.fl.v w := zeroFl
  obtain ⟨⟨m1, m2, m3, q, nn, vs, sq, its, hcr, hS, hnn, hs0, hs1, hpm0⟩, hci, hcW, hnew⟩ := id h
  have F1 := Lib.hid (cis_any hcr)
  have hwr : wrap64 (c.now + 1) = c.now + 1 := by have := hci.nw; unfold wrap64; omega
  have c1 : w.cell? ⟨tb, 1, none⟩ = some (.int .i64 c.now) := hcr.blk.cell 1
  have f1 : w.frozen? ⟨tb, 1, none⟩ = false := hcr.blk.frozen 1
  obtain ⟨n0, now0, last0, l0⟩ := c
  simp only at hwr c1
  have hcr1 : CtR (w.setCell ⟨tb, 1, none⟩ (.int .i64 (now0 + 1))) tb m1 m2 m3 q nn vs sq its ⟨n0, now0 + 1, last0, l0⟩ := by
    obtain ⟨d1, d2, d3, d4, d5, d6⟩ := hcr.d1
    obtain ⟨g1, g2, g3, g4⟩ := hcr.d2
    have hc : Chg [tb] w (w.setCell ⟨tb, 1, none⟩ (.int .i64 (now0 + 1))) := (Chg.refl [tb] w).setCell (.inl (by simp)) _
    obtain ⟨s2, h2⟩ := hcr.on
    obtain ⟨s3, h3⟩ := hcr.of
    exact ⟨hcr.blk.set_ 1 _, hcr.oe.chg hc (by simpa using Ne.symm d1), ⟨s2, h2.chg hc (by simpa using Ne.symm d2)⟩, ⟨s3, h3.chg hc (by simpa using Ne.symm d3)⟩,
      hcr.qu.chg hc (by intro x hx e; simp at e; subst e; exact g1 hx), hcr.d1, hcr.d2⟩
  have hcS : Chg S w (w.setCell ⟨tb, 1, none⟩ (.int .i64 (now0 + 1))) := (Chg.refl S w).setCell (.inl (by rw [hS]; simp [footT])) _
  have hJ : TJC w (w.setCell ⟨tb, 1, none⟩ (.int .i64 (now0 + 1))) tb m1 m2 m3 q nn vs sq its ⟨n0, now0 + 1, last0, leftC l0 []⟩ S (.slice none 0 0) [] := by
    rw [leftC_nil]
    exact ⟨hcr1, World.ownsRow_nil .., by simp [ApC, Value.ownBlock], hcS, fun x hx => .inl (by rw [hS]; exact hx)⟩
  have HJ := Lib.hid (And.intro hJ (And.intro (show (its.map fun x => (x.at_, x.id)).Perm ((leftC l0 []).map fun p => (p.1.til, p.2)) by rw [leftC_nil]; exact hpm0) (GoneF.nil K ⟨n0, now0, last0, l0⟩)))
  have HF : Hid (∀ w' vs' its' fs, TJC w w' tb m1 m2 m3 q nn vs' sq its' ⟨n0, now0 + 1, last0, (tickC ⟨n0, now0, last0, l0⟩).l⟩ S (.slice none 0 0) fs → (its'.map fun x => (x.at_, x.id)).Perm ((tickC ⟨n0, now0, last0, l0⟩).l.map fun p => (p.1.til, p.2)) → CtTo W w tb (K + 1) (tickC ⟨n0, now0, last0, l0⟩) S w') := Lib.hid (fun w' vs' its' fs hT hp =>
    ⟨footT tb m1 m2 m3 q vs', ⟨⟨m1, m2, m3, q, nn, vs', sq, its', hT.r, rfl, by omega, hs0, by omega, hp⟩, hci.tick, hcW.trans' hT.chg (fun x hx => .inr (hnew x hx)), fun x hx => (hT.foot x hx).elim (hnew x) (fun k => Nat.le_trans hcW.size k)⟩, hT.chg, hT.foot⟩)
  have HCI := Lib.hid hci
  have hlen : l0.length ≤ 64 := by have := hci.len; have := hci.n1; simp only at *; omega
  clear h hcr hS hnn hs0 hs1 hpm0 hci hcW hnew hcr1 hcS hJ
  go_enter Try.func39, Try.ntmps39
  go_wp2_with fail
  refine F1.out.mono ?_
  rintro e w1 ⟨rfl, rfl⟩
  clear F1
  go_wp2_with fail
  generalize w.setCell ⟨tb, 1, none⟩ (.int .i64 (now0 + 1)) = w1 at *
  generalize hnow : now0 + 1 = now1 at *
  clear c1 f1
  simp only [hwr]
  clear hwr
  go_loopw [3] (fun v wr => ∃ (fs : List Fl) (vs' : Value) (its' : List It), Hid (TJC w wr tb m1 m2 m3 q nn vs' sq its' ⟨n0, now1, last0, leftC l0 fs⟩ S v fs ∧ (its'.map fun x => (x.at_, x.id)).Perm ((leftC l0 fs).map fun p => (p.1.til, p.2)) ∧ GoneF K ⟨n0, now0, last0, l0⟩ fs)) (fun v _ => 64 - lenC v)
  case atStart => exact ⟨[], vs, its, HJ⟩
  case round =>
    obtain ⟨fs, vs', its', hH⟩ := hrel
    obtain ⟨hT, hpm, hG⟩ := hH.out
    have k6 : wr.cell? ⟨tb, 6, none⟩ = some (.pointer (some ⟨q, 0, none⟩)) := hT.r.blk.cell 6
    have k1 : wr.cell? ⟨tb, 1, none⟩ = some (.int .i64 now1) := hT.r.blk.cell 1
    have hS0 : (fun W : World => W.cell? ⟨tb, 1, none⟩ = some (.int .i64 now1) ∧ W.cell? ⟨tb, 6, none⟩ = some (.pointer (some ⟨q, 0, none⟩))) wr.drew := ⟨k1, k6⟩
    have HSQ : ∀ W : World, (W.cell? ⟨tb, 1, none⟩ = some (.int .i64 now1) ∧ W.cell? ⟨tb, 6, none⟩ = some (.pointer (some ⟨q, 0, none⟩))) → W.cell? ⟨tb, 6, none⟩ = some (.pointer (some ⟨q, 0, none⟩)) := fun W h => h.2
    have HSN : ∀ W : World, (W.cell? ⟨tb, 1, none⟩ = some (.int .i64 now1) ∧ W.cell? ⟨tb, 6, none⟩ = some (.pointer (some ⟨q, 0, none⟩))) → W.cell? ⟨tb, 1, none⟩ = some (.int .i64 now1) := fun W h => h.1
    have hil := hpm.length_eq
    rw [List.length_map, List.length_map] at hil
    have hil2 : its'.length ≤ 64 := by have : (leftC l0 fs).length ≤ l0.length := List.length_filter_le _ _; omega
    have hfl : fs.length ≤ l0.length := hG.len
    by_cases hno : ∀ x, its'[0]? = some x → now1 < x.at_
    · have F2 := Lib.hid (qnext_no (hT.r.qu.chg0 (Chg.refl [] wr).drew) hno)
      have HFin : Hid (∀ w', Chg [] wr w' → CtTo W w tb (K + 1) (tickC ⟨n0, now0, last0, l0⟩) S w') := Lib.hid (fun w' hc => by
        have hfi := hG.fin HCI.out (by simp only [hnow]; exact next_late hT.r.qu.ok hpm hno)
        have h1 := hT.chg0 hc
        refine HF.out w' vs' its' [] ?_ (by rw [← hfi.1]; exact hpm)
        rw [← hfi.1]
        exact ⟨h1.r, World.ownsRow_nil .., by simp [ApC, Value.ownBlock], h1.chg, h1.foot⟩)
      have HG : Hid ((onceF fs).Perm (goneC ⟨n0, now0, last0, l0⟩)) := Lib.hid (hG.fin HCI.out (by simp only [hnow]; exact next_late hT.r.qu.ok hpm hno)).2
      have HSl := Lib.hid (Sl.less (B' := 0) (Sl.of_own hT.own) (Nat.zero_le _))
      have HOK : Hid (∀ x ∈ fs, okF x) := Lib.hid (fun x hx => by
        obtain ⟨p, hp, rfl, _⟩ := hG.du x hx
        exact HCI.out.ok p hp)
      have hwz := hT.chg.size
      clear hT hpm hG hH HF HJ hno hil
      go_wp2_with fail
      refine wp_region_noPanic ?_
      refine wp_region_held_drew (S := fun W : World => W.cell? ⟨tb, 1, none⟩ = some (.int .i64 now1) ∧ W.cell? ⟨tb, 6, none⟩ = some (.pointer (some ⟨q, 0, none⟩))) (by kernel_rfl) hS0 (fun _ => ?_)
      refine wpAnyH_take (i := 0) (v := ?_) rfl (by kernel_rfl) (by kernel_rfl) (by kernel_rfl) (fun _ _ _ h => h) (yields_pure (by rfl) (fun w => ?_)) (by with_reducible assumption) ?_
      rotate_left
      · (go_simp <;> with_reducible rfl)
      try simp only [List.getElem_toArray, List.getElem_cons_succ, List.getElem_cons_zero, Act.put, List.setIfInBounds_toArray, List.set_cons_zero, List.set_cons_succ]
      refine wpAnyH_take (i := 1) (v := ?_) rfl (by kernel_rfl) (by kernel_rfl) (by kernel_rfl) (fun _ _ _ h => h) (yields_pure (by rfl) (fun w => ?_)) (by with_reducible assumption) ?_
      rotate_left
      · (go_simp <;> with_reducible rfl)
      try simp only [List.getElem_toArray, List.getElem_cons_succ, List.getElem_cons_zero, Act.put, List.setIfInBounds_toArray, List.set_cons_zero, List.set_cons_succ]
      refine wpAnyH_take (i := 2) (v := ?_) rfl (by kernel_rfl) (by kernel_rfl) (by kernel_rfl) (fun _ _ _ h => h) (yields_pure (by rfl) (fun w => ?_)) (by with_reducible assumption) ?_
      rotate_left
      · (go_simp <;> with_reducible rfl)
      try simp only [List.getElem_toArray, List.getElem_cons_succ, List.getElem_cons_zero, Act.put, List.setIfInBounds_toArray, List.set_cons_zero, List.set_cons_succ]
      refine wpAnyH_take (i := 3) rfl (by kernel_rfl) (by kernel_rfl) (by kernel_rfl) (fun _ _ _ h => h) (yields_cell (by rfl) 60 (.tmp 20) rfl tb 6 rfl (.pointer (some ⟨q, 0, none⟩)) _ HSQ Try.underlying60 rfl) (by with_reducible assumption) ?_
      try simp only [List.getElem_toArray, List.getElem_cons_succ, List.getElem_cons_zero, Act.put, List.setIfInBounds_toArray, List.set_cons_zero, List.set_cons_succ]
      refine wpAnyH_take (i := 4) (v := ?_) rfl (by kernel_rfl) (by kernel_rfl) (by kernel_rfl) (fun _ _ _ h => h) (yields_pure (by rfl) (fun w => ?_)) (by with_reducible assumption) ?_
      rotate_left
      · (go_simp <;> with_reducible rfl)
      try simp only [List.getElem_toArray, List.getElem_cons_succ, List.getElem_cons_zero, Act.put, List.setIfInBounds_toArray, List.set_cons_zero, List.set_cons_succ]
      refine wpAnyH_take (i := 5) (v := ?_) rfl (by kernel_rfl) (by kernel_rfl) (by kernel_rfl) (fun _ _ _ h => h) (yields_pure (by rfl) (fun w => ?_)) (by with_reducible assumption) ?_
      rotate_left
      · (go_simp <;> with_reducible rfl)
      try simp only [List.getElem_toArray, List.getElem_cons_succ, List.getElem_cons_zero, Act.put, List.setIfInBounds_toArray, List.set_cons_zero, List.set_cons_succ]
      refine wpAnyH_take (i := 6) (v := ?_) rfl (by kernel_rfl) (by kernel_rfl) (by kernel_rfl) (fun _ _ _ h => h) (yields_pure (by rfl) (fun w => ?_)) (by with_reducible assumption) ?_
      rotate_left
      · (go_simp <;> with_reducible rfl)
      try simp only [List.getElem_toArray, List.getElem_cons_succ, List.getElem_cons_zero, Act.put, List.setIfInBounds_toArray, List.set_cons_zero, List.set_cons_succ]
      refine wpAnyH_take (i := 7) rfl (by kernel_rfl) (by kernel_rfl) (by kernel_rfl) (fun _ _ _ h => h) (yields_cell (by rfl) 3 (.tmp 24) rfl tb 1 rfl (.int .i64 now1) _ HSN Try.underlying3 rfl) (by with_reducible assumption) ?_
      try simp only [List.getElem_toArray, List.getElem_cons_succ, List.getElem_cons_zero, Act.put, List.setIfInBounds_toArray, List.set_cons_zero, List.set_cons_succ]
      refine wpAnyH_ready (rs := [8]) (by kernel_rfl) (by simp) (AllReadyH.cons rfl (fun K hK => ?_) AllReadyH.nil)
      go_simp
      refine F2.out.mono ?_
      rintro e w2 ⟨rfl, hc2⟩
      have hS2 : (fun W : World => W.cell? ⟨tb, 1, none⟩ = some (.int .i64 now1) ∧ W.cell? ⟨tb, 6, none⟩ = some (.pointer (some ⟨q, 0, none⟩))) w2 := ⟨hc2.cell (w := wr.drew) k1 (by simp), hc2.cell (w := wr.drew) k6 (by simp)⟩
      refine hK.out _ _ (by with_reducible assumption) (fun _ => ?_)
      clear hK K
      try simp only [List.getElem_toArray, List.getElem_cons_succ, List.getElem_cons_zero, Act.put, List.setIfInBounds_toArray, List.set_cons_zero, List.set_cons_succ]
      refine wpAnyH_take (i := 9) (v := ?_) rfl (by kernel_rfl) (by kernel_rfl) (by kernel_rfl) (fun _ _ _ h => h) (yields_pure (by rfl) (fun w => ?_)) (by with_reducible assumption) ?_
      rotate_left
      · (go_simp <;> with_reducible rfl)
      try simp only [List.getElem_toArray, List.getElem_cons_succ, List.getElem_cons_zero, Act.put, List.setIfInBounds_toArray, List.set_cons_zero, List.set_cons_succ]
      refine wpAnyH_take (i := 10) (v := ?_) rfl (by kernel_rfl) (by kernel_rfl) (by kernel_rfl) (fun _ _ _ h => h) (yields_pure (by rfl) (fun w => ?_)) (by with_reducible assumption) ?_
      rotate_left
      · (go_simp <;> with_reducible rfl)
      try simp only [List.getElem_toArray, List.getElem_cons_succ, List.getElem_cons_zero, Act.put, List.setIfInBounds_toArray, List.set_cons_zero, List.set_cons_succ]
      refine wpAnyH_take (i := 11) (v := ?_) rfl (by kernel_rfl) (by kernel_rfl) (by kernel_rfl) (fun _ _ _ h => h) (yields_pure (by rfl) (fun w => ?_)) (by with_reducible assumption) ?_
      rotate_left
      · (go_simp <;> with_reducible rfl)
      try simp only [List.getElem_toArray, List.getElem_cons_succ, List.getElem_cons_zero, Act.put, List.setIfInBounds_toArray, List.set_cons_zero, List.set_cons_succ]
      refine wpAnyH_take (i := 12) (v := ?_) rfl (by kernel_rfl) (by kernel_rfl) (by kernel_rfl) (fun _ _ _ h => h) (yields_pure (by rfl) (fun w => ?_)) (by with_reducible assumption) ?_
      rotate_left
      · (go_simp <;> with_reducible rfl)
      try simp only [List.getElem_toArray, List.getElem_cons_succ, List.getElem_cons_zero, Act.put, List.setIfInBounds_toArray, List.set_cons_zero, List.set_cons_succ]
      refine wpAnyH_take (i := 13) (v := ?_) rfl (by kernel_rfl) (by kernel_rfl) (by kernel_rfl) (fun _ _ _ h => h) (yields_pure (by rfl) (fun w => ?_)) (by with_reducible assumption) ?_
      rotate_left
      · (go_simp <;> with_reducible rfl)
      try simp only [List.getElem_toArray, List.getElem_cons_succ, List.getElem_cons_zero, Act.put, List.setIfInBounds_toArray, List.set_cons_zero, List.set_cons_succ]
      refine wpAnyH_done (by kernel_rfl) ?_ _
      refine NoPanic.normal ?_
      have HC2 := Lib.hid ((Chg.refl [] wr).drew.trans hc2)
      have FS := Lib.hid (fsort_any (l := fs) (Sl.chg0 HSl.out HC2.out) (by omega) HOK.out)
      clear F2 hc2 k1 k6 hS0 hS2 HSQ HSN
      go_wp2_with fail
      refine FS.out.mono ?_
      rintro e w3 ⟨v3, L, rfl, hp3, hs3, hsl3, hc3⟩
      have HH := Lib.hid (And.intro hp3 (And.intro hs3 (And.intro hsl3 hc3)))
      clear FS hp3 hs3 hsl3 hc3
      go_wp2_with fail
      go_ret
      obtain ⟨hp3, hs3, hsl3, hc3⟩ := HH.out
      exact ⟨v3, L, rfl, hs3, hp3.trans HG.out, hsl3.less (Nat.le_trans hwz HC2.out.size), HFin.out w3 (HC2.out.trans hc3)⟩
    · obtain ⟨x, hx0, hle⟩ : ∃ x, its'[0]? = some x ∧ x.at_ ≤ now1 := by
        by_cases hh : ∃ x, its'[0]? = some x ∧ x.at_ ≤ now1
        · exact hh
        · exact absurd (fun x hx => by
            by_cases h2 : now1 < x.at_
            · exact h2
            · exact absurd ⟨x, hx, by omega⟩ hh) hno
      obtain ⟨p, hpl, hpt, hpi⟩ := next_due hpm hx0
      have hci1 : CI (K + 1) ⟨n0, now1, last0, leftC l0 fs⟩ := by
        have := (HCI.out.filter fun p => !decide (flC p ∈ fs)).mono (Nat.le_succ K)
        exact ⟨this.nd, this.no, this.lo, this.ok, this.len, this.la, by have := HCI.out.nw; simp only at *; omega, this.n1⟩
      have hroom := hG.room hpl (by simp only; omega)
      have F2 := Lib.hid (qnext_yes (hT.r.qu.chg0 (Chg.refl [] wr).drew) (by omega) hx0 hle)
      have HX := Lib.hid (And.intro (hT.chg0 (Chg.refl [] wr).drew) (And.intro hpm (And.intro (hG.snoc hpl (by simp only; omega)) (And.intro hpl (And.intro hpi hci1)))))
      have hwz := hT.chg.size
      have HV := Lib.hid (lenC_own hT.own)
      have hkf : okF p.1.fl := hci1.ok p hpl
      have hkz : (Lit.int .i64 x.id).wf = true := by rw [← hpi]; exact wf_c (by have := (hci1.lo p hpl).1; omega) (by have := (hci1.lo p hpl).2; have := hci1.la; simp only at *; omega)
      have HMF : Hid ((mF (leftC l0 fs) x.id).getD eN0.fl.v = p.1.fl.v) := Lib.hid (by
        unfold mF
        rw [find_nodup hci1.no hpl (b := x.id) hpi]; rfl)
      clear hT hpm hG hH HF HJ hno hil hpl hpt hx0 hle hci1
      go_wp2_with fail
      refine wp_region_noPanic ?_
      refine wp_region_held_drew (S := fun W : World => W.cell? ⟨tb, 1, none⟩ = some (.int .i64 now1) ∧ W.cell? ⟨tb, 6, none⟩ = some (.pointer (some ⟨q, 0, none⟩))) (by kernel_rfl) hS0 (fun _ => ?_)
      refine wpAnyH_take (i := 0) (v := ?_) rfl (by kernel_rfl) (by kernel_rfl) (by kernel_rfl) (fun _ _ _ h => h) (yields_pure (by rfl) (fun w => ?_)) (by with_reducible assumption) ?_
      rotate_left
      · (go_simp <;> with_reducible rfl)
      try simp only [List.getElem_toArray, List.getElem_cons_succ, List.getElem_cons_zero, Act.put, List.setIfInBounds_toArray, List.set_cons_zero, List.set_cons_succ]
      refine wpAnyH_take (i := 1) (v := ?_) rfl (by kernel_rfl) (by kernel_rfl) (by kernel_rfl) (fun _ _ _ h => h) (yields_pure (by rfl) (fun w => ?_)) (by with_reducible assumption) ?_
      rotate_left
      · (go_simp <;> with_reducible rfl)
      try simp only [List.getElem_toArray, List.getElem_cons_succ, List.getElem_cons_zero, Act.put, List.setIfInBounds_toArray, List.set_cons_zero, List.set_cons_succ]
      refine wpAnyH_take (i := 2) (v := ?_) rfl (by kernel_rfl) (by kernel_rfl) (by kernel_rfl) (fun _ _ _ h => h) (yields_pure (by rfl) (fun w => ?_)) (by with_reducible assumption) ?_
      rotate_left
      · (go_simp <;> with_reducible rfl)
      try simp only [List.getElem_toArray, List.getElem_cons_succ, List.getElem_cons_zero, Act.put, List.setIfInBounds_toArray, List.set_cons_zero, List.set_cons_succ]
      refine wpAnyH_take (i := 3) rfl (by kernel_rfl) (by kernel_rfl) (by kernel_rfl) (fun _ _ _ h => h) (yields_cell (by rfl) 60 (.tmp 20) rfl tb 6 rfl (.pointer (some ⟨q, 0, none⟩)) _ HSQ Try.underlying60 rfl) (by with_reducible assumption) ?_
      try simp only [List.getElem_toArray, List.getElem_cons_succ, List.getElem_cons_zero, Act.put, List.setIfInBounds_toArray, List.set_cons_zero, List.set_cons_succ]
      refine wpAnyH_take (i := 4) (v := ?_) rfl (by kernel_rfl) (by kernel_rfl) (by kernel_rfl) (fun _ _ _ h => h) (yields_pure (by rfl) (fun w => ?_)) (by with_reducible assumption) ?_
      rotate_left
      · (go_simp <;> with_reducible rfl)
      try simp only [List.getElem_toArray, List.getElem_cons_succ, List.getElem_cons_zero, Act.put, List.setIfInBounds_toArray, List.set_cons_zero, List.set_cons_succ]
      refine wpAnyH_take (i := 5) (v := ?_) rfl (by kernel_rfl) (by kernel_rfl) (by kernel_rfl) (fun _ _ _ h => h) (yields_pure (by rfl) (fun w => ?_)) (by with_reducible assumption) ?_
      rotate_left
      · (go_simp <;> with_reducible rfl)
      try simp only [List.getElem_toArray, List.getElem_cons_succ, List.getElem_cons_zero, Act.put, List.setIfInBounds_toArray, List.set_cons_zero, List.set_cons_succ]
      refine wpAnyH_take (i := 6) (v := ?_) rfl (by kernel_rfl) (by kernel_rfl) (by kernel_rfl) (fun _ _ _ h => h) (yields_pure (by rfl) (fun w => ?_)) (by with_reducible assumption) ?_
      rotate_left
      · (go_simp <;> with_reducible rfl)
      try simp only [List.getElem_toArray, List.getElem_cons_succ, List.getElem_cons_zero, Act.put, List.setIfInBounds_toArray, List.set_cons_zero, List.set_cons_succ]
      refine wpAnyH_take (i := 7) rfl (by kernel_rfl) (by kernel_rfl) (by kernel_rfl) (fun _ _ _ h => h) (yields_cell (by rfl) 3 (.tmp 24) rfl tb 1 rfl (.int .i64 now1) _ HSN Try.underlying3 rfl) (by with_reducible assumption) ?_
      try simp only [List.getElem_toArray, List.getElem_cons_succ, List.getElem_cons_zero, Act.put, List.setIfInBounds_toArray, List.set_cons_zero, List.set_cons_succ]
      refine wpAnyH_ready (rs := [8]) (by kernel_rfl) (by simp) (AllReadyH.cons rfl (fun K hK => ?_) AllReadyH.nil)
      go_simp
      refine F2.out.mono ?_
      rintro e w2 ⟨rfl, hTu⟩
      obtain ⟨vs2, its2, hT2, hp2⟩ := HX.out.1.turn hTu
      have hS2 : (fun W : World => W.cell? ⟨tb, 1, none⟩ = some (.int .i64 now1) ∧ W.cell? ⟨tb, 6, none⟩ = some (.pointer (some ⟨q, 0, none⟩))) w2 := ⟨hT2.r.blk.cell 1, hT2.r.blk.cell 6⟩
      refine hK.out _ _ (by with_reducible assumption) (fun _ => ?_)
      clear hK K
      try simp only [List.getElem_toArray, List.getElem_cons_succ, List.getElem_cons_zero, Act.put, List.setIfInBounds_toArray, List.set_cons_zero, List.set_cons_succ]
      refine wpAnyH_take (i := 9) (v := ?_) rfl (by kernel_rfl) (by kernel_rfl) (by kernel_rfl) (fun _ _ _ h => h) (yields_pure (by rfl) (fun w => ?_)) (by with_reducible assumption) ?_
      rotate_left
      · (go_simp <;> with_reducible rfl)
      try simp only [List.getElem_toArray, List.getElem_cons_succ, List.getElem_cons_zero, Act.put, List.setIfInBounds_toArray, List.set_cons_zero, List.set_cons_succ]
      refine wpAnyH_take (i := 10) (v := ?_) rfl (by kernel_rfl) (by kernel_rfl) (by kernel_rfl) (fun _ _ _ h => h) (yields_pure (by rfl) (fun w => ?_)) (by with_reducible assumption) ?_
      rotate_left
      · (go_simp <;> with_reducible rfl)
      try simp only [List.getElem_toArray, List.getElem_cons_succ, List.getElem_cons_zero, Act.put, List.setIfInBounds_toArray, List.set_cons_zero, List.set_cons_succ]
      refine wpAnyH_take (i := 11) (v := ?_) rfl (by kernel_rfl) (by kernel_rfl) (by kernel_rfl) (fun _ _ _ h => h) (yields_pure (by rfl) (fun w => ?_)) (by with_reducible assumption) ?_
      rotate_left
      · (go_simp <;> with_reducible rfl)
      try simp only [List.getElem_toArray, List.getElem_cons_succ, List.getElem_cons_zero, Act.put, List.setIfInBounds_toArray, List.set_cons_zero, List.set_cons_succ]
      refine wpAnyH_take (i := 12) (v := ?_) rfl (by kernel_rfl) (by kernel_rfl) (by kernel_rfl) (fun _ _ _ h => h) (yields_pure (by rfl) (fun w => ?_)) (by with_reducible assumption) ?_
      rotate_left
      · (go_simp <;> with_reducible rfl)
      try simp only [List.getElem_toArray, List.getElem_cons_succ, List.getElem_cons_zero, Act.put, List.setIfInBounds_toArray, List.set_cons_zero, List.set_cons_succ]
      refine wpAnyH_take (i := 13) (v := ?_) rfl (by kernel_rfl) (by kernel_rfl) (by kernel_rfl) (fun _ _ _ h => h) (yields_pure (by rfl) (fun w => ?_)) (by with_reducible assumption) ?_
      rotate_left
      · (go_simp <;> with_reducible rfl)
      try simp only [List.getElem_toArray, List.getElem_cons_succ, List.getElem_cons_zero, Act.put, List.setIfInBounds_toArray, List.set_cons_zero, List.set_cons_succ]
      refine wpAnyH_done (by kernel_rfl) ?_ _
      refine NoPanic.normal ?_
      have HT2 := Lib.hid (And.intro hT2 hp2)
      have k5 : w2.cell? ⟨tb, 5, none⟩ = some (.map (some m3)) := hT2.r.blk.cell 5
      have hlk : (Instr.lookup 127 (.map (some m3)) (.int .i64 x.id) false).run Try.prog w2 = .ok p.1.fl.v w2 := by
        obtain ⟨s3, h3⟩ := hT2.r.of
        have := h3.look Try.underlying127 (zeroFl w2) (x := x.id) hkz
        rw [HMF.out] at this
        exact this
      clear F2 k1 k6 hS0 hS2 HSQ HSN hTu hT2 hp2
      generalize hff : p.1.fl = ff at *
      have hB : Blk (w2.alloc (.cells (arrF eN0.fl) 73)) w2.heap.size 73 (arrF eN0.fl) := Blk.new _ _ _
      have hA := (Chg.refl [] w2).alloc (.cells (arrF eN0.fl) 73)
      go_upto_region 9 with (first
        | (refine wpList_store_blk rfl 73 _ _ rfl rfl hB rfl rfl rfl (by kernel_rfl) (one_arrF ff) ?_; intro w5 hB5 hc5)
        | fail)
      have hc25 := hA.trans' hc5 (by intro y hy; simp at hy; subst hy; exact .inr (Nat.le_refl _))
      have hz25 := hc25.size
      generalize hg6 : w2.heap.size = g6 at *
      have HB5 := Lib.hid hB5
      have hT5 := HT2.out.1.chg0 hc25
      have HT5 := Lib.hid hT5
      have hcat := litFl w5 ff
      have hone : Hid (∀ u ∈ encF ff, u.oneCell' = true) := Lib.hid (encF_one ff)
      have hrow5 := own_chg hT5.own ((Chg.refl [] w5).alloc (.cells (arrF ff) 73)) (by simp)
      have hz5 := hT5.chg.size
      have hR5 := Lib.hid hB5.rangeQ
      clear hT5 hA hB hB5 hc5 hc25 hlk k5
      go_upto_region 10 with (first
        | (refine wpList_row 73 (.tmp 6) rfl rfl g6 0 rfl _ _ hR5.out Try.underlying73 rfl infF ?_)
        | (at_builtin; refine wpList_app elFl rfl (.tmp 39) (.tmp 41) rfl w.heap.size rfl hrow5 rfl hcat hone.out (by unfold maxLen; omega) (by omega) (by first | omega | (simp; omega)) ?_; intro v9 w9 hown9 hc9 hb9)
        | fail)
      have hT9 : TJC w w9 tb m1 m2 m3 q nn vs2 sq its2 ⟨n0, now1, last0, leftC l0 fs⟩ S v9 (fs ++ [ff]) := (HT5.out.chg0 ((Chg.refl [] w5).alloc (.cells (arrF ff) 73))).app (by rw [← flat_snoc, List.length_append]; exact hown9) hc9 hb9
      have HR9 : Hid (w9.rangeAt g6 0 (arrF ff).toList) := Lib.hid ((HB5.out.chg ((Chg.refl [] w5).alloc (.cells (arrF ff) 73)) (by simp)).chg hc9 (fun hm => by
        have := (own_lt HT2.out.1.own _ hm).2
        omega)).rangeQ
      have FD := cdrop_some hT9.r HX.out.2.2.2.2.2 (by omega) (by have := HT2.out.2.length_eq; simp at this; omega) HX.out.2.2.2.1
      rw [hff] at FD
      have FD := Lib.hid FD
      have HT9 := Lib.hid hT9
      clear hown9 hc9 hb9 hT9 hrow5 hcat hR5
      go_wp2_with (first
        | (refine wpList_row 73 (.tmp 6) rfl rfl g6 0 rfl _ _ HR9.out Try.underlying73 rfl infF ?_)
        | fail)
      refine FD.out.mono ?_
      rintro e w10 ⟨rfl, vs3, its3, hr3, hp3, hc3, hf3⟩
      have hT10 := HT9.out.move hr3 hc3 hf3
      have hd : dropC ⟨n0, now1, last0, leftC l0 fs⟩ p.1.fl = ⟨n0, now1, last0, leftC l0 (fs ++ [ff])⟩ := by
        unfold dropC
        rw [leftC_snoc, hff]
      rw [hd] at hT10
      have hpm10 := next_rest HX.out.2.2.2.2.2 HX.out.2.1 HT2.out.2 HX.out.2.2.2.1 HX.out.2.2.2.2.1 hp3
      simp only at hpm10
      rw [hff, leftC_snoc] at hpm10
      have HZ := Lib.hid (And.intro hT10 (And.intro hpm10 (show GoneF K ⟨n0, now0, last0, l0⟩ (fs ++ [ff]) from HX.out.2.2.1)))
      have HV9 := Lib.hid (lenC_own hT10.own)
      clear FD hr3 hp3 hc3 hf3 hT10 hpm10 hd
      go_wp2_with fail
      go_roundw
      case rel =>
        exact ⟨fs ++ [ff], vs3, its3, HZ⟩
      case measure =>
        have h1 := HV.out
        have h2 := HV9.out
        rw [List.length_append, List.length_singleton] at h2
        simp
        omega
end Go.Proofs.Ytgbdbeaflilmlaa
