/-
  WALKS over package health: Answer. Condition: as in the text before.
-/
import Derived.Test.YtgbdbeaflilmlaaHealthR
set_option linter.unusedVariables false
set_option linter.unusedSimpArgs false
namespace Go.Proofs.Ytgbdbeaflilmlaa
open Go.RowKit Go.Maps

theorem infCh {a : Int} {u : Bool} : (Try.prog.info? 34).map (·.size) = some (#[Value.int .i64 a, .bool u] : Array Value).size := by
  show _ = some 2
  kernel_rfl
/-- What Answer hands back. -/
def ansV (c : CK) (n s : Int) : Value := .tuple #[.agg #[.int .i64 (if (ansC c n s).2.1 = true then n else 0), .bool (ansC c n s).2.1], .bool (ansC c n s).2.2]
set_option maxRecDepth 100000 in
set_option maxHeartbeats 1000000 in
theorem hans_any {W w : World} {cb K : Nat} {c : CK} {S : List Nat} (h : CkS W w cb K c S) (hK : K ≤ 300) {n : Int} (hn : (Lit.int .i64 n).wf = true) (s : Int) :
    Calls Try.prog 15 #[.pointer (some ⟨cb, 0, none⟩), .int .i64 n, .int .i64 s] w fun e w' => e = .returned (ansV c n s) ∧ CkTo W w cb (K + 1) (ansC c n s).1 S w' := by
  have hS0 := Lib.hid h
  have hA := (Chg.refl [] w).alloc (.cells #[.int .i64 0, .bool false] 34)
  have hB : Blk (w.alloc (.cells #[.int .i64 0, .bool false] 34)) w.heap.size 34 #[.int .i64 0, .bool false] := Blk.new _ _ _
  obtain ⟨⟨m, q, G, nn, vs, sq, its, hr, hfo, hnn, hs0, hs1⟩, hci, hcW, hnew⟩ := h
  have HAn : Hid (∀ v, ansC c n s = v → ansV c n s = .tuple #[.agg #[.int .i64 (if v.2.1 = true then n else 0), .bool v.2.1], .bool v.2.2]) := Lib.hid fun v e => by unfold ansV; rw [e]
  have HA := Lib.hid hA
  have HB := Lib.hid hB
  cases hg : getC c n with
  | none =>
    have e1 : Hid (ansC c n s = (c, false, false)) := Lib.hid (by simp [ansC, hg])
    have F1 := Lib.hid (hget_no (hr.chg0 hA) hn (getC_nodes hg))
    clear hr hci hcW hnew hfo hg hA
    go_enter Try.func15, Try.ntmps15
    go_wp2_with fail
    refine F1.out.mono ?_
    rintro e w1 ⟨rfl, rfl⟩
    go_wp2_with (first
      | (refine wpList_store_blk rfl 34 _ _ rfl rfl hB rfl rfl rfl (by kernel_rfl) rfl ?_; intro w5 hB5 hc5)
      | fail)
    refine bodyPost_ret (results_blk2 rfl rfl hB5 _ Try.underlying34 rfl (by kernel_rfl)) rfl ⟨?_, ?_⟩
    · rw [HAn.out _ e1.out]; rfl
    · rw [e1.out]; exact hS0.out.same (by omega) (HA.out.trans' hc5 (by simp))
  | some b =>
    obtain ⟨hin, hbk⟩ := hr.at_ hg
    have F1 := Lib.hid (hget_yes (hr.chg0 hA) hn hin)
    have hbA := hbk.chg hA (by simp)
    have k3 : (w.alloc (.cells #[.int .i64 0, .bool false] 34)).cell? ⟨G n, 3, none⟩ = some (.bool b.opn) := hbA.cell 3
    have k4 : (w.alloc (.cells #[.int .i64 0, .bool false] 34)).cell? ⟨G n, 4, none⟩ = some (.int .i64 b.seq) := hbA.cell 4
    by_cases hos : b.opn = true ∧ b.seq = s
    · have hbok := hci.ok b (getC_some hg).1
      have F2 := Lib.hid (heard_any b hbA (by omega) (by omega))
      obtain ⟨ho, hs⟩ := hos
      have e1 : Hid (ansC c n s = (⟨c.now, setL n (heardB b).1 c.l⟩, (heardB b).2, true)) := Lib.hid (by simp [ansC, hg, ho, hs])
      have hb1 : (b.seq != s) = false := by simp [hs]
      have hGl := hr.lt (G n) (by simp [footC]; exact .inr (.inr (.inr ⟨n, hin, rfl⟩)))
      have HF : Hid (∀ w', Chg [G n] (w.alloc (.cells #[.int .i64 0, .bool false] 34)) w' → Blk w' (G n) 137 (arrK (heardB b).1) → ∀ w5, Chg [w.heap.size] w' w5 → CkTo W w cb (K + 1) ⟨c.now, setL n (heardB b).1 c.l⟩ S w5) := Lib.hid fun w' hc hb w5 hc5 => by
        obtain ⟨k1, k2, k3, _⟩ := heardB_keep b
        have hnode : (heardB b).1.node = n := k1.trans (getC_some hg).2
        have hr2 := (hr.chg0 hA).upd hg hci.nodup hnode k3 hc hb
        have hfoot : footC cb m q vs G (setL n (heardB b).1 c.l) = S := by unfold footC; rw [setL_nodes hnode]; exact hfo.symm
        have hlt := hr.lt
        have hsz : w.heap.size ∉ S := fun hm => by rw [hfo] at hm; have := hlt _ hm; omega
        have hr3 := hr2.chg hc5 (by intro x hx hm; simp at hm; subst hm; exact hsz (hfoot ▸ hx))
        have hin2 : G n ∈ S := by rw [hfo]; simp [footC]; exact .inr (.inr (.inr ⟨n, hin, rfl⟩))
        have hcall : Chg S w w5 := ((hA.more (by simp)).trans (hc.more (by intro x hx; simp at hx; subst hx; exact hin2))).trans' hc5 (fun x hx => by simp at hx; subst hx; exact .inr (Nat.le_refl _))
        have hci2 := hci.ans n s
        rw [e1.out] at hci2
        exact CkTo.mk' hcW hnew hr3 (by omega) hs0 (by omega) hci2 hcall (fun x hx => .inl (hfoot ▸ hx))
      have hgs : G n ≠ w.heap.size := by omega
      clear hr hci hcW hnew hfo hg hA hbk hbA hin hbok hs hGl
      rw [ho] at k3
      clear ho
      cases hv : (heardB b).2 with
      | true =>
        rw [hv] at F2
        have HV := Lib.hid hv
        clear hv
        go_enter Try.func15, Try.ntmps15
        go_wp2_with fail
        refine F1.out.mono ?_
        rintro e w1 ⟨rfl, rfl⟩
        clear F1
        go_wp2_with fail
        refine F2.out.mono ?_
        rintro e w2 ⟨rfl, hb2, hc2⟩
        have hB2 := HB.out.chg hc2 (by simpa using hgs.symm)
        have H2 := Lib.hid (And.intro hb2 hc2)
        clear F2 hb2 hc2 hB k3 k4
        go_wp2_with (first
          | (refine wpList_store_blk rfl 34 _ _ rfl rfl hB2 rfl rfl rfl (by kernel_rfl) rfl ?_; intro w5 hB5 hc5)
          | fail)
        refine bodyPost_ret (results_blk2 rfl rfl hB5 _ Try.underlying34 rfl (by kernel_rfl)) rfl ⟨?_, ?_⟩
        · rw [HAn.out _ e1.out, HV.out]; rfl
        · rw [e1.out]; exact HF.out w2 H2.out.2 H2.out.1 w5 hc5
      | false =>
        rw [hv] at F2
        have HV := Lib.hid hv
        clear hv
        go_enter Try.func15, Try.ntmps15
        go_wp2_with fail
        refine F1.out.mono ?_
        rintro e w1 ⟨rfl, rfl⟩
        clear F1
        go_wp2_with fail
        refine F2.out.mono ?_
        rintro e w2 ⟨rfl, hb2, hc2⟩
        have hB2 := HB.out.chg hc2 (by simpa using hgs.symm)
        have H2 := Lib.hid (And.intro hb2 hc2)
        clear F2 hb2 hc2 hB k3 k4
        go_wp2_with (first
          | (refine wpList_store_blk rfl 34 _ _ rfl rfl hB2 rfl rfl rfl (by kernel_rfl) rfl ?_; intro w5 hB5 hc5)
          | fail)
        refine bodyPost_ret (results_blk2 rfl rfl hB5 _ Try.underlying34 rfl (by kernel_rfl)) rfl ⟨?_, ?_⟩
        · rw [HAn.out _ e1.out, HV.out]; rfl
        · rw [e1.out]; exact HF.out w2 H2.out.2 H2.out.1 w5 hc5
    · have e1 : Hid (ansC c n s = (c, false, false)) := Lib.hid (by simp only [ansC, hg]; rw [if_neg hos])
      cases ho : b.opn with
      | false =>
        rw [ho] at k3
        clear hr hci hcW hnew hfo hg hA hbk hbA hin hos ho
        go_enter Try.func15, Try.ntmps15
        go_wp2_with fail
        refine F1.out.mono ?_
        rintro e w1 ⟨rfl, rfl⟩
        go_wp2_with (first
          | (refine wpList_store_blk rfl 34 _ _ rfl rfl hB rfl rfl rfl (by kernel_rfl) rfl ?_; intro w5 hB5 hc5)
          | fail)
        refine bodyPost_ret (results_blk2 rfl rfl hB5 _ Try.underlying34 rfl (by kernel_rfl)) rfl ⟨?_, ?_⟩
        · rw [HAn.out _ e1.out]; rfl
        · rw [e1.out]; exact hS0.out.same (by omega) (HA.out.trans' hc5 (by simp))
      | true =>
        rw [ho] at k3
        have hb1 : (b.seq != s) = true := by
          simp only [bne_iff_ne, ne_eq]
          intro e; exact hos ⟨ho, e⟩
        clear hr hci hcW hnew hfo hg hA hbk hbA hin hos ho
        go_enter Try.func15, Try.ntmps15
        go_wp2_with fail
        refine F1.out.mono ?_
        rintro e w1 ⟨rfl, rfl⟩
        go_wp2_with (first
          | (refine wpList_store_blk rfl 34 _ _ rfl rfl hB rfl rfl rfl (by kernel_rfl) rfl ?_; intro w5 hB5 hc5)
          | fail)
        refine bodyPost_ret (results_blk2 rfl rfl hB5 _ Try.underlying34 rfl (by kernel_rfl)) rfl ⟨?_, ?_⟩
        · rw [HAn.out _ e1.out]; rfl
        · rw [e1.out]; exact hS0.out.same (by omega) (HA.out.trans' hc5 (by simp))
end Go.Proofs.Ytgbdbeaflilmlaa
