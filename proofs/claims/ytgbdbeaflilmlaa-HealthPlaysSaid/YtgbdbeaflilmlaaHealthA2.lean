/-
  WALKS over package health: Add, Up. Condition: as in the text before.
-/
import Derived.Test.YtgbdbeaflilmlaaHealthA
set_option linter.unusedVariables false
set_option linter.unusedSimpArgs false
namespace Go.Proofs.Ytgbdbeaflilmlaa
open Go.RowKit Go.Maps

theorem CkS.mono {W w : World} {cb K K' : Nat} {c : CK} {S : List Nat} (h : CkS W w cb K c S) (hK : K ≤ K') : CkS W w cb K' c S := by
  obtain ⟨⟨m, q, G, nn, vs, sq, its, h1, h2, h3, h4, h5⟩, h6, h7, h8⟩ := h
  exact ⟨⟨m, q, G, nn, vs, sq, its, h1, h2, by omega, h4, by omega⟩, h6.mono hK, h7, h8⟩
theorem CkS.same {W w w' : World} {cb K K' : Nat} {c : CK} {S : List Nat} (h : CkS W w cb K c S) (hK : K ≤ K') (hc : Chg [] w w') : CkTo W w cb K' c S w' := ⟨S, (h.mono hK).chg0 hc, hc.more (by simp), fun _ hx => .inl hx⟩
theorem addC_no {c : CK} {n : Int} (h : n < 1 ∨ 65535 < n ∨ n ∈ nodesC c.l) : addC c n = (c, false) := by
  unfold addC
  rw [if_pos (h.imp id (fun h => h.imp id inC_nodes.2))]
theorem addC_yes {c : CK} {n : Int} (h1 : 1 ≤ n) (h2 : n ≤ 65535) (h3 : n ∉ nodesC c.l) : (addC c n).2 = true := by
  unfold addC
  rw [if_neg]
  rintro (h | h | h)
  · omega
  · omega
  · exact h3 (inC_nodes.1 h)

set_option maxRecDepth 100000 in
set_option maxHeartbeats 1000000 in
theorem hadd_any {W w : World} {cb K : Nat} {c : CK} {S : List Nat} (h : CkS W w cb K c S) (hK : K ≤ 300) {n : Int} (hn : (Lit.int .i64 n).wf = true) :
    Calls Try.prog 13 #[.pointer (some ⟨cb, 0, none⟩), .int .i64 n] w fun e w' => e = .returned (.bool (addC c n).2) ∧ CkTo W w cb (K + 1) (addC c n).1 S w' := by
  have hS0 := Lib.hid h
  obtain ⟨⟨m, q, G, nn, vs, sq, its, hr, hfo, hnn, hs0, hs1⟩, hci, hcW, hnew⟩ := h
  by_cases hin : n ∈ nodesC c.l
  · have e1 := Lib.hid (addC_no (.inr (.inr hin)))
    have F1 := Lib.hid (hget_yes hr hn hin)
    clear hr hci hcW hnew hin hfo
    go_enter Try.func13, Try.ntmps13
    go_wp2_with fail
    refine F1.out.mono ?_
    rintro e w1 ⟨rfl, rfl⟩
    go_wp2_with fail
    go_ret
    rw [e1.out]
    exact ⟨rfl, hS0.out.same (by omega) (Chg.refl _ _)⟩
  · have F1 := Lib.hid (hget_no hr hn hin)
    have F2 := Lib.hid (his_any hr)
    by_cases h1 : n < 1
    · have e1 := Lib.hid (addC_no (c := c) (.inl h1))
      clear hr hci hcW hnew hin hfo
      go_enter Try.func13, Try.ntmps13
      go_wp2_with fail
      refine F1.out.mono ?_
      rintro e w1 ⟨rfl, rfl⟩
      go_wp2_with fail
      refine F2.out.mono ?_
      rintro e w1 ⟨rfl, rfl⟩
      go_wp2_with fail
      go_ret
      rw [e1.out]
      exact ⟨rfl, hS0.out.same (by omega) (Chg.refl _ _)⟩
    · by_cases h2 : 65535 < n
      · have e1 := Lib.hid (addC_no (c := c) (.inr (.inl h2)))
        clear hr hci hcW hnew hin hfo
        go_enter Try.func13, Try.ntmps13
        go_wp2_with fail
        refine F1.out.mono ?_
        rintro e w1 ⟨rfl, rfl⟩
        go_wp2_with fail
        refine F2.out.mono ?_
        rintro e w1 ⟨rfl, rfl⟩
        go_wp2_with fail
        go_ret
        rw [e1.out]
        exact ⟨rfl, hS0.out.same (by omega) (Chg.refl _ _)⟩
      · have e1 := Lib.hid (addC_yes (c := c) (by omega) (by omega) hin)
        have hA := (Chg.refl [] w).alloc (.cells (arrK (bk0 c.now n)) 137)
        obtain ⟨w2, hput, hom, hc2⟩ := (hr.om.chg0 hA).put (t := 59) (e := 131) Try.underlying59 (by unfold maxLen; omega) (x := n) hn (.pointer (some ⟨w.heap.size, 0, none⟩))
        have hput' : (Instr.mapUpdate 59 (.map (some m)) (.int .i64 n) (.pointer (some ⟨w.heap.size, 0, none⟩))).run Try.prog (w.alloc (.cells #[.int .i64 0, .int .i64 0, .bool true, .bool false, .int .i64 0] 137)) = .ok () w2 := hput
        have hs2 : (if (mB G c.l n).isSome = true then c.l.length else c.l.length + 1) = c.l.length + 1 := by simp [mB, hin]
        have hB2 := (hr.blk.chg hA (by simp)).chg hc2 (by simpa using hr.cm)
        have hc0 : w.cell? ⟨cb, 1, none⟩ = some (.map (some m)) := hr.blk.cell 1
        have k0 : w2.cell? ⟨cb, 0, none⟩ = some (.int .i64 c.now) := hB2.cell 0
        have k2 : w2.cell? ⟨cb, 2, none⟩ = some (.pointer (some ⟨q, 0, none⟩)) := hB2.cell 2
        have hqu := (((hr.qu.chg0 hA).chg hc2 (fun x hx hm => by simp at hm; subst hm; exact hr.mq hx)).chg0 (Chg.refl [] w2).drew)
        have hil : its.length ≤ 2900 := by have := hr.its_len; have := hci.len; omega
        have hsq : sq ≤ 1000000 := by omega
        have F3 := Lib.hid (qadd_any hqu hil hs0 hsq (c.now + 1) n)
        have hn0 := hci.now0
        have hnK : c.now ≤ 300 := by have := hci.nowK; omega
        have HF := Lib.hid (fun w3 hT => hr.add_fin hfo hnn hs0 hs1 hci hcW hnew hin (by omega) (by omega) hom hs2 hc2 (w3 := w3) hT)
        clear hr hci hcW hnew hin hfo hput hom hc2 hB2 hqu hA hS0 hs2
        go_enter Try.func13, Try.ntmps13
        go_wp2_with fail
        refine F1.out.mono ?_
        rintro e w1 ⟨rfl, rfl⟩
        clear F1
        go_wp2_with fail
        refine F2.out.mono ?_
        rintro e w1 ⟨rfl, rfl⟩
        clear F2
        go_wp2_with fail
        go_still_tail 10, (by kernel_rfl)
        change wpList _ _ _ _ _ w2.drew
        clear k0 k2 hput' hc0
        go_wp2_with fail
        refine F3.out.mono ?_
        rintro e w3 ⟨rfl, hT⟩
        have HT := Lib.hid (HF.out w3 hT)
        clear F3 hT HF
        go_wp2_with fail
        go_ret
        rw [e1.out]
        exact ⟨rfl, HT.out⟩

/-- The backend that is asked for. -/
theorem CkR.at_ {w : World} {cb m q : Nat} {G : Int → Nat} {nn : Nat} {vs : Value} {sq : Int} {its : List It} {c : CK} (h : CkR w cb m q G nn vs sq its c) {n : Int} {b : BK} (hb : getC c n = some b) : n ∈ nodesC c.l ∧ Blk w (G n) 137 (arrK b) := by
  obtain ⟨h1, h2⟩ := getC_some hb
  refine ⟨List.mem_map.2 ⟨b, h1, h2⟩, ?_⟩
  have := h.bk b h1
  rwa [h2] at this
theorem getC_nodes {c : CK} {n : Int} (h : getC c n = none) : n ∉ nodesC c.l := fun hm => by
  have h1 := getC_none h
  rw [inC_nodes.2 hm] at h1
  cases h1
set_option maxHeartbeats 1000000 in
theorem hup_any {W w : World} {cb K : Nat} {c : CK} {S : List Nat} (h : CkS W w cb K c S) {n : Int} (hn : (Lit.int .i64 n).wf = true) :
    Calls Try.prog 16 #[.pointer (some ⟨cb, 0, none⟩), .int .i64 n] w fun e w' => e = .returned (.bool (upC c n)) ∧ w = w' := by
  obtain ⟨⟨m, q, G, nn, vs, sq, its, hr, hfo, hnn, hs0, hs1⟩, hci, hcW, hnew⟩ := h
  cases hg : getC c n with
  | none =>
    have e1 : Hid (upC c n = false) := Lib.hid (by simp [upC, hg])
    have F1 := Lib.hid (hget_no hr hn (getC_nodes hg))
    clear hr hci hcW hnew hfo hg
    go_enter Try.func16, Try.ntmps16
    go_wp2_with fail
    refine F1.out.mono ?_
    rintro e w1 ⟨rfl, rfl⟩
    go_wp2_with fail
    go_ret
    rw [e1.out]
    exact ⟨rfl, rfl⟩
  | some b =>
    have e1 : Hid (upC c n = b.up) := Lib.hid (by simp [upC, hg])
    obtain ⟨h1, h2⟩ := hr.at_ hg
    have F1 := Lib.hid (hget_yes hr hn h1)
    have k2 : w.cell? ⟨G n, 2, none⟩ = some (.bool b.up) := h2.cell 2
    clear hr hci hcW hnew hfo hg h1 h2
    go_enter Try.func16, Try.ntmps16
    go_wp2_with fail
    refine F1.out.mono ?_
    rintro e w1 ⟨rfl, rfl⟩
    go_wp2_with fail
    go_ret
    rw [e1.out]
    exact ⟨rfl, rfl⟩
end Go.Proofs.Ytgbdbeaflilmlaa
