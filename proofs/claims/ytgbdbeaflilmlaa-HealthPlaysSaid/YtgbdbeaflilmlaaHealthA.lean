/-
  WALKS over package health: a backend more, a backend less, one asked for. Condition: as in the text before.
-/
import Derived.Test.YtgbdbeaflilmlaaHealthW
set_option linter.unusedVariables false
set_option linter.unusedSimpArgs false
namespace Go.Proofs.Ytgbdbeaflilmlaa
open Go.RowKit Go.Maps

section
variable {w : World} {cb m q : Nat} {G : Int → Nat} {nn : Nat} {vs : Value} {sq : Int} {its : List It} {c : CK}
set_option maxHeartbeats 400000 in
theorem his_any (h : CkR w cb m q G nn vs sq its c) : Calls Try.prog 54 #[.pointer (some ⟨cb, 0, none⟩)] w fun e w' => e = .returned (.bool true) ∧ w = w' := by
  have c1 : w.cell? ⟨cb, 1, none⟩ = some (.map (some m)) := h.blk.cell 1
  have hn := fun w => run_neq_map_nil (P := Try.prog) w 59 _ _ (some m) Try.underlying59
  clear h
  go_enter Try.func54, Try.ntmps54
  go_wp2
  go_ret
  exact ⟨rfl, rfl⟩
theorem inC_nodes {n : Int} : inC c n = true ↔ n ∈ nodesC c.l := by rw [inC_iff]; unfold nodesC; rw [List.mem_map]
theorem zeroPB (w : World) : (zeroValue 131).run Try.prog w = .ok (.pointer none) w := by kernel_rfl
set_option maxHeartbeats 400000 in
theorem hget_any (h : CkR w cb m q G nn vs sq its c) {n : Int} (hn : (Lit.int .i64 n).wf = true) :
    Calls Try.prog 53 #[.pointer (some ⟨cb, 0, none⟩), .int .i64 n] w fun e w' => e = .returned (.tuple #[(mB G c.l n).getD (.pointer none), .bool (mB G c.l n).isSome]) ∧ w = w' := by
  have F1 := Lib.hid (his_any h)
  have c1 : w.cell? ⟨cb, 1, none⟩ = some (.map (some m)) := h.blk.cell 1
  have hk : (Instr.lookup 59 (.map (some m)) (.int .i64 n) true).run Try.prog w = .ok (.tuple #[(mB G c.l n).getD (.pointer none), .bool (mB G c.l n).isSome]) w := h.om.look2 Try.underlying59 (zeroPB w) (x := n) hn
  clear h
  generalize (mB G c.l n).getD (.pointer none) = v at *
  generalize (mB G c.l n).isSome = t at *
  go_enter Try.func53, Try.ntmps53
  go_wp2_with fail
  refine F1.out.mono ?_
  rintro e w1 ⟨rfl, rfl⟩
  go_wp2_with fail
  go_ret2
  exact ⟨rfl, rfl⟩
theorem hget_yes (h : CkR w cb m q G nn vs sq its c) {n : Int} (hw : (Lit.int .i64 n).wf = true) (hn : n ∈ nodesC c.l) :
    Calls Try.prog 53 #[.pointer (some ⟨cb, 0, none⟩), .int .i64 n] w fun e w' => e = .returned (.tuple #[.pointer (some ⟨G n, 0, none⟩), .bool true]) ∧ w = w' := by
  have := hget_any h hw
  simp only [mB, hn, if_true, Option.getD_some, Option.isSome_some] at this
  exact this
theorem hget_no (h : CkR w cb m q G nn vs sq its c) {n : Int} (hw : (Lit.int .i64 n).wf = true) (hn : n ∉ nodesC c.l) :
    Calls Try.prog 53 #[.pointer (some ⟨cb, 0, none⟩), .int .i64 n] w fun e w' => e = .returned (.tuple #[.pointer none, .bool false]) ∧ w = w' := by
  have := hget_any h hw
  simp only [mB, hn, if_false, Option.getD_none, Option.isSome_none] at this
  exact this
end

/-- One block more. -/
def putG (G : Int → Nat) (n : Int) (g : Nat) : Int → Nat := fun y => if y = n then g else G y
theorem putG_same (G : Int → Nat) (n : Int) (g : Nat) : putG G n g n = g := by simp [putG]
theorem putG_other (G : Int → Nat) {n y : Int} (g : Nat) (h : y ≠ n) : putG G n g y = G y := by simp [putG, h]
theorem nodes_insB {b : BK} {l : List BK} {n : Int} : n ∈ nodesC (insB b l) ↔ n = b.node ∨ n ∈ nodesC l := by
  unfold nodesC
  rw [List.mem_map, List.mem_map]
  constructor
  · rintro ⟨x, hx, rfl⟩
    rcases mem_insB.1 hx with rfl | hx
    · exact .inl rfl
    · exact .inr ⟨x, hx, rfl⟩
  · rintro (rfl | ⟨x, hx, rfl⟩)
    · exact ⟨b, mem_insB.2 (.inl rfl), rfl⟩
    · exact ⟨x, mem_insB.2 (.inr hx), rfl⟩
theorem nodes_bk0 {now n y : Int} {l : List BK} : y ∈ nodesC (insB (bk0 now n) l) ↔ n = y ∨ y ∈ nodesC l := (nodes_insB (b := bk0 now n)).trans (or_congr_left eq_comm)
/-- What there is behind an Add. -/
theorem CkR.add_fin {W w w2 w3 : World} {cb m q : Nat} {G : Int → Nat} {nn K : Nat} {vs : Value} {sq : Int} {its : List It} {c : CK} {S : List Nat} {n : Int} {s2 : Nat} (h : CkR w cb m q G nn vs sq its c) (hS : S = footC cb m q vs G c.l) (hnn : nn ≤ K) (hs0 : 0 ≤ sq) (hsq : sq ≤ K * 400)
    (hci : CI K c) (hcW : Chg [] W w) (hnew : ∀ x ∈ S, W.heap.size ≤ x) (hn : n ∉ nodesC c.l) (h1 : 1 ≤ n) (h2 : n ≤ 65535)
    (hom : OM KZ w2 m (nn + 1) (fun y => if y = n then some (.pointer (some ⟨w.heap.size, 0, none⟩)) else mB G c.l y) s2) (hs2 : s2 = c.l.length + 1) (hc2 : Chg [m] (w.alloc (.cells (arrK (bk0 c.now n)) 137)) w2)
    (hT : Turned w2.drew q vs (sq + 1) (fun l' => l'.Perm (⟨c.now + 1, n, sq + 1⟩ :: its)) w3) : CkTo W w cb (K + 1) (addC c n).1 S w3 := by
  obtain ⟨vs', its', hqr, hok, hp, hcq, hfq⟩ := hT
  have hadd : addC c n = (⟨c.now, insB (bk0 c.now n) c.l⟩, true) := by
    unfold addC
    rw [if_neg]
    rintro (h3 | h3 | h3)
    · omega
    · omega
    · exact hn (inC_nodes.1 h3)
  have hlt := h.lt
  have hml := hlt m (by simp [footC])
  have hcl := hlt cb (by simp [footC])
  have hz1 : w.heap.size + 1 ≤ w2.heap.size := by have := hc2.size; simpa using this
  have hg : w.heap.size ∉ footQ q vs := fun hx => by have := h.qu.r.lt _ hx; omega
  have hA := (Chg.refl [] w).alloc (.cells (arrK (bk0 c.now n)) 137)
  have key : ∀ {x : Nat}, x < w.heap.size → x ∉ footQ q vs → x ∉ footQ q vs' := fun {x} hx hn hm => (hfq x hm).elim hn (fun h3 => by have : w2.heap.size ≤ x := h3; omega)
  have hGn : ∀ y ∈ nodesC c.l, putG G n w.heap.size y = G y := fun y hy => putG_other G _ (fun e => hn (e ▸ hy))
  have hGlt : ∀ y ∈ nodesC c.l, G y < w.heap.size := fun y hy => hlt _ (by simp [footC]; exact .inr (.inr (.inr ⟨y, hy, rfl⟩)))
  have hcall : Chg S w w3 := by
    subst hS
    exact ((hA.more (by simp)).trans (hc2.more (by simp [footC]))).trans ((Chg.refl _ w2).drew.trans (hcq.more (fun x hx => by simp [footC]; exact .inr (.inr (.inl hx)))))
  have hSw : ∀ x ∈ S, x < w.heap.size := by subst hS; exact hlt
  rw [hadd]
  refine ⟨footC cb m q vs' (putG G n w.heap.size) (insB (bk0 c.now n) c.l), ⟨⟨m, q, _, nn + 1, vs', sq + 1, its', ⟨?_, ?_, ?_, ⟨hqr, hok⟩, ?_, ?_, h.cm, key hcl h.cq, key hml h.mq, ?_⟩, rfl, by omega, by omega, by omega⟩, ?_, ?_, ?_⟩, hcall, ?_⟩
  · exact (((h.blk.alloc _).chg hc2 (by simpa using h.cm)).drew).chg hcq h.cq
  · have e : mB (putG G n w.heap.size) (insB (bk0 c.now n) c.l) = fun y => if y = n then some (.pointer (some ⟨w.heap.size, 0, none⟩)) else mB G c.l y := by
      funext y
      unfold mB
      by_cases hy : y = n
      · rw [hy, if_pos (nodes_bk0.2 (.inl rfl)), if_pos rfl, putG_same]
      · rw [if_neg hy]
        by_cases hy2 : y ∈ nodesC c.l
        · rw [if_pos (nodes_bk0.2 (.inr hy2)), if_pos hy2, putG_other G _ hy]
        · rw [if_neg (fun h3 => (nodes_bk0.1 h3).elim (fun e => hy e.symm) hy2), if_neg hy2]
    show OM KZ w3 m (nn + 1) (mB _ (insB (bk0 c.now n) c.l)) (insB (bk0 c.now n) c.l).length
    rw [e, len_insB, ← hs2]
    exact (hom.chg0 (Chg.refl _ _).drew).chg hcq h.mq
  · intro b hb
    rcases mem_insB.1 hb with rfl | hb
    · show Blk w3 (putG G n w.heap.size n) _ _
      rw [putG_same]
      exact (((Blk.new w 137 (arrK (bk0 c.now n))).chg hc2 (by simp; omega)).drew).chg hcq hg
    · have hbn : b.node ∈ nodesC c.l := List.mem_map.2 ⟨b, hb, rfl⟩
      show Blk w3 (putG G n w.heap.size b.node) _ _
      rw [hGn _ hbn]
      obtain ⟨s1, s2, s3⟩ := h.sep _ hbn
      exact ((((h.bk b hb).alloc _).chg hc2 (by simpa using s2)).drew).chg hcq s3
  · refine (hp.map _).trans ?_
    have := ((insB_perm (bk0 c.now n) c.l).map fun b => (b.due, b.node)).symm
    refine List.Perm.trans ?_ this
    simp only [List.map_cons]
    exact (List.Perm.cons _ h.pm)
  · intro a ha b hb e
    rcases nodes_bk0.1 ha with rfl | ha
    · rcases nodes_bk0.1 hb with rfl | hb
      · rfl
      · have e2 : putG G n w.heap.size n = putG G n w.heap.size b := e
        rw [putG_same, hGn b hb] at e2
        have := hGlt b hb
        omega
    · rcases nodes_bk0.1 hb with rfl | hb
      · have e2 : putG G n w.heap.size a = putG G n w.heap.size n := e
        rw [putG_same, hGn a ha] at e2
        have := hGlt a ha
        omega
      · rw [hGn a ha, hGn b hb] at e
        exact h.inj a ha b hb e
  · intro y hy
    rcases nodes_bk0.1 hy with rfl | hy
    · show putG G n w.heap.size n ≠ cb ∧ putG G n w.heap.size n ≠ m ∧ putG G n w.heap.size n ∉ footQ q vs'
      rw [putG_same]
      refine ⟨by omega, by omega, fun hx => (hfq _ hx).elim hg (fun h3 => by have : w2.heap.size ≤ w.heap.size := h3; omega)⟩
    · rw [hGn y hy]
      obtain ⟨s1, s2, s3⟩ := h.sep _ hy
      exact ⟨s1, s2, key (hGlt y hy) s3⟩
  · have := hci.add n
    rw [hadd] at this
    exact this
  · exact hcW.trans' hcall (fun x hx => .inr (hnew x hx))
  · intro x hx
    have hWw := hcW.size
    simp only [footC, List.mem_cons, List.mem_append, List.mem_map] at hx
    subst hS
    rcases hx with rfl | rfl | hx | ⟨y, hy, rfl⟩
    · exact hnew _ (by simp [footC])
    · exact hnew _ (by simp [footC])
    · rcases hfq x hx with h3 | h3
      · exact hnew _ (by simp [footC]; exact .inr (.inr (.inl h3)))
      · have : w2.heap.size ≤ x := h3
        omega
    · rcases nodes_bk0.1 hy with rfl | hy
      · show W.heap.size ≤ putG G n w.heap.size n
        rw [putG_same]; exact hWw
      · rw [hGn y hy]
        exact hnew _ (by simp [footC]; exact .inr (.inr (.inr ⟨y, hy, rfl⟩)))
  · intro x hx
    simp only [footC, List.mem_cons, List.mem_append, List.mem_map] at hx
    subst hS
    rcases hx with rfl | rfl | hx | ⟨y, hy, rfl⟩
    · exact .inl (by simp [footC])
    · exact .inl (by simp [footC])
    · rcases hfq x hx with h3 | h3
      · exact .inl (by simp [footC]; exact .inr (.inr (.inl h3)))
      · have : w2.heap.size ≤ x := h3
        exact .inr (by omega)
    · rcases nodes_bk0.1 hy with rfl | hy
      · show putG G n w.heap.size n ∈ _ ∨ w.heap.size ≤ putG G n w.heap.size n
        rw [putG_same]; exact .inr (Nat.le_refl _)
      · rw [hGn y hy]
        exact .inl (by simp [footC]; exact .inr (.inr (.inr ⟨y, hy, rfl⟩)))
end Go.Proofs.Ytgbdbeaflilmlaa
