/-
  WALKS over package health: Remove, Answer. Condition: as in the text before.
-/
import Derived.Test.YtgbdbeaflilmlaaHealthA2
set_option linter.unusedVariables false
set_option linter.unusedSimpArgs false
namespace Go.Proofs.Ytgbdbeaflilmlaa
open Go.RowKit Go.Maps

theorem CkTo.mk' {W w w' : World} {cb m q K' : Nat} {G' : Int → Nat} {nn' : Nat} {vs' : Value} {sq' : Int} {its' : List It} {c' : CK} {S : List Nat} (hcW : Chg [] W w) (hnew : ∀ x ∈ S, W.heap.size ≤ x) (hr : CkR w' cb m q G' nn' vs' sq' its' c') (hnn : nn' ≤ K') (hs0 : 0 ≤ sq') (hs1 : sq' ≤ K' * 400)
    (hci : CI K' c') (hc : Chg S w w') (hf : ∀ x ∈ footC cb m q vs' G' c'.l, x ∈ S ∨ w.heap.size ≤ x) : CkTo W w cb K' c' S w' :=
  ⟨_, ⟨⟨m, q, G', nn', vs', sq', its', hr, rfl, hnn, hs0, hs1⟩, hci, hcW.trans' hc (fun x hx => .inr (hnew x hx)), fun x hx => (hf x hx).elim (hnew x) (fun h => Nat.le_trans hcW.size h)⟩, hc, hf⟩
/-- 'delete' of a map as the walk meets it. -/
theorem wpList_delete_om {P : Program} {k e : TypeId} {κ : Type} [DecidableEq κ] {K : KV P k κ} {ops : Array Oper} {rest : List Oper} {o : Oper} {a : Act} {w : World} {Q : Exit → Act → World → Prop} {b n s : Nat} {M : κ → Option Value} (hg : o.guard = none) (m x : Operand) (t : TypeId)
    (hop : o.op = .call { callee := .builtin .delete, args := #[m, x], argTypes := #[t, k] }) (ht : P.underlying t = some (.map k e)) (hm : a.eval m = .map (some b)) (h : OM K w b n M s) (y : κ) (hy : K.ok y) (hx : a.eval x = K.val y)
    (hK : ∀ w', OM K w' b n (fun z => if z = y then none else M z) (if (M y).isSome then s - 1 else s) → Chg [b] w w' → wpList P ops Q rest (a.put o.dst (.tuple #[])) w') : wpList P ops Q (o :: rest) a w := by
  refine wpList_plain hg fun K' hK' => ?_
  obtain ⟨w', hr, h1, h2⟩ := h.del ht hy o.type
  unfold Oper.wp execOp
  simp only [hop, resolve, invoke, builtin, Sem.run_bind, Sem.run_pure, Result.andThen_ok, List.map_toArray, List.map_cons, List.map_nil, hm, hx, hr]
  exact hK' _ _ (hK w' h1 h2)

def delL (n : Int) (l : List BK) : List BK := l.filter fun b => !(b.node == n)
theorem mem_delL {n : Int} {l : List BK} {b : BK} : b ∈ delL n l ↔ b ∈ l ∧ b.node ≠ n := by simp [delL]
theorem nodes_delL {n y : Int} {l : List BK} : y ∈ nodesC (delL n l) ↔ y ∈ nodesC l ∧ y ≠ n := by
  unfold nodesC
  rw [List.mem_map, List.mem_map]
  constructor
  · rintro ⟨b, hb, rfl⟩
    exact ⟨⟨b, (mem_delL.1 hb).1, rfl⟩, (mem_delL.1 hb).2⟩
  · rintro ⟨⟨b, hb, rfl⟩, hn⟩
    exact ⟨b, mem_delL.2 ⟨hb, hn⟩, rfl⟩
theorem len_delL {n : Int} : ∀ {l : List BK}, (nodesC l).Nodup → n ∈ nodesC l → (delL n l).length = l.length - 1
  | [], _, h => by simp [nodesC] at h
  | b :: l, hd, h => by
    unfold nodesC at hd h
    rw [List.map_cons, List.nodup_cons] at hd
    by_cases e : b.node = n
    · have h1 : delL n l = l := List.filter_eq_self.2 (fun x hx => by
        have : x.node ≠ n := fun e2 => hd.1 (List.mem_map.2 ⟨x, hx, e2.trans e.symm⟩)
        simp [this])
      have h2 : delL n (b :: l) = delL n l := by simp [delL, e]
      rw [h2, h1]; rfl
    · have h2 : delL n (b :: l) = b :: delL n l := by simp [delL, e]
      have h3 : n ∈ nodesC l := by
        rw [List.map_cons, List.mem_cons] at h
        exact h.resolve_left (fun e2 => e e2.symm)
      have ih := len_delL hd.2 h3
      have hpos : 0 < l.length := by
        rcases Nat.eq_zero_or_pos l.length with h4 | h4
        · rw [List.eq_nil_of_length_eq_zero h4] at h3; simp [nodesC] at h3
        · exact h4
      rw [h2, List.length_cons, ih, List.length_cons]
      omega
theorem stay_pm {its : List It} {l : List BK} (h : (its.map fun x => (x.at_, x.id)).Perm (l.map fun b => (b.due, b.node))) (n : Int) : ((stayI n its).map fun x => (x.at_, x.id)).Perm ((delL n l).map fun b => (b.due, b.node)) := by
  have h1 := h.filter (fun p => !(p.2 == n))
  rw [List.filter_map, List.filter_map] at h1
  exact h1
theorem CkR.rem_fin {W w w2 w3 : World} {cb m q : Nat} {G : Int → Nat} {nn K : Nat} {vs : Value} {sq : Int} {its : List It} {c : CK} {S : List Nat} {n : Int} {s2 : Nat} (h : CkR w cb m q G nn vs sq its c) (hS : S = footC cb m q vs G c.l) (hnn : nn ≤ K) (hs0 : 0 ≤ sq) (hsq : sq ≤ K * 400)
    (hci : CI K c) (hcW : Chg [] W w) (hnew : ∀ x ∈ S, W.heap.size ≤ x) (hn : n ∈ nodesC c.l) (hom : OM KZ w2 m nn (fun z => if z = n then none else mB G c.l z) s2) (hs2 : s2 = c.l.length - 1) (hc2 : Chg [m] w w2)
    (hT : Turned w2 q vs sq (fun l' => l'.Perm (stayI n its)) w3) : CkTo W w cb (K + 1) (remC c n).1 S w3 := by
  obtain ⟨vs', its', hqr, hok, hp, hcq, hfq⟩ := hT
  have hrem : remC c n = (⟨c.now, delL n c.l⟩, true) := by unfold remC; rw [if_pos (inC_nodes.2 hn)]; rfl
  have hlt := h.lt
  have hml := hlt m (by simp [footC])
  have hcl := hlt cb (by simp [footC])
  have hz1 := hc2.size
  have key : ∀ {x : Nat}, x < w.heap.size → x ∉ footQ q vs → x ∉ footQ q vs' := fun {x} hx hn hm => (hfq x hm).elim hn (fun h3 => by omega)
  have hcall : Chg S w w3 := by
    subst hS
    exact (hc2.more (by simp [footC])).trans (hcq.more (fun x hx => by simp [footC]; exact .inr (.inr (.inl hx))))
  rw [hrem]
  refine CkTo.mk' (m := m) (q := q) (G' := G) (nn' := nn) (vs' := vs') (sq' := sq) (its' := its') hcW hnew ⟨?_, ?_, ?_, ⟨hqr, hok⟩, ?_, ?_, h.cm, key hcl h.cq, key hml h.mq, ?_⟩ (by omega) hs0 (by omega) ?_ hcall ?_
  · exact (h.blk.chg hc2 (by simpa using h.cm)).chg hcq h.cq
  · have e : mB G (delL n c.l) = fun z => if z = n then none else mB G c.l z := by
      funext z
      unfold mB
      by_cases hz : z = n
      · rw [if_neg (fun h3 => (nodes_delL.1 h3).2 hz), if_pos hz]
      · by_cases hz2 : z ∈ nodesC c.l
        · rw [if_pos (nodes_delL.2 ⟨hz2, hz⟩), if_neg hz, if_pos hz2]
        · rw [if_neg (fun h3 => hz2 (nodes_delL.1 h3).1), if_neg hz, if_neg hz2]
    show OM KZ w3 m nn (mB G (delL n c.l)) (delL n c.l).length
    rw [e, len_delL hci.nodup hn, ← hs2]
    exact hom.chg hcq h.mq
  · intro b hb
    have hb0 := (mem_delL.1 hb).1
    have hbn : b.node ∈ nodesC c.l := List.mem_map.2 ⟨b, hb0, rfl⟩
    obtain ⟨s1, s2, s3⟩ := h.sep _ hbn
    exact ((h.bk b hb0).chg hc2 (by simpa using s2)).chg hcq s3
  · exact (hp.map _).trans (stay_pm h.pm n)
  · exact fun a ha b hb e => h.inj a (nodes_delL.1 ha).1 b (nodes_delL.1 hb).1 e
  · intro y hy
    have hy0 := (nodes_delL.1 hy).1
    obtain ⟨s1, s2, s3⟩ := h.sep _ hy0
    exact ⟨s1, s2, key (hlt _ (by simp [footC]; exact .inr (.inr (.inr ⟨y, hy0, rfl⟩)))) s3⟩
  · have := (hci.rem n).mono (show K ≤ K + 1 by omega)
    rw [hrem] at this
    exact this
  · intro x hx
    simp only [footC, List.mem_cons, List.mem_append, List.mem_map] at hx
    subst hS
    rcases hx with rfl | rfl | hx | ⟨y, hy, rfl⟩
    · exact .inl (by simp [footC])
    · exact .inl (by simp [footC])
    · rcases hfq x hx with h3 | h3
      · exact .inl (by simp [footC]; exact .inr (.inr (.inl h3)))
      · exact .inr (by omega)
    · exact .inl (by simp [footC]; exact .inr (.inr (.inr ⟨y, (nodes_delL.1 hy).1, rfl⟩)))

set_option maxRecDepth 100000 in
set_option maxHeartbeats 1000000 in
theorem hrem_any {W w : World} {cb K : Nat} {c : CK} {S : List Nat} (h : CkS W w cb K c S) (hK : K ≤ 300) {n : Int} (hn : (Lit.int .i64 n).wf = true) :
    Calls Try.prog 20 #[.pointer (some ⟨cb, 0, none⟩), .int .i64 n] w fun e w' => e = .returned (.bool (remC c n).2) ∧ CkTo W w cb (K + 1) (remC c n).1 S w' := by
  have hS0 := Lib.hid h
  obtain ⟨⟨m, q, G, nn, vs, sq, its, hr, hfo, hnn, hs0, hs1⟩, hci, hcW, hnew⟩ := h
  by_cases hin : n ∈ nodesC c.l
  · have e1 : Hid ((remC c n).2 = true) := Lib.hid (by unfold remC; rw [if_pos (inC_nodes.2 hin)])
    have F1 := Lib.hid (hget_yes hr hn hin)
    have c1 : w.cell? ⟨cb, 1, none⟩ = some (.map (some m)) := hr.blk.cell 1
    have hom := hr.om
    have hil : its.length ≤ 2900 := by have := hr.its_len; have := hci.len; omega
    have F2 := Lib.hid (fun w2 (hc2 : Chg [m] w w2) => qrem_any (hr.qu.chg hc2 (fun x hx hm => by simp at hm; subst hm; exact hr.mq hx)) hil n)
    have HB := Lib.hid (fun w2 (hc2 : Chg [m] w w2) => (show w2.cell? ⟨cb, 2, none⟩ = some (.pointer (some ⟨q, 0, none⟩)) from (hr.blk.chg hc2 (by simpa using hr.cm)).cell 2))
    have hsm : (if (mB G c.l n).isSome = true then c.l.length - 1 else c.l.length) = c.l.length - 1 := by simp [mB, hin]
    have HF := Lib.hid (fun w2 w3 hom hc2 hT => hr.rem_fin (W := W) (w2 := w2) (w3 := w3) hfo hnn hs0 hs1 hci hcW hnew hin hom hsm hc2 hT)
    clear hr hci hcW hnew hfo hS0 hsm hin
    go_enter Try.func20, Try.ntmps20
    go_wp2_with fail
    refine F1.out.mono ?_
    rintro e w1 ⟨rfl, rfl⟩
    clear F1
    go_wp2_with (first
      | (refine wpList_delete_om (K := KZ) rfl (.tmp 18) (.tmp 19) 59 rfl Try.underlying59 rfl hom n hn rfl ?_; intro w2 hom2 hc2; have k2 := HB.out w2 hc2; have F3 := Lib.hid (F2.out w2 hc2))
      | fail)
    refine F3.out.mono ?_
    rintro e w3 ⟨⟨z, rfl⟩, hT⟩
    have HT := Lib.hid (HF.out w2 w3 hom2 hc2 hT)
    clear F3 hT HF F2 HB hom2 hc2 k2 hom c1
    go_wp2_with fail
    go_ret
    rw [e1.out]
    exact ⟨rfl, HT.out⟩
  · have e1 : Hid (remC c n = (c, false)) := Lib.hid (by unfold remC; rw [if_neg (fun h => hin (inC_nodes.1 h))])
    have F1 := Lib.hid (hget_no hr hn hin)
    clear hr hci hcW hnew hin hfo
    go_enter Try.func20, Try.ntmps20
    go_wp2_with fail
    refine F1.out.mono ?_
    rintro e w1 ⟨rfl, rfl⟩
    go_wp2_with fail
    go_ret
    rw [e1.out]
    exact ⟨rfl, hS0.out.same (by omega) (Chg.refl _ _)⟩

theorem setL_nodes {n : Int} {x : BK} (hx : x.node = n) (l : List BK) : nodesC (setL n x l) = nodesC l := by
  unfold nodesC setL
  rw [List.map_map]
  refine List.map_congr_left (fun b _ => ?_)
  by_cases e : b.node = n
  · simp [e, hx]
  · simp [e]
theorem mem_setL {n : Int} {x : BK} (hx : x.node = n) {l : List BK} {b : BK} (h : b ∈ setL n x l) : (b = x ∧ n ∈ nodesC l) ∨ (b ∈ l ∧ b.node ≠ n) := by
  obtain ⟨y, hy, e⟩ := List.mem_map.1 h
  by_cases e1 : y.node = n
  · simp [e1] at e
    exact .inl ⟨e.symm, List.mem_map.2 ⟨y, hy, e1⟩⟩
  · simp [e1] at e
    exact .inr (e ▸ ⟨hy, e1⟩)
theorem CkR.upd {w w' : World} {cb m q : Nat} {G : Int → Nat} {nn : Nat} {vs : Value} {sq : Int} {its : List It} {c : CK} {n : Int} {b x : BK} (h : CkR w cb m q G nn vs sq its c) (hg : getC c n = some b) (hd : (nodesC c.l).Nodup) (hx : x.node = n) (hxd : x.due = b.due) (hc : Chg [G n] w w') (hb : Blk w' (G n) 137 (arrK x)) :
    CkR w' cb m q G nn vs sq its ⟨c.now, setL n x c.l⟩ := by
  obtain ⟨hbl, hbn⟩ := getC_some hg
  have hn : n ∈ nodesC c.l := List.mem_map.2 ⟨b, hbl, hbn⟩
  obtain ⟨s1, s2, s3⟩ := h.sep n hn
  have hN := setL_nodes hx c.l
  have hS : ∀ y, y ∈ cb :: m :: footQ q vs → y ∉ [G n] := by
    intro y hy hm
    simp at hm; subst hm
    rcases List.mem_cons.1 hy with e | hy
    · exact s1 e
    · rcases List.mem_cons.1 hy with e | hy
      · exact s2 e
      · exact s3 hy
  refine ⟨h.blk.chg hc (hS cb (by simp)), ?_, ?_, h.qu.chg hc (fun y hy => hS y (by simp [hy])), ?_, ?_, h.cm, h.cq, h.mq, ?_⟩
  · have e : mB G (setL n x c.l) = mB G c.l := by funext y; unfold mB; rw [hN]
    show OM KZ w' m nn (mB G (setL n x c.l)) (setL n x c.l).length
    rw [e]
    have hl : (setL n x c.l).length = c.l.length := by unfold setL; rw [List.length_map]
    rw [hl]
    exact h.om.chg hc (hS m (by simp))
  · intro y hy
    rcases mem_setL hx hy with ⟨rfl, _⟩ | ⟨hy, hne⟩
    · rw [hx]; exact hb
    · refine (h.bk y hy).chg hc (fun hm => hne ?_)
      simp at hm
      exact h.inj _ (List.mem_map.2 ⟨y, hy, rfl⟩) _ hn hm
  · refine h.pm.trans (List.Perm.of_eq ?_)
    show _ = (setL n x c.l).map _
    unfold setL
    rw [List.map_map]
    refine List.map_congr_left (fun y hy => ?_)
    by_cases e : y.node = n
    · have : y = b := by
        obtain ⟨i, hi, rfl⟩ := List.mem_iff_getElem.1 hy
        obtain ⟨j, hj, rfl⟩ := List.mem_iff_getElem.1 hbl
        have : (nodesC c.l)[i]'(by simpa [nodesC] using hi) = (nodesC c.l)[j]'(by simpa [nodesC] using hj) := by simp [nodesC, e, hbn]
        have := (List.getElem_inj hd).1 this
        subst this; rfl
      subst this
      simp [e, hx, hxd]
    · simp [e]
  · intro a ha b' hb' e
    have ha' : a ∈ nodesC c.l := hN ▸ ha
    have hb2 : b' ∈ nodesC c.l := hN ▸ hb'
    exact h.inj a ha' b' hb2 e
  · intro y hy
    have hy' : y ∈ nodesC c.l := hN ▸ hy
    exact h.sep y hy'
end Go.Proofs.Ytgbdbeaflilmlaa
