/-
  PLAIN and MEMORY: one probe of a tick; the checker in memory, whatever its queue holds. Condition: as in the text before.
-/
import Derived.Test.YtgbdbeaflilmlaaHealthN
set_option linter.unusedVariables false
set_option linter.unusedSimpArgs false
namespace Go.Proofs.Ytgbdbeaflilmlaa
open Go.RowKit Go.Maps

/-- Each of A is none of B. -/
def Apart (A B : List Nat) : Prop := ∀ x ∈ A, x ∉ B
theorem Apart.grow {A A' B : List Nat} {n : Nat} (h : Apart A B) (hA : ∀ x ∈ A', x ∈ A ∨ n ≤ x) (hB : ∀ x ∈ B, x < n) : Apart A' B := fun x hx hb => by
  rcases hA x hx with h1 | h1
  · exact h x h1 hb
  · have := hB x hb; omega
theorem Apart.symm {A B : List Nat} (h : Apart A B) : Apart B A := fun x hx ha => h x ha hx

/-- A list of backends on its way: pre was looked at, post was not. -/
def midL (now : Int) (pre post : List BK) : List BK := tickL now pre ++ post
def prL (now : Int) (l : List BK) : List (Int × Int) := (l.filter (isDue now)).map fun b => (b.node, nextS b.seq)
def dnL (now : Int) (l : List BK) : List Int := ((l.filter (isDue now)).filter fun b => (lateB b).2).map BK.node
theorem split_due (now : Int) : ∀ post : List BK, (∀ b ∈ post, isDue now b = false) ∨ ∃ a b r, post = a ++ b :: r ∧ (∀ x ∈ a, isDue now x = false) ∧ isDue now b = true
  | [] => .inl (by simp)
  | b :: post => by
    cases e : isDue now b with
    | true => exact .inr ⟨[], b, post, rfl, by simp, e⟩
    | false =>
      rcases split_due now post with h | ⟨a, c, r, rfl, h1, h2⟩
      · exact .inl (by simpa [e] using h)
      · exact .inr ⟨b :: a, c, r, rfl, by simpa [e] using h1, h2⟩
theorem tickL_none {now : Int} {l : List BK} (h : ∀ b ∈ l, isDue now b = false) : tickL now l = l := by
  unfold tickL
  conv => rhs; rw [← List.map_id l]
  exact List.map_congr_left fun b hb => by simp [h b hb]
theorem filter_none {now : Int} {l : List BK} (h : ∀ b ∈ l, isDue now b = false) : l.filter (isDue now) = [] := List.filter_eq_nil_iff.2 fun b hb => by simp [h b hb]
theorem tickL_app (now : Int) (a b : List BK) : tickL now (a ++ b) = tickL now a ++ tickL now b := by simp [tickL]
theorem midL_step {now : Int} {pre a r : List BK} {b : BK} (ha : ∀ x ∈ a, isDue now x = false) (hb : isDue now b = true) : midL now (pre ++ a ++ [b]) r = (tickL now pre ++ a) ++ stepB now b :: r := by
  unfold midL
  rw [tickL_app, tickL_app, tickL_none ha]
  simp [tickL, hb]
theorem midL_at (now : Int) (pre a r : List BK) (b : BK) : midL now pre (a ++ b :: r) = (tickL now pre ++ a) ++ b :: r := by simp [midL]
theorem prL_step {now : Int} {pre a : List BK} {b : BK} (ha : ∀ x ∈ a, isDue now x = false) (hb : isDue now b = true) : prL now (pre ++ a ++ [b]) = prL now pre ++ [(b.node, nextS b.seq)] := by
  simp [prL, filter_none ha, hb]
theorem dnL_step {now : Int} {pre a : List BK} {b : BK} (ha : ∀ x ∈ a, isDue now x = false) (hb : isDue now b = true) : dnL now (pre ++ a ++ [b]) = dnL now pre ++ (if (lateB b).2 = true then [b.node] else []) := by
  simp only [dnL, List.filter_append, filter_none ha, List.map_append]
  cases e : (lateB b).2 <;> simp [hb, e]
theorem prL_none {now : Int} {pre post : List BK} (h : ∀ b ∈ post, isDue now b = false) : prL now (pre ++ post) = prL now pre := by simp [prL, filter_none h]
theorem dnL_none {now : Int} {pre post : List BK} (h : ∀ b ∈ post, isDue now b = false) : dnL now (pre ++ post) = dnL now pre := by simp [dnL, filter_none h]
theorem prL_len (now : Int) (l : List BK) : (prL now l).length ≤ l.length := by unfold prL; rw [List.length_map]; exact List.length_filter_le _ _
theorem dnL_len (now : Int) (l : List BK) : (dnL now l).length ≤ l.length := by unfold dnL; rw [List.length_map]; exact Nat.le_trans (List.length_filter_le _ _) (List.length_filter_le _ _)
theorem tickL_nodes (now : Int) (l : List BK) : nodesC (tickL now l) = nodesC l := by
  unfold nodesC tickL
  rw [List.map_map]
  refine List.map_congr_left fun b _ => ?_
  simp only [Function.comp_apply]
  split
  · exact stepB_node _ b
  · rfl
theorem midL_nodes (now : Int) (pre post : List BK) : nodesC (midL now pre post) = nodesC (pre ++ post) := by
  unfold midL
  have := tickL_nodes now pre
  unfold nodesC at *
  rw [List.map_append, List.map_append, this]
/-- Due now: not before; and each due later, or now and not yet looked at. -/
theorem mid_due {now : Int} {pre post : List BK} (h : ∀ b ∈ pre ++ post, now ≤ b.due) : ∀ b ∈ midL now pre post, now ≤ b.due ∧ (b.due = now → b ∈ post) := by
  intro b hb
  rcases List.mem_append.1 hb with hb | hb
  · obtain ⟨x, hx, rfl⟩ := List.mem_map.1 hb
    have := h x (List.mem_append.2 (.inl hx))
    split
    · simp [stepB]; omega
    · next e =>
      simp [isDue] at e
      exact ⟨this, fun e2 => absurd e2 e⟩
  · exact ⟨h b (List.mem_append.2 (.inr hb)), fun _ => hb⟩
/-- The first one of the queue is the first that is due. -/
theorem first_due {now : Int} {pre a r : List BK} {b : BK} {its : List It} (hok : Heap.OK ltI its) (hpm : (its.map fun x => (x.at_, x.id)).Perm ((midL now pre (a ++ b :: r)).map fun b => (b.due, b.node)))
    (hd : ∀ z ∈ pre ++ (a ++ b :: r), now ≤ z.due) (hs : (pre ++ (a ++ b :: r)).Pairwise (fun a b => a.node < b.node)) (ha : ∀ x ∈ a, isDue now x = false) (hb : isDue now b = true) : ∃ s, its[0]? = some ⟨now, b.node, s⟩ := by
  have hm := mid_due (pre := pre) (post := a ++ b :: r) hd
  have hbd : b.due = now := by simpa [isDue] using hb
  have hb1 : (b.due, b.node) ∈ its.map fun x => (x.at_, x.id) := hpm.mem_iff.2 (List.mem_map.2 ⟨b, by simp [midL], rfl⟩)
  obtain ⟨y, hy, ey⟩ := List.mem_map.1 hb1
  obtain ⟨k, hk⟩ := List.mem_iff_getElem?.1 hy
  have h0 : 0 < its.length := List.length_pos_of_mem hy
  obtain ⟨x, hx⟩ : ∃ x, its[0]? = some x := ⟨its[0], List.getElem?_eq_getElem h0⟩
  have hl := hok.least ltI_lt hx k y hk
  have hx1 : (x.at_, x.id) ∈ (midL now pre (a ++ b :: r)).map fun b => (b.due, b.node) := hpm.mem_iff.1 (List.mem_map.2 ⟨x, List.mem_of_getElem? hx, rfl⟩)
  obtain ⟨z, hz, ez⟩ := List.mem_map.1 hx1
  simp at ez ey
  obtain ⟨m1, m2⟩ := hm z hz
  have hxa : x.at_ = now := by
    unfold ltI at hl
    split at hl
    · omega
    · simp at hl; omega
  have hzp := m2 (by omega)
  have hzn : b.node ≤ z.node := by
    rcases List.mem_append.1 hzp with h1 | h1
    · have := ha z h1
      simp [isDue] at this
      omega
    · rcases List.mem_cons.1 h1 with rfl | h1
      · omega
      · have h2 := (List.pairwise_append.1 (List.pairwise_append.1 hs).2.1).2.1
        have := (List.pairwise_cons.1 h2).1 z h1
        omega
  have hxi : x.id = b.node := by
    unfold ltI at hl
    rw [if_pos (by omega)] at hl
    split at hl
    · omega
    · simp at hl; omega
  obtain ⟨x1, x2, x3⟩ := x
  simp at hxa hxi
  exact ⟨x3, by rw [hx, hxa, hxi]⟩
theorem none_due {now : Int} {pre post : List BK} {its : List It} (hpm : (its.map fun x => (x.at_, x.id)).Perm ((midL now pre post).map fun b => (b.due, b.node)))
    (hd : ∀ b ∈ pre ++ post, now ≤ b.due) (hn : ∀ x ∈ post, isDue now x = false) : ∀ x, its[0]? = some x → now < x.at_ := by
  intro x hx
  have hx1 : (x.at_, x.id) ∈ (midL now pre post).map fun b => (b.due, b.node) := hpm.mem_iff.1 (List.mem_map.2 ⟨x, List.mem_of_getElem? hx, rfl⟩)
  obtain ⟨z, hz, ez⟩ := List.mem_map.1 hx1
  simp at ez
  obtain ⟨m1, m2⟩ := mid_due hd z hz
  rcases Int.lt_or_eq_of_le m1 with h | h
  · omega
  · have := hn z (m2 h.symm)
    simp [isDue] at this
    omega
/-- The queue behind a probe. -/
theorem pm_step {now : Int} {P R : List BK} {b x : BK} {its its1 its2 : List It} {s s2 : Int} (hpm : (its.map fun x => (x.at_, x.id)).Perm ((P ++ b :: R).map fun b => (b.due, b.node))) (hb : b.due = now) (h1 : its.Perm (⟨now, b.node, s⟩ :: its1)) (hx : x.node = b.node)
    (h2 : its2.Perm (⟨x.due, b.node, s2⟩ :: its1)) : (its2.map fun x => (x.at_, x.id)).Perm ((P ++ x :: R).map fun b => (b.due, b.node)) := by
  have e1 : (((P ++ b :: R).map fun b => (b.due, b.node))).Perm ((b.due, b.node) :: (P ++ R).map fun b => (b.due, b.node)) := by
    simp
  have e2 : (((P ++ x :: R).map fun b => (b.due, b.node))).Perm ((x.due, x.node) :: (P ++ R).map fun b => (b.due, b.node)) := by
    simp
  have e3 := (h1.map fun x => (x.at_, x.id)).symm.trans (hpm.trans e1)
  simp only [List.map_cons, hb] at e3
  have e4 := (List.perm_cons _).1 e3
  refine (h2.map _).trans (List.Perm.trans ?_ e2.symm)
  simp only [List.map_cons, hx]
  exact (List.perm_cons _).2 e4

/-- The checker in memory, whatever its queue holds. -/
structure CkM (w : World) (cb m q : Nat) (G : Int → Nat) (nn : Nat) (vs : Value) (sq : Int) (its : List It) (c : CK) : Prop where
  blk : Blk w cb 62 #[.int .i64 c.now, .map (some m), .pointer (some ⟨q, 0, none⟩)]
  om : OM KZ w m nn (mB G c.l) c.l.length
  bk : ∀ b ∈ c.l, Blk w (G b.node) 137 (arrK b)
  qu : QU w q vs sq its
  inj : ∀ a ∈ nodesC c.l, ∀ b ∈ nodesC c.l, G a = G b → a = b
  cm : cb ≠ m
  cq : cb ∉ footQ q vs
  mq : m ∉ footQ q vs
  sep : ∀ n ∈ nodesC c.l, G n ≠ cb ∧ G n ≠ m ∧ G n ∉ footQ q vs
section
variable {w w' : World} {cb m q : Nat} {G : Int → Nat} {nn : Nat} {vs : Value} {sq : Int} {its : List It} {c : CK} {S : List Nat}
theorem CkR.toM (h : CkR w cb m q G nn vs sq its c) : CkM w cb m q G nn vs sq its c := ⟨h.blk, h.om, h.bk, h.qu, h.inj, h.cm, h.cq, h.mq, h.sep⟩
theorem CkM.toR (h : CkM w cb m q G nn vs sq its c) (hp : (its.map fun x => (x.at_, x.id)).Perm (c.l.map fun b => (b.due, b.node))) : CkR w cb m q G nn vs sq its c := ⟨h.blk, h.om, h.bk, h.qu, hp, h.inj, h.cm, h.cq, h.mq, h.sep⟩
theorem CkM.chg (h : CkM w cb m q G nn vs sq its c) (hc : Chg S w w') (hS : Apart (footC cb m q vs G c.l) S) : CkM w' cb m q G nn vs sq its c :=
  ⟨h.blk.chg hc (hS cb (by simp [footC])), h.om.chg hc (hS m (by simp [footC])), fun b hb => (h.bk b hb).chg hc (hS _ (by simp [footC, nodesC]; exact .inr (.inr (.inr ⟨b, hb, rfl⟩)))),
    h.qu.chg hc (fun x hx => hS x (by simp [footC]; exact .inr (.inr (.inl hx)))), h.inj, h.cm, h.cq, h.mq, h.sep⟩
theorem CkM.lt (h : CkM w cb m q G nn vs sq its c) : ∀ x ∈ footC cb m q vs G c.l, x < w.heap.size := by
  intro x hx
  simp only [footC, List.mem_cons, List.mem_append, List.mem_map] at hx
  rcases hx with rfl | rfl | hx | ⟨n, hn, rfl⟩
  · exact h.blk.lt
  · exact h.om.lt
  · exact h.qu.r.lt x hx
  · obtain ⟨b, hb, rfl⟩ := List.mem_map.1 hn
    exact (h.bk b hb).lt
/-- The queue has changed. -/
theorem CkM.turn (h : CkM w cb m q G nn vs sq its c) {sq' : Int} {P : List It → Prop} (hT : Turned w q vs sq' P w') : ∃ vs' its', CkM w' cb m q G nn vs' sq' its' c ∧ P its' ∧ Chg (footC cb m q vs G c.l) w w' ∧ (∀ x ∈ footC cb m q vs' G c.l, x ∈ footC cb m q vs G c.l ∨ w.heap.size ≤ x) := by
  obtain ⟨vs', its', hqr, hok, hp, hcq, hfq⟩ := hT
  have hlt := h.lt
  have key : ∀ {x : Nat}, x < w.heap.size → x ∉ footQ q vs → x ∉ footQ q vs' := fun {x} hx hn hm => (hfq x hm).elim hn (fun h3 => by omega)
  have hG : ∀ n ∈ nodesC c.l, G n < w.heap.size := fun n hn => hlt _ (by simp [footC]; exact .inr (.inr (.inr ⟨n, hn, rfl⟩)))
  refine ⟨vs', its', ⟨h.blk.chg hcq h.cq, h.om.chg hcq h.mq, fun b hb => (h.bk b hb).chg hcq (h.sep _ (List.mem_map.2 ⟨b, hb, rfl⟩)).2.2, ⟨hqr, hok⟩, h.inj, h.cm, key (hlt cb (by simp [footC])) h.cq, key (hlt m (by simp [footC])) h.mq, fun n hn => ?_⟩, hp,
    hcq.more (fun x hx => by simp [footC]; exact .inr (.inr (.inl hx))), fun x hx => ?_⟩
  · obtain ⟨s1, s2, s3⟩ := h.sep n hn
    exact ⟨s1, s2, key (hG n hn) s3⟩
  · simp only [footC, List.mem_cons, List.mem_append, List.mem_map] at hx ⊢
    rcases hx with h1 | h1 | h1 | h1
    · exact .inl (.inl h1)
    · exact .inl (.inr (.inl h1))
    · exact (hfq x h1).imp (fun h => .inr (.inr (.inl h))) id
    · exact .inl (.inr (.inr (.inr h1)))
theorem nodes_mid {P R : List BK} {b x : BK} (hx : x.node = b.node) : nodesC (P ++ x :: R) = nodesC (P ++ b :: R) := by simp [nodesC, hx]
/-- One backend has changed. -/
theorem CkM.upd {now : Int} {P R : List BK} {b x : BK} (h : CkM w cb m q G nn vs sq its ⟨now, P ++ b :: R⟩) (hd : (nodesC (P ++ b :: R)).Nodup) (hx : x.node = b.node) (hc : Chg [G b.node] w w') (hb : Blk w' (G b.node) 137 (arrK x)) :
    CkM w' cb m q G nn vs sq its ⟨now, P ++ x :: R⟩ := by
  have hN : nodesC (P ++ x :: R) = nodesC (P ++ b :: R) := nodes_mid hx
  have hn : b.node ∈ nodesC (P ++ b :: R) := by simp [nodesC]
  obtain ⟨s1, s2, s3⟩ := h.sep _ hn
  have hS : ∀ y, y ∈ cb :: m :: footQ q vs → y ∉ [G b.node] := by
    intro y hy hm
    simp at hm; subst hm
    rcases List.mem_cons.1 hy with e | hy
    · exact s1 e
    · rcases List.mem_cons.1 hy with e | hy
      · exact s2 e
      · exact s3 hy
  refine ⟨h.blk.chg hc (hS cb (by simp)), ?_, ?_, h.qu.chg hc (fun y hy => hS y (by simp [hy])), ?_, h.cm, h.cq, h.mq, ?_⟩
  · have e : mB G (P ++ x :: R) = mB G (P ++ b :: R) := by funext y; unfold mB; rw [hN]
    show OM KZ w' m nn (mB G (P ++ x :: R)) (P ++ x :: R).length
    rw [e]
    have hl : (P ++ x :: R).length = (P ++ b :: R).length := by simp
    rw [hl]
    exact h.om.chg hc (hS m (by simp))
  · have hd' := hd
    unfold nodesC at hd'
    rw [List.map_append, List.map_cons, List.nodup_append] at hd'
    obtain ⟨d1, d2, d3⟩ := hd'
    have hne : ∀ y, y ∈ P ∨ y ∈ R → y.node ≠ b.node := by
      rintro y (hy | hy)
      · exact d3 _ (List.mem_map.2 ⟨y, hy, rfl⟩) _ (by simp)
      · intro e; exact (List.nodup_cons.1 d2).1 (e ▸ List.mem_map.2 ⟨y, hy, rfl⟩)
    intro y hy
    have hyP : y = x ∨ (y ∈ P ∨ y ∈ R) := by
      simp at hy
      rcases hy with h1 | h1 | h1
      · exact .inr (.inl h1)
      · exact .inl h1
      · exact .inr (.inr h1)
    rcases hyP with rfl | hy2
    · rw [hx]; exact hb
    · have hy0 : y ∈ P ++ b :: R := by simp; exact hy2.imp id .inr
      refine (h.bk y hy0).chg hc (fun hm => hne y hy2 ?_)
      simp at hm
      exact h.inj _ (List.mem_map.2 ⟨y, hy0, rfl⟩) _ hn hm
  · intro a ha b' hb' e
    exact h.inj a (hN ▸ ha) b' (hN ▸ hb') e
  · intro y hy
    exact h.sep y (hN ▸ hy)
end
end Go.Proofs.Ytgbdbeaflilmlaa
