/-
  PLAIN: backends that are probed (chapter 36). No program in sight; no condition.
-/
import Derived.Test.YtgbdbeaflilmlaaHeapP
set_option linter.unusedVariables false
set_option linter.unusedSimpArgs false
namespace Go.Proofs.Ytgbdbeaflilmlaa

/-- A backend. -/
structure BK where
  node : Int
  up : Bool
  opn : Bool
  seq : Int
  due : Int
  failed : Int
  risen : Int
deriving DecidableEq, Inhabited
/-- The backends by their nodes, and the tick. -/
structure CK where
  now : Int
  l : List BK
def nodesC (l : List BK) : List Int := l.map BK.node
def inC (c : CK) (n : Int) : Bool := c.l.any fun b => b.node == n
def getC (c : CK) (n : Int) : Option BK := c.l.find? fun b => b.node == n
def bk0 (now n : Int) : BK := ⟨n, true, false, 0, now + 1, 0, 0⟩
def insB (b : BK) (l : List BK) : List BK := l.takeWhile (fun x => decide (x.node < b.node)) ++ b :: l.dropWhile (fun x => decide (x.node < b.node))
def addC (c : CK) (n : Int) : CK × Bool := if n < 1 ∨ 65535 < n ∨ inC c n = true then (c, false) else (⟨c.now, insB (bk0 c.now n) c.l⟩, true)
def remC (c : CK) (n : Int) : CK × Bool := if inC c n = true then (⟨c.now, c.l.filter fun b => !(b.node == n)⟩, true) else (c, false)
/-- What becomes of a backend by its next probe: it, and whether it went down. -/
def lateB (b : BK) : BK × Bool := if b.opn = true then (if b.up = true ∧ 3 ≤ b.failed + 1 then ({ b with failed := b.failed + 1, risen := 0, up := false }, true) else ({ b with failed := b.failed + 1, risen := 0 }, false)) else (b, false)
def nextS (s : Int) : Int := if s = 65535 then 1 else s + 1
def stepB (now : Int) (b : BK) : BK := { (lateB b).1 with seq := nextS b.seq, opn := true, due := now + 4 }
def isDue (now : Int) (b : BK) : Bool := b.due == now
def tickL (now : Int) (l : List BK) : List BK := l.map fun b => if isDue now b = true then stepB now b else b
def tickC (c : CK) : CK := ⟨c.now + 1, tickL (c.now + 1) c.l⟩
/-- Probes: node and number; changes: the nodes that went down. -/
def probesC (c : CK) : List (Int × Int) := (c.l.filter (isDue (c.now + 1))).map fun b => (b.node, nextS b.seq)
def downsC (c : CK) : List Int := ((c.l.filter (isDue (c.now + 1))).filter fun b => (lateB b).2).map BK.node
def heardB (b : BK) : BK × Bool := if b.up = false ∧ 2 ≤ b.risen + 1 then ({ b with opn := false, failed := 0, risen := b.risen + 1, up := true }, true) else ({ b with opn := false, failed := 0, risen := b.risen + 1 }, false)
def setL (n : Int) (x : BK) (l : List BK) : List BK := l.map fun b => if b.node == n then x else b
/-- The answer: what there is then, whether it came up, whether it was taken. -/
def ansC (c : CK) (n s : Int) : CK × Bool × Bool := match getC c n with
  | none => (c, false, false)
  | some b => if b.opn = true ∧ b.seq = s then (⟨c.now, setL n (heardB b).1 c.l⟩, (heardB b).2, true) else (c, false, false)
def upC (c : CK) (n : Int) : Bool := match getC c n with
  | none => false
  | some b => b.up

/-- What holds all along; K: how many calls there were. -/
structure CI (K : Nat) (c : CK) : Prop where
  srt : c.l.Pairwise (fun a b => a.node < b.node)
  ok : ∀ b ∈ c.l, 1 ≤ b.node ∧ b.node ≤ 65535 ∧ 0 ≤ b.seq ∧ b.seq ≤ 65535 ∧ c.now < b.due ∧ b.due ≤ c.now + 4 ∧ 0 ≤ b.failed ∧ b.failed ≤ K ∧ 0 ≤ b.risen ∧ b.risen ≤ K
  now0 : 0 ≤ c.now
  nowK : c.now ≤ K
  len : c.l.length ≤ K
theorem CI.new : CI 0 ⟨0, []⟩ := ⟨List.Pairwise.nil, by simp, by simp, by simp, by simp⟩
theorem CI.mono {K K' : Nat} {c : CK} (h : CI K c) (hK : K ≤ K') : CI K' c :=
  ⟨h.srt, fun b hb => by have := h.ok b hb; omega, h.now0, by have := h.nowK; omega, by have := h.len; omega⟩
theorem CI.nodup {K : Nat} {c : CK} (h : CI K c) : (nodesC c.l).Nodup := by
  unfold nodesC
  exact List.Pairwise.map _ (fun a b h e => by omega) h.srt
theorem inC_iff {c : CK} {n : Int} : inC c n = true ↔ ∃ b ∈ c.l, b.node = n := by simp [inC]
theorem getC_some {c : CK} {n : Int} {b : BK} (h : getC c n = some b) : b ∈ c.l ∧ b.node = n := ⟨List.mem_of_find?_eq_some h, by simpa using List.find?_some h⟩
theorem getC_none {c : CK} {n : Int} (h : getC c n = none) : inC c n = false := by
  unfold getC at h
  rw [List.find?_eq_none] at h
  cases e : inC c n with
  | false => rfl
  | true =>
    obtain ⟨b, hb, hn⟩ := inC_iff.1 e
    exact absurd (h b hb) (by simp [hn])
theorem mem_insB {b x : BK} {l : List BK} : x ∈ insB b l ↔ x = b ∨ x ∈ l := by
  unfold insB
  rw [List.mem_append, List.mem_cons]
  conv => rhs; rw [← List.takeWhile_append_dropWhile (p := fun x => decide (x.node < b.node)) (l := l), List.mem_append]
  constructor
  · rintro (h | h | h)
    · exact .inr (.inl h)
    · exact .inl h
    · exact .inr (.inr h)
  · rintro (h | h | h)
    · exact .inr (.inl h)
    · exact .inl h
    · exact .inr (.inr h)
theorem insB_perm (b : BK) (l : List BK) : (insB b l).Perm (b :: l) := by
  unfold insB
  refine List.perm_middle.trans ?_
  rw [List.takeWhile_append_dropWhile]
theorem len_insB (b : BK) (l : List BK) : (insB b l).length = l.length + 1 := by have := (insB_perm b l).length_eq; simpa using this
theorem insB_srt {b : BK} : ∀ {l : List BK}, l.Pairwise (fun a b => a.node < b.node) → (∀ x ∈ l, x.node ≠ b.node) → (insB b l).Pairwise (fun a b => a.node < b.node)
  | [], _, _ => by simp [insB]
  | y :: l, h, hn => by
    obtain ⟨h1, h2⟩ := List.pairwise_cons.1 h
    have ih := insB_srt h2 (fun x hx => hn x (List.mem_cons_of_mem _ hx))
    by_cases e : y.node < b.node
    · have e1 : insB b (y :: l) = y :: insB b l := by simp [insB, e]
      rw [e1]
      refine List.pairwise_cons.2 ⟨fun x hx => ?_, ih⟩
      rcases mem_insB.1 hx with rfl | hx
      · exact e
      · exact h1 x hx
    · have e1 : insB b (y :: l) = b :: y :: l := by simp [insB, e]
      rw [e1]
      have hy := hn y (by simp)
      refine List.pairwise_cons.2 ⟨fun x hx => ?_, h⟩
      rcases List.mem_cons.1 hx with rfl | hx
      · omega
      · have := h1 x hx; omega
theorem CI.add {K : Nat} {c : CK} (h : CI K c) (n : Int) : CI (K + 1) (addC c n).1 := by
  unfold addC
  split
  · exact h.mono (by omega)
  · next hh =>
    have hn : ∀ x ∈ c.l, x.node ≠ n := fun x hx e => hh (.inr (.inr (inC_iff.2 ⟨x, hx, e⟩)))
    have := h.nowK
    have := h.now0
    refine ⟨insB_srt h.srt hn, fun b hb => ?_, h.now0, by show c.now ≤ _; omega, by show (insB _ _).length ≤ _; rw [len_insB]; have := h.len; omega⟩
    rcases mem_insB.1 hb with rfl | hb
    · simp [bk0]; omega
    · have := h.ok b hb; show _ ∧ _ ∧ _ ∧ _ ∧ c.now < _ ∧ _ ≤ c.now + 4 ∧ _; omega
theorem CI.rem {K : Nat} {c : CK} (h : CI K c) (n : Int) : CI K (remC c n).1 := by
  unfold remC
  split
  · exact ⟨h.srt.sublist List.filter_sublist, fun b hb => h.ok b (List.mem_filter.1 hb).1, h.now0, h.nowK, Nat.le_trans (List.length_filter_le _ _) h.len⟩
  · exact h
theorem lateB_keep (b : BK) : (lateB b).1.node = b.node ∧ (lateB b).1.seq = b.seq ∧ (lateB b).1.due = b.due := by unfold lateB; split <;> (try split) <;> simp
theorem stepB_node (now : Int) (b : BK) : (stepB now b).node = b.node := (lateB_keep b).1
theorem CI.tick {K : Nat} {c : CK} (h : CI K c) : CI (K + 1) (tickC c) := by
  have h0 := h.now0
  have hK := h.nowK
  have hnode : ∀ b, (if isDue (c.now + 1) b = true then stepB (c.now + 1) b else b).node = b.node := fun b => by split; exact stepB_node _ b; rfl
  refine ⟨?_, fun b hb => ?_, by show 0 ≤ c.now + 1; omega, by show c.now + 1 ≤ _; omega, by show (tickL _ _).length ≤ _; unfold tickL; rw [List.length_map]; have := h.len; omega⟩
  · refine List.Pairwise.map _ (fun a b hab => ?_) h.srt
    rw [hnode, hnode]; exact hab
  · obtain ⟨x, hx, rfl⟩ := List.mem_map.1 hb
    have hk := h.ok x hx
    show _ ∧ _ ∧ _ ∧ _ ∧ c.now + 1 < _ ∧ _ ≤ c.now + 1 + 4 ∧ _
    split
    · next hd =>
      have hs : 0 ≤ nextS x.seq ∧ nextS x.seq ≤ 65535 := by unfold nextS; split <;> omega
      have hf : 0 ≤ (lateB x).1.failed ∧ (lateB x).1.failed ≤ K + 1 ∧ 0 ≤ (lateB x).1.risen ∧ (lateB x).1.risen ≤ K + 1 := by
        unfold lateB; split <;> (try split) <;> simp <;> omega
      have hn := (lateB_keep x).1
      simp only [stepB]
      rw [hn]
      omega
    · next hd =>
      simp [isDue] at hd
      omega
theorem setL_srt {n : Int} {x : BK} (hx : x.node = n) {l : List BK} (h : l.Pairwise (fun a b => a.node < b.node)) : (setL n x l).Pairwise (fun a b => a.node < b.node) := by
  refine List.Pairwise.map _ (fun a b hab => ?_) h
  have key : ∀ b : BK, (if b.node == n then x else b).node = b.node := fun b => by
    by_cases e : b.node = n
    · simp [e, hx]
    · simp [e]
  rw [key, key]; exact hab
theorem heardB_keep (b : BK) : (heardB b).1.node = b.node ∧ (heardB b).1.seq = b.seq ∧ (heardB b).1.due = b.due ∧ (heardB b).1.failed = 0 ∧ (heardB b).1.risen = b.risen + 1 ∧ (heardB b).1.opn = false := by unfold heardB; split <;> simp
theorem CI.ans {K : Nat} {c : CK} (h : CI K c) (n s : Int) : CI (K + 1) (ansC c n s).1 := by
  unfold ansC
  cases e : getC c n with
  | none => exact h.mono (by omega)
  | some b =>
    simp only
    split
    · obtain ⟨hb, hn⟩ := getC_some e
      have hk := h.ok b hb
      obtain ⟨k1, k2, k3, k4, k5, _⟩ := heardB_keep b
      have := h.nowK
      refine ⟨setL_srt (k1.trans hn) h.srt, fun y hy => ?_, h.now0, by show c.now ≤ _; omega, by show (setL _ _ _).length ≤ _; unfold setL; rw [List.length_map]; have := h.len; omega⟩
      obtain ⟨z, hz, rfl⟩ := List.mem_map.1 hy
      have hkz := h.ok z hz
      show _ ∧ _ ∧ _ ∧ _ ∧ c.now < _ ∧ _ ≤ c.now + 4 ∧ _
      split
      · rw [k1, k2, k3, k4, k5]; omega
      · omega
    · exact h.mono (by omega)
end Go.Proofs.Ytgbdbeaflilmlaa
