/-
  WALKS over package health: the checker. Condition: the checker is one that New made; at most 300 calls.
-/
import Derived.Test.YtgbdbeaflilmlaaHealthB
set_option linter.unusedVariables false
set_option linter.unusedSimpArgs false
namespace Go.Proofs.Ytgbdbeaflilmlaa
open Go.RowKit Go.Maps

/-- Integers as keys. -/
def KZ : KV Try.prog 3 Int where
  lit n := .int .i64 n
  ok n := (Lit.int .i64 n).wf = true
  key n _ := by simp [WideAt.IsKeyLit]
  inj a b _ _ h := by injection h
  val n := .int .i64 n
  law := lawZ
  isk n h := by simp [keyOf, Try.underlying3, mapKey, h]
  inv v l h := by
    obtain ⟨x, rfl, rfl, hw⟩ := Maps.keyOf_int_inv Try.underlying3 h
    exact ⟨x, hw, rfl, rfl⟩
theorem wf_i64 {n : Int} (h0 : 0 ≤ n) (h1 : n ≤ 1000000) : (Lit.int .i64 n).wf = true := by
  simp [Lit.wf, IntKind.min, IntKind.max, IntKind.signed, IntKind.bits]; omega

def mB (G : Int → Nat) (l : List BK) : Int → Option Value := fun n => if n ∈ nodesC l then some (.pointer (some ⟨G n, 0, none⟩)) else none
def footC (cb m q : Nat) (vs : Value) (G : Int → Nat) (l : List BK) : List Nat := cb :: m :: (footQ q vs ++ (nodesC l).map G)
/-- The checker in memory. -/
structure CkR (w : World) (cb m q : Nat) (G : Int → Nat) (nn : Nat) (vs : Value) (sq : Int) (its : List It) (c : CK) : Prop where
  blk : Blk w cb 62 #[.int .i64 c.now, .map (some m), .pointer (some ⟨q, 0, none⟩)]
  om : OM KZ w m nn (mB G c.l) c.l.length
  bk : ∀ b ∈ c.l, Blk w (G b.node) 137 (arrK b)
  qu : QU w q vs sq its
  pm : (its.map fun x => (x.at_, x.id)).Perm (c.l.map fun b => (b.due, b.node))
  inj : ∀ a ∈ nodesC c.l, ∀ b ∈ nodesC c.l, G a = G b → a = b
  cm : cb ≠ m
  cq : cb ∉ footQ q vs
  mq : m ∉ footQ q vs
  sep : ∀ n ∈ nodesC c.l, G n ≠ cb ∧ G n ≠ m ∧ G n ∉ footQ q vs
section
variable {w w' : World} {cb m q : Nat} {G : Int → Nat} {nn : Nat} {vs : Value} {sq : Int} {its : List It} {c : CK} {S : List Nat}
theorem CkR.chg (h : CkR w cb m q G nn vs sq its c) (hc : Chg S w w') (hS : ∀ x ∈ footC cb m q vs G c.l, x ∉ S) : CkR w' cb m q G nn vs sq its c :=
  ⟨h.blk.chg hc (hS cb (by simp [footC])), h.om.chg hc (hS m (by simp [footC])), fun b hb => (h.bk b hb).chg hc (hS _ (by simp [footC, nodesC]; exact .inr (.inr (.inr ⟨b, hb, rfl⟩)))),
    h.qu.chg hc (fun x hx => hS x (by simp [footC]; exact .inr (.inr (.inl hx)))), h.pm, h.inj, h.cm, h.cq, h.mq, h.sep⟩
theorem CkR.chg0 (h : CkR w cb m q G nn vs sq its c) (hc : Chg [] w w') : CkR w' cb m q G nn vs sq its c := h.chg hc (by simp)
theorem CkR.lt (h : CkR w cb m q G nn vs sq its c) : ∀ x ∈ footC cb m q vs G c.l, x < w.heap.size := by
  intro x hx
  simp only [footC, List.mem_cons, List.mem_append, List.mem_map] at hx
  rcases hx with rfl | rfl | hx | ⟨n, hn, rfl⟩
  · exact h.blk.lt
  · exact h.om.lt
  · exact h.qu.r.lt x hx
  · obtain ⟨b, hb, rfl⟩ := List.mem_map.1 hn
    exact (h.bk b hb).lt
theorem CkR.its_len (h : CkR w cb m q G nn vs sq its c) : its.length = c.l.length := by
  have := h.pm.length_eq
  simpa using this
end
/-- .. all of whose memory has come behind W; K calls were made; S is its memory. -/
structure CkS (W w : World) (cb K : Nat) (c : CK) (S : List Nat) : Prop where
  r : ∃ m q G nn vs sq its, CkR w cb m q G nn vs sq its c ∧ S = footC cb m q vs G c.l ∧ nn ≤ K ∧ 0 ≤ sq ∧ sq ≤ K * 400
  ci : CI K c
  chg : Chg [] W w
  new : ∀ x ∈ S, W.heap.size ≤ x
theorem CkS.chg0 {W w w' : World} {cb K : Nat} {c : CK} {S : List Nat} (h : CkS W w cb K c S) (hc : Chg [] w w') : CkS W w' cb K c S := by
  obtain ⟨⟨m, q, G, nn, vs, sq, its, h1, h2⟩, h3, h4, h5⟩ := h
  exact ⟨⟨m, q, G, nn, vs, sq, its, h1.chg0 hc, h2⟩, h3, h4.trans hc, h5⟩
/-- The checker has gone from one state to another one. -/
def CkTo (W w : World) (cb K : Nat) (c : CK) (S : List Nat) (w' : World) : Prop := ∃ S', CkS W w' cb K c S' ∧ Chg S w w' ∧ ∀ x ∈ S', x ∈ S ∨ w.heap.size ≤ x

set_option maxHeartbeats 400000 in
theorem hnew_any (w : World) : Calls Try.prog 11 #[] w fun e w' => ∃ cb S, e = .returned (.pointer (some ⟨cb, 0, none⟩)) ∧ CkS w w' cb 0 ⟨0, []⟩ S := by
  have hmm := @run_makeMap Try.prog
  have F1 := Lib.hid (qnew_any (w.alloc (.map #[] 0)))
  go_enter Try.func11, Try.ntmps11
  go_wp2_with fail
  refine F1.out.mono ?_
  rintro e w1 ⟨q, rfl, hq, hc1, hq0⟩
  have hq1 := hq.r.lt q (by simp [footQ])
  have hm : OM KZ w1 w.heap.size 0 (fun _ => none) 0 := (OM.new (K := KZ) w).chg0 hc1
  have hsz : w.heap.size + 1 ≤ q := by simpa using hq0
  have hA := (Chg.refl [] w1).alloc (.cells #[.int .i64 0, .map (some w.heap.size), .pointer (some ⟨q, 0, none⟩)] 62)
  have HH := Lib.hid (And.intro hq (And.intro hc1 (And.intro hm hA)))
  clear hq hc1 hm hA F1 hq0
  go_wp2
  go_ret
  obtain ⟨hq, hc1, hm, hA⟩ := HH.out
  have hmw : w.heap.size < w1.heap.size := hm.lt
  refine ⟨w1.heap.size, _, rfl, ⟨⟨w.heap.size, q, fun _ => 0, 0, .slice none 0 0, 0, [], ⟨Blk.new _ _ _, ?_, by simp, hq.chg0 hA, by simp, by simp [nodesC], by omega, ?_, ?_, by simp [nodesC]⟩, rfl, Nat.le_refl _, by omega, by simp⟩, CI.new, (((Chg.refl [] w).alloc _).trans hc1).trans hA, ?_⟩⟩
  · have := hm.chg0 hA
    have e : mB (fun _ => 0) ([] : List BK) = fun _ => none := by funext n; simp [mB, nodesC]
    rw [e]; exact this
  · intro hx; simp [footQ, Value.ownBlock] at hx; omega
  · intro hx; simp [footQ, Value.ownBlock] at hx; omega
  · intro x hx; simp [footC, footQ, Value.ownBlock, nodesC] at hx; omega
end Go.Proofs.Ytgbdbeaflilmlaa
