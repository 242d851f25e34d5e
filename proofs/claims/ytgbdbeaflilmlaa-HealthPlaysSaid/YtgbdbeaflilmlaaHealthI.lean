/-
  MEMORY: the checker beside the document's answer (HealthPlays). Condition: the calls read as records of integers.
-/
import Derived.Test.YtgbdbeaflilmlaaHealthM
import Derived.Test.YtgbdbeaflilmlaaOpen36
set_option linter.unusedVariables false
set_option linter.unusedSimpArgs false
namespace Go.Proofs.Ytgbdbeaflilmlaa
open Go.RowKit Go.Maps

/-- The checker, the document's row and the block of its checker, apart. -/
structure JP (W w : World) (cb K b : Nat) (c : CK) (S : List Nat) (v : Value) : Prop where
  ck : CkS W w cb K c S
  row : OwR w v c.l
  ap : Apart v.ownBlock.toList S
  blk : Blk w b 41 #[.int .i64 c.now, v]
  bS : b ∉ S
  vb : Apart v.ownBlock.toList [b]
  bW : W.heap.size ≤ b
  vf : ∃ A cp, v = .slice A c.l.length cp
section
variable {W w w' : World} {cb K b : Nat} {c : CK} {S : List Nat} {v : Value}
theorem JP.chg0 (h : JP W w cb K b c S v) (hc : Chg [] w w') : JP W w' cb K b c S v := ⟨h.ck.chg0 hc, own_chg h.row hc (by simp), h.ap, h.blk.chg hc (by simp), h.bS, h.vb, h.bW, h.vf⟩
theorem JP.mono (h : JP W w cb K b c S v) {K' : Nat} (hK : K ≤ K') : JP W w cb K' b c S v := ⟨h.ck.mono hK, h.row, h.ap, h.blk, h.bS, h.vb, h.bW, h.vf⟩
theorem CkS.lt (h : CkS W w cb K c S) : ∀ x ∈ S, x < w.heap.size := by
  obtain ⟨⟨m, q, G, nn, vs, sq, its, h1, h2, _⟩, _⟩ := h
  rw [h2]; exact h1.lt
end
theorem JP.step {W wc w10 w11 w12 w13 : World} {cb K K' b : Nat} {c c' : CK} {Si : List Nat} {v v' : Value} (h : JP W wc cb K b c Si v) (hR : RefTo wc v c'.l v' w10) (h11 : Chg [] w10 w11) (hT : CkTo W w11 cb K' c' Si w12)
    (hst : Chg [b] w12 w13) (hB : Blk w13 b 41 #[.int .i64 c'.now, v']) : ∃ S', JP W w13 cb K' b c' S' v' := by
  obtain ⟨S', hS, hc, hn⟩ := hT
  have hl := h.ck.lt
  have z1 := hR.chg.size
  have z2 := h11.size
  have hbl := h.blk.lt
  have hbS : b ∉ S' := fun hm => (hn b hm).elim h.bS (fun h => by omega)
  have hvl : ∀ x ∈ v'.ownBlock.toList, x < w11.heap.size := fun x hx => by have := (own_lt hR.row x hx).2; omega
  have hvS : Apart v'.ownBlock.toList Si := fun x hx hm => (hR.new x hx).elim (fun h2 => h.ap x h2 hm) (fun h2 => by have := hl x hm; omega)
  have hvb : Apart v'.ownBlock.toList [b] := fun x hx hm => by
    simp at hm; subst hm
    exact (hR.new x hx).elim (fun h2 => h.vb x h2 (by simp)) (fun h2 => by omega)
  have hS2 : CkS W w13 cb K' c' S' := by
    obtain ⟨⟨m, q, G, nn, vs, sq, its, h1, h2, h3⟩, h4, h5, h6⟩ := hS
    have hx : ∀ x ∈ S', x ∉ [b] := fun x hx hm => by simp at hm; subst hm; exact hbS hx
    exact ⟨⟨m, q, G, nn, vs, sq, its, h1.chg hst (fun x hx' => hx x (h2 ▸ hx')), h2, h3⟩, h4, h5.trans' hst (fun x hx => by simp at hx; subst hx; exact .inr h.bW), h6⟩
  have hrow := own_chg (own_chg (own_chg hR.row h11 (by simp)) hc hvS) hst hvb
  obtain ⟨A', cp', hv⟩ := Sl.form (Sl.of_own hrow)
  exact ⟨S', hS2, hrow, (Apart.grow (n := w11.heap.size) (A := Si) (fun x hx hm => hvS x hm hx) hn hvl).symm, hB, hbS, hvb, h.bW, A', cp', hv⟩
def okS36 (x : OpR) : Prop := okO x
theorem SlO.one {w : World} {B : Nat} {A : Option Addr} {n c : Nat} {l : List OpR} (h : SlO w B (.slice A n c) l) (hn : l.length = n) {i : Nat} {x : OpR} (hx : l[i]? = some x) :
    ∃ b o, A = some ⟨b, o, none⟩ ∧ w.rangeAt b (o + i * 3) (#[.int .i64 x.kind, .int .i64 x.id, .int .i64 x.at_] : Array Value).toList := by
  obtain ⟨b, o, c', hv, _, _, hc⟩ := Sl.rec encO_len (by omega) h hx
  simp only [Value.slice.injEq] at hv
  obtain ⟨rfl, _, _⟩ := hv
  refine ⟨b, o, rfl, fun j u hu => ?_⟩
  have hj : j < 3 := by have := (List.getElem?_eq_some_iff.1 hu).1; exact this
  rw [Nat.add_assoc, hc j hj]
  exact hu
theorem infO36 {x : OpR} : (Try.prog.info? 43).map (·.size) = some (#[.int .i64 x.kind, .int .i64 x.id, .int .i64 x.at_] : Array Value).size := by
  show _ = some 3
  kernel_rfl
/-- Where a node is found, or that it is not. -/
def findR (l : List BK) (n r : Int) : Prop := (r = -1 ∧ ∀ x ∈ l, x.node ≠ n) ∨ (∃ (i : Nat) (x : BK), r = (i : Int) ∧ l[i]? = some x ∧ x.node = n ∧ ∀ (j : Nat) (y : BK), j < i → l[j]? = some y → y.node ≠ n)
theorem findR_ex (l : List BK) (n : Int) : ∃ r, findR l n r := by
  by_cases h : n ∈ nodesC l
  · obtain ⟨i, x, h1, h2, h3⟩ := find_at h
    exact ⟨i, .inr ⟨i, x, rfl, h1, h2, h3⟩⟩
  · exact ⟨-1, .inl ⟨rfl, not_nodes h⟩⟩

end Go.Proofs.Ytgbdbeaflilmlaa
