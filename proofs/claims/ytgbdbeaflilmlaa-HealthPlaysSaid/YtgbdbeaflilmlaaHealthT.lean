/-
  WALKS over package health: Tick. Condition: as in the text before.
-/
import Derived.Test.YtgbdbeaflilmlaaHealthQ
set_option linter.unusedVariables false
set_option linter.unusedSimpArgs false
namespace Go.Proofs.Ytgbdbeaflilmlaa
open Go.RowKit Go.Maps

def encPr (p : Int × Int) : List Value := [.int .i64 p.1, .int .i64 p.2]
def encDn (n : Int) : List Value := [.int .i64 n, .bool false]
theorem encPr_len (x : Int × Int) : (encPr x).length = 2 := rfl
theorem encDn_len (x : Int) : (encDn x).length = 2 := rfl
theorem encPr_one (x : Int × Int) : ∀ u ∈ encPr x, u.oneCell' = true := by intro u hu; simp [encPr] at hu; rcases hu with rfl | rfl <;> rfl
theorem encDn_one (x : Int) : ∀ u ∈ encDn x, u.oneCell' = true := by intro u hu; simp [encDn] at hu; rcases hu with rfl | rfl <;> rfl
theorem elPr : El Try.prog 27 32 (.agg #[.int .i64 0, .int .i64 0]) 2 16 := ⟨Try.underlying27, by kernel_rfl, rfl, by omega⟩
theorem elDn : El Try.prog 28 34 (.agg #[.int .i64 0, .bool false]) 2 16 := ⟨Try.underlying28, by kernel_rfl, rfl, by omega⟩
theorem litPr (w : World) (n s : Int) : Sl (w.alloc (.cells #[.int .i64 n, .int .i64 s] 32)) 0 2 (.slice (some ⟨w.heap.size, 0, none⟩) 1 1) 1 (encPr (n, s)) :=
  Sl.of_own (own_lit (base := 0) w 32 2 1 #[.int .i64 n, .int .i64 s] (Nat.zero_le _) (by simp [maxLen]) rfl)
theorem litDn (w : World) (n : Int) : Sl (w.alloc (.cells #[.int .i64 n, .bool false] 34)) 0 2 (.slice (some ⟨w.heap.size, 0, none⟩) 1 1) 1 (encDn n) :=
  Sl.of_own (own_lit (base := 0) w 34 2 1 #[.int .i64 n, .bool false] (Nat.zero_le _) (by simp [maxLen]) rfl)
def lenS : Value → Nat
  | .slice _ n _ => n
  | _ => 0
theorem lenS_own {w : World} {base size n : Nat} {e : TypeId} {v : Value} {xs : List Value} (h : w.ownsRow base e size v n xs) : lenS v = n := by
  obtain ⟨A, c, rfl⟩ := Sl.form (Sl.of_own h)
  rfl

/-- A tick on its way. -/
structure TJ (w wr : World) (cb m q : Nat) (G : Int → Nat) (nn : Nat) (vs : Value) (sq : Int) (its : List It) (nw : Int) (L : List BK) (S : List Nat) (v4 : Value) (l4 : List (Int × Int)) (v5 : Value) (l5 : List Int) : Prop where
  ck : CkM wr cb m q G nn vs sq its ⟨nw, L⟩
  chg : Chg S w wr
  new : ∀ x ∈ footC cb m q vs G L, x ∈ S ∨ w.heap.size ≤ x
  r4 : wr.ownsRow w.heap.size 32 2 v4 l4.length (l4.flatMap encPr)
  r5 : wr.ownsRow w.heap.size 34 2 v5 l5.length (l5.flatMap encDn)
  a4 : Apart v4.ownBlock.toList (footC cb m q vs G L)
  a5 : Apart v5.ownBlock.toList (footC cb m q vs G L)
  a45 : Apart v4.ownBlock.toList v5.ownBlock.toList
section
variable {w wr w' w2 : World} {cb m q : Nat} {G : Int → Nat} {nn : Nat} {vs : Value} {sq : Int} {its : List It} {nw : Int} {L : List BK} {S : List Nat} {v4 v5 : Value} {l4 : List (Int × Int)} {l5 : List Int}
theorem TJ.chg0 (h : TJ w wr cb m q G nn vs sq its nw L S v4 l4 v5 l5) (hc : Chg [] wr w') : TJ w w' cb m q G nn vs sq its nw L S v4 l4 v5 l5 :=
  ⟨h.ck.chg hc (fun _ _ => by simp), h.chg.trans (hc.more (by simp)), h.new, own_chg h.r4 hc (by simp), own_chg h.r5 hc (by simp), h.a4, h.a5, h.a45⟩
theorem TJ.turn (h : TJ w wr cb m q G nn vs sq its nw L S v4 l4 v5 l5) {sq' : Int} {P : List It → Prop} (hT : Turned wr q vs sq' P w') : ∃ vs' its', TJ w w' cb m q G nn vs' sq' its' nw L S v4 l4 v5 l5 ∧ P its' := by
  obtain ⟨vs', its', h1, h2, h3, h4⟩ := h.ck.turn hT
  have l4 := fun x hx => (own_lt h.r4 x hx).2
  have l5 := fun x hx => (own_lt h.r5 x hx).2
  have hw := h.chg.size
  exact ⟨vs', its', ⟨h1, h.chg.trans' h3 h.new, fun x hx => (h4 x hx).elim (h.new x) (fun h => .inr (by omega)), own_chg h.r4 h3 h.a4, own_chg h.r5 h3 h.a5, (h.a4.symm.grow h4 l4).symm, (h.a5.symm.grow h4 l5).symm, h.a45⟩, h2⟩
theorem foot_mid {P R : List BK} {b x : BK} (hx : x.node = b.node) : footC cb m q vs G (P ++ x :: R) = footC cb m q vs G (P ++ b :: R) := by unfold footC; rw [nodes_mid hx]
theorem foot_G {P R : List BK} {b : BK} : G b.node ∈ footC cb m q vs G (P ++ b :: R) := by simp [footC, nodesC]
theorem TJ.upd {P R : List BK} {b x : BK} (h : TJ w wr cb m q G nn vs sq its nw (P ++ b :: R) S v4 l4 v5 l5) (hd : (nodesC (P ++ b :: R)).Nodup) (hx : x.node = b.node) (hc : Chg [G b.node] wr w') (hb : Blk w' (G b.node) 137 (arrK x)) :
    TJ w w' cb m q G nn vs sq its nw (P ++ x :: R) S v4 l4 v5 l5 := by
  have e := foot_mid (cb := cb) (m := m) (q := q) (vs := vs) (G := G) (P := P) (R := R) hx
  have hg := foot_G (cb := cb) (m := m) (q := q) (vs := vs) (G := G) (P := P) (R := R) (b := b)
  have hne : ∀ {l : List Nat}, Apart l (footC cb m q vs G (P ++ b :: R)) → ∀ x ∈ l, x ∉ [G b.node] := fun ha x hx hm => by simp at hm; subst hm; exact ha _ hx hg
  exact ⟨h.ck.upd hd hx hc hb, h.chg.trans' hc (fun x hx => by simp at hx; subst hx; exact h.new _ hg), fun x hx => h.new x (e ▸ hx), own_chg h.r4 hc (hne h.a4), own_chg h.r5 hc (hne h.a5), e ▸ h.a4, e ▸ h.a5, h.a45⟩
theorem TJ.app4 (h : TJ w wr cb m q G nn vs sq its nw L S v4 l4 v5 l5) {v4' : Value} {p : Int × Int} (h0 : Chg [] wr w2) (hr : w'.ownsRow w.heap.size 32 2 v4' (l4.length + 1) (l4.flatMap encPr ++ encPr p)) (hc : Chg v4.ownBlock.toList w2 w') (hb : v4'.ownBlock = v4.ownBlock ∨ v4'.ownBlock = some w2.heap.size) :
    TJ w w' cb m q G nn vs sq its nw L S v4' (l4 ++ [p]) v5 l5 := by
  have h2 := h.chg0 h0
  have f := h2.ck.lt
  have l5 := fun x hx => (own_lt h2.r5 x hx).2
  have hx : ∀ x ∈ v4'.ownBlock.toList, x ∈ v4.ownBlock.toList ∨ w2.heap.size ≤ x := fun x hx => by
    rcases hb with e | e
    · rw [e] at hx; exact .inl hx
    · rw [e] at hx; simp at hx; exact .inr (by omega)
  exact ⟨h2.ck.chg hc h2.a4.symm, h2.chg.trans' hc (fun x hx => .inr (own_lt h2.r4 x hx).1), h2.new, by rw [← flat_snoc, List.length_append]; exact hr, own_chg h2.r5 hc h2.a45.symm, h2.a4.grow hx f, h2.a5, h2.a45.grow hx l5⟩
theorem TJ.app5 (h : TJ w wr cb m q G nn vs sq its nw L S v4 l4 v5 l5) {v5' : Value} {p : Int} (h0 : Chg [] wr w2) (hr : w'.ownsRow w.heap.size 34 2 v5' (l5.length + 1) (l5.flatMap encDn ++ encDn p)) (hc : Chg v5.ownBlock.toList w2 w') (hb : v5'.ownBlock = v5.ownBlock ∨ v5'.ownBlock = some w2.heap.size) :
    TJ w w' cb m q G nn vs sq its nw L S v4 l4 v5' (l5 ++ [p]) := by
  have h2 := h.chg0 h0
  have f := h2.ck.lt
  have l4 := fun x hx => (own_lt h2.r4 x hx).2
  have hx : ∀ x ∈ v5'.ownBlock.toList, x ∈ v5.ownBlock.toList ∨ w2.heap.size ≤ x := fun x hx => by
    rcases hb with e | e
    · rw [e] at hx; exact .inl hx
    · rw [e] at hx; simp at hx; exact .inr (by omega)
  exact ⟨h2.ck.chg hc h2.a5.symm, h2.chg.trans' hc (fun x hx => .inr (own_lt h2.r5 x hx).1), h2.new, own_chg h2.r4 hc h2.a45, by rw [← flat_snoc, List.length_append]; exact hr, h2.a4, h2.a5.grow hx f, (h2.a45.symm.grow hx l4).symm⟩
end
/-- Behind a tick. -/
def TickTo (W w : World) (cb K : Nat) (c : CK) (S : List Nat) (pv xv : Value) (w' : World) : Prop :=
  ∃ S', CkS W w' cb K (tickC c) S' ∧ Chg S w w' ∧ (∀ x ∈ S', x ∈ S ∨ w.heap.size ≤ x) ∧ w'.ownsRow w.heap.size 32 2 pv (probesC c).length ((probesC c).flatMap encPr) ∧
    w'.ownsRow w.heap.size 34 2 xv (downsC c).length ((downsC c).flatMap encDn) ∧ Apart pv.ownBlock.toList S' ∧ Apart xv.ownBlock.toList S'

/-- The tick is over. -/
theorem TJ.fin {W w wr : World} {cb m q : Nat} {G : Int → Nat} {nn K : Nat} {vs : Value} {sq : Int} {its : List It} {c : CK} {S : List Nat} {v4 v5 : Value} {pre post : List BK}
    (h : TJ w wr cb m q G nn vs sq its (c.now + 1) (midL (c.now + 1) pre post) S v4 (prL (c.now + 1) pre) v5 (dnL (c.now + 1) pre)) (hl : c.l = pre ++ post) (hn : ∀ b ∈ post, isDue (c.now + 1) b = false)
    (hpm : (its.map fun x => (x.at_, x.id)).Perm ((midL (c.now + 1) pre post).map fun b => (b.due, b.node))) (hnn : nn ≤ K) (hs0 : 0 ≤ sq) (hs1 : sq ≤ (K + 1) * 400) (hci : CI K c) (hcW : Chg [] W w) (hnew : ∀ x ∈ S, W.heap.size ≤ x) :
    TickTo W w cb (K + 1) c S v4 v5 wr := by
  have e1 : tickC c = ⟨c.now + 1, midL (c.now + 1) pre post⟩ := by
    unfold tickC midL
    rw [hl, tickL_app, tickL_none hn]
  have e2 : probesC c = prL (c.now + 1) pre := by
    rw [← prL_none hn, ← hl]; rfl
  have e3 : downsC c = dnL (c.now + 1) pre := by
    rw [← dnL_none hn, ← hl]; rfl
  have hci2 := hci.tick
  unfold TickTo
  rw [e2, e3]
  rw [e1] at hci2 ⊢
  refine ⟨_, ⟨⟨m, q, G, nn, vs, sq, its, h.ck.toR hpm, rfl, by omega, hs0, by push_cast at *; omega⟩, hci2, hcW.trans' h.chg (fun x hx => .inr (hnew x hx)), fun x hx => ?_⟩, h.chg, h.new, h.r4, h.r5, h.a4, h.a5⟩
  have := hcW.size
  rcases h.new x hx with h1 | h1
  · exact hnew x h1
  · omega

set_option maxRecDepth 100000 in
set_option maxHeartbeats 2000000 in
theorem htick_any {W w : World} {cb K : Nat} {c : CK} {S : List Nat} (h : CkS W w cb K c S) (hK : K ≤ 300) :
    Calls Try.prog 14 #[.pointer (some ⟨cb, 0, none⟩)] w fun e w' => ∃ pv xv, e = .returned (.tuple #[pv, xv]) ∧ TickTo W w cb (K + 1) c S pv xv w' := by
  obtain ⟨⟨m, q, G, nn, vs, sq, its, hr, hfo, hnn, hs0, hs1⟩, hci, hcW, hnew⟩ := h
  have F1 := Lib.hid (his_any hr)
  have c0 : w.cell? ⟨cb, 0, none⟩ = some (.int .i64 c.now) := hr.blk.cell 0
  have f0 := hr.blk.frozen 0
  have hl0 := hr.blk.lt
  have hn0 := hci.now0
  have hnK := hci.nowK
  have hlK := hci.len
  have hc01 : Chg [cb] w (w.setCell ⟨cb, 0, none⟩ (.int .i64 (c.now + 1))) := (Chg.refl _ _).setCell (p := ⟨cb, 0, none⟩) (.inl (by simp)) _
  have hcbS : cb ∈ S := by rw [hfo]; simp [footC]
  have hJ : TJ w (w.setCell ⟨cb, 0, none⟩ (.int .i64 (c.now + 1))) cb m q G nn vs sq its (c.now + 1) (midL (c.now + 1) [] c.l) S (.slice none 0 0) (prL (c.now + 1) []) (.slice none 0 0) (dnL (c.now + 1) []) := by
    have hB1 := hr.blk.set_ 0 (.int .i64 (c.now + 1))
    have hs : ∀ {x : Nat}, x ≠ cb → x ∉ [cb] := fun h => by simpa using h
    have hS : ∀ x ∈ footQ q vs, x ∉ [cb] := fun x hx hm => by simp at hm; subst hm; exact hr.cq hx
    exact ⟨⟨hB1, hr.om.chg hc01 (hs hr.cm.symm), fun b hb => (hr.bk b hb).chg hc01 (hs (hr.sep _ (List.mem_map.2 ⟨b, hb, rfl⟩)).1), hr.qu.chg hc01 hS, hr.inj, hr.cm, hr.cq, hr.mq, hr.sep⟩,
      hc01.more (by intro x hx; simp at hx; subst hx; exact hcbS), fun x hx => .inl (hfo ▸ hx), World.ownsRow_nil .., World.ownsRow_nil .., fun x hx => by simp [Value.ownBlock] at hx, fun x hx => by simp [Value.ownBlock] at hx, fun x hx => by simp [Value.ownBlock] at hx⟩
  have hpm0 : (its.map fun x => (x.at_, x.id)).Perm ((midL (c.now + 1) [] c.l).map fun b => (b.due, b.node)) := hr.pm
  have HJ := Lib.hid (And.intro hJ hpm0)
  have HF : Hid (∀ (wr : World) (vs' : Value) (sq' : Int) (its' : List It) (v4 v5 : Value) (pre post : List BK), TJ w wr cb m q G nn vs' sq' its' (c.now + 1) (midL (c.now + 1) pre post) S v4 (prL (c.now + 1) pre) v5 (dnL (c.now + 1) pre) → c.l = pre ++ post → (∀ b ∈ post, isDue (c.now + 1) b = false) →
    (its'.map fun x => (x.at_, x.id)).Perm ((midL (c.now + 1) pre post).map fun b => (b.due, b.node)) → 0 ≤ sq' → sq' ≤ sq + pre.length → TickTo W w cb (K + 1) c S v4 v5 wr) := Lib.hid fun wr vs' sq' its' v4 v5 pre post h1 h2 h3 h4 h5 h6 =>
      h1.fin h2 h3 h4 hnn h5 (by have : pre.length ≤ c.l.length := by rw [h2]; simp
                                 omega) hci hcW hnew
  have HD : Hid (∀ b ∈ c.l, c.now + 1 ≤ b.due) := Lib.hid fun b hb => by have := hci.ok b hb; omega
  have HS := Lib.hid hci.srt
  have HN := Lib.hid hci.nodup
  have HOK := Lib.hid hci.ok
  have hsq2 : sq ≤ 120000 := by omega
  clear hr hci hcW hnew hfo hJ hpm0 hc01
  obtain ⟨nw0, l0⟩ := c
  simp only at *
  go_enter Try.func14, Try.ntmps14
  go_wp2_with fail
  refine F1.out.mono ?_
  rintro e w1 ⟨rfl, rfl⟩
  clear F1
  go_wp2_with fail
  generalize w.setCell ⟨cb, 0, none⟩ (.int .i64 (nw0 + 1)) = w1 at *
  clear c0 f0 hl0
  generalize hnw : nw0 + 1 = nw at *
  go_loopw [4, 5] (fun v4 v5 wr => ∃ (pre post : List BK) (vs' : Value) (sq' : Int) (its' : List It), l0 = pre ++ post ∧ Hid (TJ w wr cb m q G nn vs' sq' its' nw (midL nw pre post) S v4 (prL nw pre) v5 (dnL nw pre) ∧ (its'.map fun x => (x.at_, x.id)).Perm ((midL nw pre post).map fun b => (b.due, b.node))) ∧ 0 ≤ sq' ∧ sq' ≤ sq + pre.length) (fun v4 _ _ => l0.length - lenS v4)
  case atStart => exact ⟨[], l0, vs, sq, its, rfl, HJ, hs0, by simp⟩
  case round =>
    obtain ⟨pre, post, vs', sq', its', rfl, hH, hs0', hs1'⟩ := hrel
    obtain ⟨hT, hpm⟩ := hH.out
    have k2 : wr.cell? ⟨cb, 2, none⟩ = some (.pointer (some ⟨q, 0, none⟩)) := hT.ck.blk.cell 2
    have k0 : wr.cell? ⟨cb, 0, none⟩ = some (.int .i64 nw) := hT.ck.blk.cell 0
    have hil := hpm.length_eq
    rw [List.length_map, List.length_map, show (midL nw pre post).length = (pre ++ post).length by simp [midL, tickL]] at hil
    have hpl : pre.length ≤ 300 := by rw [List.length_append] at hlK; omega
    rcases split_due nw post with hno | ⟨a, b, r, rfl, ha, hb⟩
    · have F2 := Lib.hid (qnext_no (hT.ck.qu.chg0 (Chg.refl [] wr).drew) (none_due hpm HD.out hno))
      have HFin := Lib.hid (fun w' (hc : Chg [] wr w') => HF.out w' _ _ _ _ _ _ _ (hT.chg0 hc) rfl hno hpm hs0' hs1')
      clear hT hpm hH hil HF HJ
      go_wp2_with fail
      have hS0 : (fun W : World => W.cell? ⟨cb, 0, none⟩ = some (.int .i64 nw) ∧ W.cell? ⟨cb, 2, none⟩ = some (.pointer (some ⟨q, 0, none⟩))) wr.drew := ⟨k0, k2⟩
      have HSQ : ∀ W : World, (W.cell? ⟨cb, 0, none⟩ = some (.int .i64 nw) ∧ W.cell? ⟨cb, 2, none⟩ = some (.pointer (some ⟨q, 0, none⟩))) → W.cell? ⟨cb, 2, none⟩ = some (.pointer (some ⟨q, 0, none⟩)) := fun W h => h.2
      have HSN : ∀ W : World, (W.cell? ⟨cb, 0, none⟩ = some (.int .i64 nw) ∧ W.cell? ⟨cb, 2, none⟩ = some (.pointer (some ⟨q, 0, none⟩))) → W.cell? ⟨cb, 0, none⟩ = some (.int .i64 nw) := fun W h => h.1
      refine wp_region_noPanic ?_
      refine wp_region_held_drew (S := fun W : World => W.cell? ⟨cb, 0, none⟩ = some (.int .i64 nw) ∧ W.cell? ⟨cb, 2, none⟩ = some (.pointer (some ⟨q, 0, none⟩))) (by kernel_rfl) hS0 (fun _ => ?_)
      refine wpAnyH_take (i := 0) (v := ?_) rfl (by kernel_rfl) (by kernel_rfl) (by kernel_rfl) (fun _ _ _ h => h) (yields_pure (by rfl) (fun w => ?_)) (by with_reducible assumption) ?_
      rotate_left
      · (go_simp <;> with_reducible rfl)
      try simp only [List.getElem_toArray, List.getElem_cons_succ, List.getElem_cons_zero, Act.put, List.setIfInBounds_toArray, List.set_cons_zero, List.set_cons_succ]
      refine wpAnyH_take (i := 1) (v := ?_) rfl (by kernel_rfl) (by kernel_rfl) (by kernel_rfl) (fun _ _ _ h => h) (yields_pure (by rfl) (fun w => ?_)) (by with_reducible assumption) ?_
      rotate_left
      · (go_simp <;> with_reducible rfl)
      try simp only [List.getElem_toArray, List.getElem_cons_succ, List.getElem_cons_zero, Act.put, List.setIfInBounds_toArray, List.set_cons_zero, List.set_cons_succ]
      refine wpAnyH_take (i := 2) (v := ?_) rfl (by kernel_rfl) (by kernel_rfl) (by kernel_rfl) (fun _ _ _ h => h) (yields_pure (by rfl) (fun w => ?_)) (by with_reducible assumption) ?_
      rotate_left
      · (go_simp <;> with_reducible rfl)
      try simp only [List.getElem_toArray, List.getElem_cons_succ, List.getElem_cons_zero, Act.put, List.setIfInBounds_toArray, List.set_cons_zero, List.set_cons_succ]
      refine wpAnyH_take (i := 3) rfl (by kernel_rfl) (by kernel_rfl) (by kernel_rfl) (fun _ _ _ h => h) (yields_cell (by rfl) 60 (.tmp 22) rfl cb 2 rfl (.pointer (some ⟨q, 0, none⟩)) _ HSQ Try.underlying60 rfl) (by with_reducible assumption) ?_
      try simp only [List.getElem_toArray, List.getElem_cons_succ, List.getElem_cons_zero, Act.put, List.setIfInBounds_toArray, List.set_cons_zero, List.set_cons_succ]
      refine wpAnyH_take (i := 4) (v := ?_) rfl (by kernel_rfl) (by kernel_rfl) (by kernel_rfl) (fun _ _ _ h => h) (yields_pure (by rfl) (fun w => ?_)) (by with_reducible assumption) ?_
      rotate_left
      · (go_simp <;> with_reducible rfl)
      try simp only [List.getElem_toArray, List.getElem_cons_succ, List.getElem_cons_zero, Act.put, List.setIfInBounds_toArray, List.set_cons_zero, List.set_cons_succ]
      refine wpAnyH_take (i := 5) (v := ?_) rfl (by kernel_rfl) (by kernel_rfl) (by kernel_rfl) (fun _ _ _ h => h) (yields_pure (by rfl) (fun w => ?_)) (by with_reducible assumption) ?_
      rotate_left
      · (go_simp <;> with_reducible rfl)
      try simp only [List.getElem_toArray, List.getElem_cons_succ, List.getElem_cons_zero, Act.put, List.setIfInBounds_toArray, List.set_cons_zero, List.set_cons_succ]
      refine wpAnyH_take (i := 6) (v := ?_) rfl (by kernel_rfl) (by kernel_rfl) (by kernel_rfl) (fun _ _ _ h => h) (yields_pure (by rfl) (fun w => ?_)) (by with_reducible assumption) ?_
      rotate_left
      · (go_simp <;> with_reducible rfl)
      try simp only [List.getElem_toArray, List.getElem_cons_succ, List.getElem_cons_zero, Act.put, List.setIfInBounds_toArray, List.set_cons_zero, List.set_cons_succ]
      refine wpAnyH_take (i := 7) rfl (by kernel_rfl) (by kernel_rfl) (by kernel_rfl) (fun _ _ _ h => h) (yields_cell (by rfl) 3 (.tmp 26) rfl cb 0 rfl (.int .i64 nw) _ HSN Try.underlying3 rfl) (by with_reducible assumption) ?_
      try simp only [List.getElem_toArray, List.getElem_cons_succ, List.getElem_cons_zero, Act.put, List.setIfInBounds_toArray, List.set_cons_zero, List.set_cons_succ]
      refine wpAnyH_ready (rs := [8]) (by kernel_rfl) (by simp) (AllReadyH.cons rfl (fun K hK => ?_) AllReadyH.nil)
      go_simp
      refine F2.out.mono ?_
      rintro e w2 ⟨rfl, hc2⟩
      have hS2 : (fun W : World => W.cell? ⟨cb, 0, none⟩ = some (.int .i64 nw) ∧ W.cell? ⟨cb, 2, none⟩ = some (.pointer (some ⟨q, 0, none⟩))) w2 := ⟨hc2.cell (w := wr.drew) k0 (by simp), hc2.cell (w := wr.drew) k2 (by simp)⟩
      refine hK.out _ _ (by with_reducible assumption) (fun _ => ?_)
      clear hK K
      try simp only [List.getElem_toArray, List.getElem_cons_succ, List.getElem_cons_zero, Act.put, List.setIfInBounds_toArray, List.set_cons_zero, List.set_cons_succ]
      refine wpAnyH_take (i := 9) (v := ?_) rfl (by kernel_rfl) (by kernel_rfl) (by kernel_rfl) (fun _ _ _ h => h) (yields_pure (by rfl) (fun w => ?_)) (by with_reducible assumption) ?_
      rotate_left
      · (go_simp <;> with_reducible rfl)
      try simp only [List.getElem_toArray, List.getElem_cons_succ, List.getElem_cons_zero, Act.put, List.setIfInBounds_toArray, List.set_cons_zero, List.set_cons_succ]
      refine wpAnyH_take (i := 10) (v := ?_) rfl (by kernel_rfl) (by kernel_rfl) (by kernel_rfl) (fun _ _ _ h => h) (yields_pure (by rfl) (fun w => ?_)) (by with_reducible assumption) ?_
      rotate_left
      · (go_simp <;> with_reducible rfl)
      try simp only [List.getElem_toArray, List.getElem_cons_succ, List.getElem_cons_zero, Act.put, List.setIfInBounds_toArray, List.set_cons_zero, List.set_cons_succ]
      refine wpAnyH_take (i := 11) (v := ?_) rfl (by kernel_rfl) (by kernel_rfl) (by kernel_rfl) (fun _ _ _ h => h) (yields_pure (by rfl) (fun w => ?_)) (by with_reducible assumption) ?_
      rotate_left
      · (go_simp <;> with_reducible rfl)
      try simp only [List.getElem_toArray, List.getElem_cons_succ, List.getElem_cons_zero, Act.put, List.setIfInBounds_toArray, List.set_cons_zero, List.set_cons_succ]
      refine wpAnyH_take (i := 12) (v := ?_) rfl (by kernel_rfl) (by kernel_rfl) (by kernel_rfl) (fun _ _ _ h => h) (yields_pure (by rfl) (fun w => ?_)) (by with_reducible assumption) ?_
      rotate_left
      · (go_simp <;> with_reducible rfl)
      try simp only [List.getElem_toArray, List.getElem_cons_succ, List.getElem_cons_zero, Act.put, List.setIfInBounds_toArray, List.set_cons_zero, List.set_cons_succ]
      refine wpAnyH_take (i := 13) (v := ?_) rfl (by kernel_rfl) (by kernel_rfl) (by kernel_rfl) (fun _ _ _ h => h) (yields_pure (by rfl) (fun w => ?_)) (by with_reducible assumption) ?_
      rotate_left
      · (go_simp <;> with_reducible rfl)
      try simp only [List.getElem_toArray, List.getElem_cons_succ, List.getElem_cons_zero, Act.put, List.setIfInBounds_toArray, List.set_cons_zero, List.set_cons_succ]
      refine wpAnyH_done (by kernel_rfl) ?_ _
      refine NoPanic.normal ?_
      have HZ := Lib.hid (HFin.out w2 ((Chg.refl [] wr).drew.trans hc2))
      clear F2 HFin hc2 k2 k0
      go_wp2_with fail
      go_ret2
      exact ⟨_, _, rfl, HZ.out⟩
    · obtain ⟨s, hx0⟩ := first_due hT.ck.qu.ok hpm HD.out HS.out ha hb
      rw [midL_at] at hT hpm
      have hbd : b.due = nw := by simpa [isDue] using hb
      have hok := HOK.out b (by simp)
      have HND : Hid ((nodesC ((tickL nw pre ++ a) ++ b :: r)).Nodup) := Lib.hid (by rw [← midL_at, midL_nodes]; exact HN.out)
      have F2 := Lib.hid (qnext_yes (hT.ck.qu.chg0 (Chg.refl [] wr).drew) (by omega) hx0 (Int.le_refl nw))
      have HT := Lib.hid (hT.chg0 (Chg.refl [] wr).drew)
      have HPM := Lib.hid hpm
      have HV4 := Lib.hid (lenS_own hT.r4)
      have HK := Lib.hid (lateB_keep b)
      clear hT hpm hH HF HJ HD HS HN HOK
      go_wp2_with fail
      have hS0 : (fun W : World => W.cell? ⟨cb, 0, none⟩ = some (.int .i64 nw) ∧ W.cell? ⟨cb, 2, none⟩ = some (.pointer (some ⟨q, 0, none⟩))) wr.drew := ⟨k0, k2⟩
      have HSQ : ∀ W : World, (W.cell? ⟨cb, 0, none⟩ = some (.int .i64 nw) ∧ W.cell? ⟨cb, 2, none⟩ = some (.pointer (some ⟨q, 0, none⟩))) → W.cell? ⟨cb, 2, none⟩ = some (.pointer (some ⟨q, 0, none⟩)) := fun W h => h.2
      have HSN : ∀ W : World, (W.cell? ⟨cb, 0, none⟩ = some (.int .i64 nw) ∧ W.cell? ⟨cb, 2, none⟩ = some (.pointer (some ⟨q, 0, none⟩))) → W.cell? ⟨cb, 0, none⟩ = some (.int .i64 nw) := fun W h => h.1
      refine wp_region_noPanic ?_
      refine wp_region_held_drew (S := fun W : World => W.cell? ⟨cb, 0, none⟩ = some (.int .i64 nw) ∧ W.cell? ⟨cb, 2, none⟩ = some (.pointer (some ⟨q, 0, none⟩))) (by kernel_rfl) hS0 (fun _ => ?_)
      refine wpAnyH_take (i := 0) (v := ?_) rfl (by kernel_rfl) (by kernel_rfl) (by kernel_rfl) (fun _ _ _ h => h) (yields_pure (by rfl) (fun w => ?_)) (by with_reducible assumption) ?_
      rotate_left
      · (go_simp <;> with_reducible rfl)
      try simp only [List.getElem_toArray, List.getElem_cons_succ, List.getElem_cons_zero, Act.put, List.setIfInBounds_toArray, List.set_cons_zero, List.set_cons_succ]
      refine wpAnyH_take (i := 1) (v := ?_) rfl (by kernel_rfl) (by kernel_rfl) (by kernel_rfl) (fun _ _ _ h => h) (yields_pure (by rfl) (fun w => ?_)) (by with_reducible assumption) ?_
      rotate_left
      · (go_simp <;> with_reducible rfl)
      try simp only [List.getElem_toArray, List.getElem_cons_succ, List.getElem_cons_zero, Act.put, List.setIfInBounds_toArray, List.set_cons_zero, List.set_cons_succ]
      refine wpAnyH_take (i := 2) (v := ?_) rfl (by kernel_rfl) (by kernel_rfl) (by kernel_rfl) (fun _ _ _ h => h) (yields_pure (by rfl) (fun w => ?_)) (by with_reducible assumption) ?_
      rotate_left
      · (go_simp <;> with_reducible rfl)
      try simp only [List.getElem_toArray, List.getElem_cons_succ, List.getElem_cons_zero, Act.put, List.setIfInBounds_toArray, List.set_cons_zero, List.set_cons_succ]
      refine wpAnyH_take (i := 3) rfl (by kernel_rfl) (by kernel_rfl) (by kernel_rfl) (fun _ _ _ h => h) (yields_cell (by rfl) 60 (.tmp 22) rfl cb 2 rfl (.pointer (some ⟨q, 0, none⟩)) _ HSQ Try.underlying60 rfl) (by with_reducible assumption) ?_
      try simp only [List.getElem_toArray, List.getElem_cons_succ, List.getElem_cons_zero, Act.put, List.setIfInBounds_toArray, List.set_cons_zero, List.set_cons_succ]
      refine wpAnyH_take (i := 4) (v := ?_) rfl (by kernel_rfl) (by kernel_rfl) (by kernel_rfl) (fun _ _ _ h => h) (yields_pure (by rfl) (fun w => ?_)) (by with_reducible assumption) ?_
      rotate_left
      · (go_simp <;> with_reducible rfl)
      try simp only [List.getElem_toArray, List.getElem_cons_succ, List.getElem_cons_zero, Act.put, List.setIfInBounds_toArray, List.set_cons_zero, List.set_cons_succ]
      refine wpAnyH_take (i := 5) (v := ?_) rfl (by kernel_rfl) (by kernel_rfl) (by kernel_rfl) (fun _ _ _ h => h) (yields_pure (by rfl) (fun w => ?_)) (by with_reducible assumption) ?_
      rotate_left
      · (go_simp <;> with_reducible rfl)
      try simp only [List.getElem_toArray, List.getElem_cons_succ, List.getElem_cons_zero, Act.put, List.setIfInBounds_toArray, List.set_cons_zero, List.set_cons_succ]
      refine wpAnyH_take (i := 6) (v := ?_) rfl (by kernel_rfl) (by kernel_rfl) (by kernel_rfl) (fun _ _ _ h => h) (yields_pure (by rfl) (fun w => ?_)) (by with_reducible assumption) ?_
      rotate_left
      · (go_simp <;> with_reducible rfl)
      try simp only [List.getElem_toArray, List.getElem_cons_succ, List.getElem_cons_zero, Act.put, List.setIfInBounds_toArray, List.set_cons_zero, List.set_cons_succ]
      refine wpAnyH_take (i := 7) rfl (by kernel_rfl) (by kernel_rfl) (by kernel_rfl) (fun _ _ _ h => h) (yields_cell (by rfl) 3 (.tmp 26) rfl cb 0 rfl (.int .i64 nw) _ HSN Try.underlying3 rfl) (by with_reducible assumption) ?_
      try simp only [List.getElem_toArray, List.getElem_cons_succ, List.getElem_cons_zero, Act.put, List.setIfInBounds_toArray, List.set_cons_zero, List.set_cons_succ]
      refine wpAnyH_ready (rs := [8]) (by kernel_rfl) (by simp) (AllReadyH.cons rfl (fun K hK => ?_) AllReadyH.nil)
      go_simp
      refine F2.out.mono ?_
      rintro e w2 ⟨rfl, hTu⟩
      obtain ⟨vs2, its2, hT2, hp2⟩ := HT.out.turn hTu
      have hS2 : (fun W : World => W.cell? ⟨cb, 0, none⟩ = some (.int .i64 nw) ∧ W.cell? ⟨cb, 2, none⟩ = some (.pointer (some ⟨q, 0, none⟩))) w2 := ⟨hT2.ck.blk.cell 0, hT2.ck.blk.cell 2⟩
      refine hK.out _ _ (by with_reducible assumption) (fun _ => ?_)
      clear hK K
      try simp only [List.getElem_toArray, List.getElem_cons_succ, List.getElem_cons_zero, Act.put, List.setIfInBounds_toArray, List.set_cons_zero, List.set_cons_succ]
      refine wpAnyH_take (i := 9) (v := ?_) rfl (by kernel_rfl) (by kernel_rfl) (by kernel_rfl) (fun _ _ _ h => h) (yields_pure (by rfl) (fun w => ?_)) (by with_reducible assumption) ?_
      rotate_left
      · (go_simp <;> with_reducible rfl)
      try simp only [List.getElem_toArray, List.getElem_cons_succ, List.getElem_cons_zero, Act.put, List.setIfInBounds_toArray, List.set_cons_zero, List.set_cons_succ]
      refine wpAnyH_take (i := 10) (v := ?_) rfl (by kernel_rfl) (by kernel_rfl) (by kernel_rfl) (fun _ _ _ h => h) (yields_pure (by rfl) (fun w => ?_)) (by with_reducible assumption) ?_
      rotate_left
      · (go_simp <;> with_reducible rfl)
      try simp only [List.getElem_toArray, List.getElem_cons_succ, List.getElem_cons_zero, Act.put, List.setIfInBounds_toArray, List.set_cons_zero, List.set_cons_succ]
      refine wpAnyH_take (i := 11) (v := ?_) rfl (by kernel_rfl) (by kernel_rfl) (by kernel_rfl) (fun _ _ _ h => h) (yields_pure (by rfl) (fun w => ?_)) (by with_reducible assumption) ?_
      rotate_left
      · (go_simp <;> with_reducible rfl)
      try simp only [List.getElem_toArray, List.getElem_cons_succ, List.getElem_cons_zero, Act.put, List.setIfInBounds_toArray, List.set_cons_zero, List.set_cons_succ]
      refine wpAnyH_take (i := 12) (v := ?_) rfl (by kernel_rfl) (by kernel_rfl) (by kernel_rfl) (fun _ _ _ h => h) (yields_pure (by rfl) (fun w => ?_)) (by with_reducible assumption) ?_
      rotate_left
      · (go_simp <;> with_reducible rfl)
      try simp only [List.getElem_toArray, List.getElem_cons_succ, List.getElem_cons_zero, Act.put, List.setIfInBounds_toArray, List.set_cons_zero, List.set_cons_succ]
      refine wpAnyH_take (i := 13) (v := ?_) rfl (by kernel_rfl) (by kernel_rfl) (by kernel_rfl) (fun _ _ _ h => h) (yields_pure (by rfl) (fun w => ?_)) (by with_reducible assumption) ?_
      rotate_left
      · (go_simp <;> with_reducible rfl)
      try simp only [List.getElem_toArray, List.getElem_cons_succ, List.getElem_cons_zero, Act.put, List.setIfInBounds_toArray, List.set_cons_zero, List.set_cons_succ]
      refine wpAnyH_done (by kernel_rfl) ?_ _
      refine NoPanic.normal ?_
      have hil2 : its2.length ≤ 2900 := by have := hp2.length_eq; simp at this; omega
      have HP2 := Lib.hid hp2
      have k1 : w2.cell? ⟨cb, 1, none⟩ = some (.map (some m)) := hT2.ck.blk.cell 1
      have hwf : (Lit.int .i64 b.node).wf = true := wf_i64 (by omega) (by omega)
      have hmem : b.node ∈ nodesC ((tickL nw pre ++ a) ++ b :: r) := by simp [nodesC]
      have hk : (Instr.lookup 59 (.map (some m)) (.int .i64 b.node) false).run Try.prog w2 = .ok (.pointer (some ⟨G b.node, 0, none⟩)) w2 := by
        have := hT2.ck.om.look Try.underlying59 (zeroPB w2) (x := b.node) hwf
        simp only [mB, hmem, if_true, Option.getD_some] at this
        exact this
      have F3 := Lib.hid (late_any b (hT2.ck.bk b (by simp)) (by omega) (by omega))
      have HT2 := Lib.hid hT2
      clear hT2 hTu hp2 F2 HT k2 k0 hwf hmem hx0
      go_wp2_with fail
      refine F3.out.mono ?_
      rintro e w3 ⟨rfl, hb3, hc3⟩
      have hT3 := HT2.out.upd HND.out HK.out.1 hc3 hb3
      clear F3 HT2 hb3 hc3 k1 hk
      cases hlt : (lateB b).2 with
      | false =>
        have hv4b : (prL nw pre).length ≤ 300 := by have := prL_len nw pre; omega
        have F4 := Lib.hid (next_any (lateB b).1 (hT3.ck.bk (lateB b).1 (by simp)) (by rw [HK.out.2.1]; omega) (by rw [HK.out.2.1]; omega))
        rw [HK.out.1, HK.out.2.1] at F4
        have HT3 := Lib.hid hT3
        clear hT3
        go_wp2_with fail
        refine F4.out.mono ?_
        rintro e w4 ⟨rfl, hb4, hc4⟩
        have hT4 := HT3.out.upd (x := stepB nw b) (by rw [nodes_mid HK.out.1]; exact HND.out) ((stepB_node nw b).trans HK.out.1.symm) (by rw [HK.out.1]; exact hc4) (by rw [HK.out.1]; exact hb4)
        have hrow4 := hT4.r4
        have hsz4 := hT4.chg.size
        have hcat : Sl (w4.alloc (.cells #[.int .i64 b.node, .int .i64 (nextS b.seq)] 32)) 0 2 (.slice (some ⟨w4.heap.size, 0, none⟩) 1 1) 1 (encPr (b.node, nextS b.seq)) := litPr w4 _ _
        have HT4 := Lib.hid hT4
        clear hT4 hb4 hc4 F4 HT3
        go_wp2_with (first | (at_builtin; refine wpList_app elPr rfl (.tmp 48) (.tmp 53) rfl w.heap.size rfl (own_chg hrow4 ((Chg.refl [] w4).alloc _) (by simp)) rfl hcat (encPr_one _) (by unfold maxLen; omega) (by omega) (by simp; omega) ?_; intro v6 w6 hown6 hc6 hb6) | fail)
        have hT6 := HT4.out.app4 ((Chg.refl [] w4).alloc _) hown6 hc6 hb6
        have k2 : w6.drew.cell? ⟨cb, 2, none⟩ = some (.pointer (some ⟨q, 0, none⟩)) := hT6.ck.blk.cell 2
        have j2 : w6.cell? ⟨cb, 2, none⟩ = some (.pointer (some ⟨q, 0, none⟩)) := hT6.ck.blk.cell 2
        have k0 : w6.drew.cell? ⟨cb, 0, none⟩ = some (.int .i64 nw) := hT6.ck.blk.cell 0
        have j0 : w6.cell? ⟨cb, 0, none⟩ = some (.int .i64 nw) := hT6.ck.blk.cell 0
        have hT7 := hT6.chg0 (Chg.refl [] w6).drew
        have F5 := Lib.hid (qadd_any hT7.ck.qu hil2 hs0' (by omega) (nw + 4) b.node)
        have HT7 := Lib.hid hT7
        clear hT6 hT7 hown6 hc6 hb6 hrow4 hsz4 hcat HT4
        go_wp2_with fail
        go_still_tail 10, (by kernel_rfl)
        change wpList _ _ _ _ _ w6.drew
        go_wp2_with fail
        refine F5.out.mono ?_
        rintro e w8 ⟨rfl, hTu8⟩
        obtain ⟨vs8, its8, hT8, hp8⟩ := HT7.out.turn hTu8
        have HFI := Lib.hid (And.intro hT8 hp8)
        clear F5 HT7 hTu8 hT8 hp8 k0 k2 j0 j2
        go_wp2_with fail
        go_roundw
        case rel =>
          obtain ⟨hT8, hp8⟩ := HFI.out
          refine ⟨pre ++ a ++ [b], r, vs8, sq' + 1, its8, by simp, Lib.hid ⟨?_, ?_⟩, by omega, by simp; omega⟩
          · rw [midL_step ha hb, prL_step ha hb, dnL_step ha hb, hlt, if_neg (by decide), List.append_nil]
            exact hT8
          · rw [midL_step ha hb]
            exact pm_step HPM.out hbd HP2.out ((stepB_node nw b)) hp8
        case measure =>
          have e6 := lenS_own HFI.out.1.r4
          rw [e6, HV4.out]
          simp only [List.length_append, List.length_cons, List.length_nil]
          have h9 := prL_len nw (pre ++ a ++ [b])
          rw [prL_step ha hb, List.length_append, List.length_singleton] at h9
          simp at h9
          simp
          omega
      | true =>
        have hrow5 := hT3.r5
        have hsz5 := hT3.chg.size
        have hcat5 : Sl (w3.alloc (.cells #[.int .i64 b.node, .bool false] 34)) 0 2 (.slice (some ⟨w3.heap.size, 0, none⟩) 1 1) 1 (encDn b.node) := litDn w3 _
        have hv5b : (dnL nw pre).length ≤ 300 := by have := dnL_len nw pre; simp at hlK; omega
        have HT3' := Lib.hid hT3
        clear hT3
        go_wp2_with (first | (at_builtin; refine wpList_app elDn rfl (.tmp 43) (.tmp 46) rfl w.heap.size rfl (own_chg hrow5 ((Chg.refl [] w3).alloc _) (by simp)) rfl hcat5 (encDn_one _) (by unfold maxLen; omega) (by omega) (by simp; omega) ?_; intro v5' w5 hown5 hc5 hb5) | fail)
        have hT3 := HT3'.out.app5 ((Chg.refl [] w3).alloc _) hown5 hc5 hb5
        clear hrow5 hsz5 hcat5 HT3' hown5 hc5 hb5
        have hv4b : (prL nw pre).length ≤ 300 := by have := prL_len nw pre; omega
        have F4 := Lib.hid (next_any (lateB b).1 (hT3.ck.bk (lateB b).1 (by simp)) (by rw [HK.out.2.1]; omega) (by rw [HK.out.2.1]; omega))
        rw [HK.out.1, HK.out.2.1] at F4
        have HT3 := Lib.hid hT3
        clear hT3
        go_wp2_with fail
        refine F4.out.mono ?_
        rintro e w4 ⟨rfl, hb4, hc4⟩
        have hT4 := HT3.out.upd (x := stepB nw b) (by rw [nodes_mid HK.out.1]; exact HND.out) ((stepB_node nw b).trans HK.out.1.symm) (by rw [HK.out.1]; exact hc4) (by rw [HK.out.1]; exact hb4)
        have hrow4 := hT4.r4
        have hsz4 := hT4.chg.size
        have hcat : Sl (w4.alloc (.cells #[.int .i64 b.node, .int .i64 (nextS b.seq)] 32)) 0 2 (.slice (some ⟨w4.heap.size, 0, none⟩) 1 1) 1 (encPr (b.node, nextS b.seq)) := litPr w4 _ _
        have HT4 := Lib.hid hT4
        clear hT4 hb4 hc4 F4 HT3
        go_wp2_with (first | (at_builtin; refine wpList_app elPr rfl (.tmp 48) (.tmp 53) rfl w.heap.size rfl (own_chg hrow4 ((Chg.refl [] w4).alloc _) (by simp)) rfl hcat (encPr_one _) (by unfold maxLen; omega) (by omega) (by simp; omega) ?_; intro v6 w6 hown6 hc6 hb6) | fail)
        have hT6 := HT4.out.app4 ((Chg.refl [] w4).alloc _) hown6 hc6 hb6
        have k2 : w6.drew.cell? ⟨cb, 2, none⟩ = some (.pointer (some ⟨q, 0, none⟩)) := hT6.ck.blk.cell 2
        have j2 : w6.cell? ⟨cb, 2, none⟩ = some (.pointer (some ⟨q, 0, none⟩)) := hT6.ck.blk.cell 2
        have k0 : w6.drew.cell? ⟨cb, 0, none⟩ = some (.int .i64 nw) := hT6.ck.blk.cell 0
        have j0 : w6.cell? ⟨cb, 0, none⟩ = some (.int .i64 nw) := hT6.ck.blk.cell 0
        have hT7 := hT6.chg0 (Chg.refl [] w6).drew
        have F5 := Lib.hid (qadd_any hT7.ck.qu hil2 hs0' (by omega) (nw + 4) b.node)
        have HT7 := Lib.hid hT7
        clear hT6 hT7 hown6 hc6 hb6 hrow4 hsz4 hcat HT4
        go_wp2_with fail
        go_still_tail 10, (by kernel_rfl)
        change wpList _ _ _ _ _ w6.drew
        go_wp2_with fail
        refine F5.out.mono ?_
        rintro e w8 ⟨rfl, hTu8⟩
        obtain ⟨vs8, its8, hT8, hp8⟩ := HT7.out.turn hTu8
        have HFI := Lib.hid (And.intro hT8 hp8)
        clear F5 HT7 hTu8 hT8 hp8 k0 k2 j0 j2
        go_wp2_with fail
        go_roundw
        case rel =>
          obtain ⟨hT8, hp8⟩ := HFI.out
          refine ⟨pre ++ a ++ [b], r, vs8, sq' + 1, its8, by simp, Lib.hid ⟨?_, ?_⟩, by omega, by simp; omega⟩
          · rw [midL_step ha hb, prL_step ha hb, dnL_step ha hb, hlt, if_pos rfl]
            exact hT8
          · rw [midL_step ha hb]
            exact pm_step HPM.out hbd HP2.out ((stepB_node nw b)) hp8
        case measure =>
          have e6 := lenS_own HFI.out.1.r4
          rw [e6, HV4.out]
          simp only [List.length_append, List.length_cons, List.length_nil]
          have h9 := prL_len nw (pre ++ a ++ [b])
          rw [prL_step ha hb, List.length_append, List.length_singleton] at h9
          simp at h9
          simp
          omega
end Go.Proofs.Ytgbdbeaflilmlaa
