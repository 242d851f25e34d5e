/-
  WALKS: the versions of a history, one by one; the newest one, all, and their pairs. Condition: as many versions as may be.
-/
import Derived.Test.YtecblclpchndiaaGreatPermF
import Derived.Test.YtecblclpchndiaaGreatPool2
import Derived.Test.YtecblclpchndiaaGreatPickTwo
set_option linter.unusedVariables false
set_option linter.unusedSimpArgs false
namespace Go.Proofs.YtecblclpchndiaaGreat
open Go.RowKit Go.Shelf

/-- An iterator hands over N elements; R: what each of them is in the world in which it is handed over, behind those ahead of it, and in the world in which the caller was last. -/
def SeqR {α : Type} (n : Nat) (P : Program) (gf : Nat) (lb : Array Value) (encs : α → Array Value) (Kp : World → World → Prop) (R : List α → α → World → World → Prop) (N : Nat) (w : World) : Prop :=
  ∀ (l : Nat) (J : List α → World → Prop) (W : World), Chg [] w W → (∀ s A B, J s A → Chg [] A B → J s B) →
    (∀ pre x A₀ A, J pre A₀ → Chg [] A₀ A → pre.length < N → R pre x A₀ A → YieldAt Fence.wide (n - 1) P l (encs x) A fun e B => e = .returned (.bool true) ∧ J (pre ++ [x]) B ∧ Kp A B) →
    J [] W → CallsIn Fence.wide n P gf (#[.func (.yield l) #[] #[]] ++ lb) W fun e B => (∃ v, e = .returned v) ∧ ∃ xs, xs.length = N ∧ J xs B
/-- A body that goes on. -/
def goesOn {α : Type} (Kp : World → World → Prop) (I : List α → World → Prop) (xs : List α) (W : World) : Exit → Act → World → Prop
  | .normal, _, B => KeepsOthers W B ∧ Kp W B ∧ I xs B
  | _, _, _ => False
theorem grown_of_chg {w w' : World} (h : Chg [] w w') : w.grownBy w' none := ⟨h.os, h.tape, h.output, h.size, fun k hk _ => h.block k hk (by simp)⟩

theorem wpIn_range_rel {α : Type} {n : Nat} {P : Program} {g : Operand} {ps : Array Tmp} {assign body : Code} {Q : Exit → Act → World → Prop} {a : Act} {w : World} (h1 : 1 ≤ n) {gf : Nat} {lb : Array Value}
    (hg : a.eval g = .func (.func gf) #[] lb) (eg : ∀ args w, (callFunc gf args).run P w = .ok (.enter gf args) w)
    {encs : α → Array Value} {Kp : World → World → Prop} {R : List α → α → World → World → Prop} {N : Nat} {w0 : World} (hseq : SeqR (n - 1) P gf lb encs Kp R N w0) (hw0 : Chg [] w0 w)
    (hKt : ∀ {A B C : World}, Kp A B → Kp B C → Kp A C) (hKb : ∀ (W : World) (l : Nat) (o o' : Obj), w.heap.size ≤ l → W.heap[l]? = some o → o.isCells = false → o.isWalk = false → Kp W (W.putObj l o'))
    (hps : ∀ x, (encs x).size = ps.size) (I : List α → World → Prop) (hI : OwnFrom w.heap.size I) (hR : ∀ pre A₀, OwnFrom w.heap.size (fun x W => R pre x A₀ W)) (h0 : I [] w) (hKc : ∀ A B, w.heap.size ≤ A.heap.size → Chg [] A B → Kp A B) (Ax : α → Act → World → Prop) (hAx : ∀ x, OwnFrom w.heap.size (Ax x))
    (hassign : ∀ (l : Nat) (pre : List α) (x : α) (A₀ W : World), w.heap.size ≤ W.heap.size → R pre x A₀ W →
      assign.wpIn (Fence.wide.inRound l) (n - 1 - 1) P (Exit.then (fun a₁ W₁ => Chg [] W W₁ ∧ Ax x a₁ W₁) (fun _ _ _ => False)) { tmps := (ps.zip (encs x)).foldl (fun t (p, v) => t.setIfInBounds p v) a.tmps, defers := [] } W)
    (hbody : ∀ (l : Nat) (pre : List α) (x : α) (a₁ : Act) (A₀ W : World), w.heap.size ≤ W.heap.size → I pre A₀ → (∀ (k : Nat) (o : Obj), A₀.heap[k]? = some o → o.isCells = true → W.heap[k]? = some o) → I pre W → pre.length < N → R pre x A₀ W → Ax x a₁ W → body.wpIn (Fence.wide.inRound l) (n - 1 - 1) P (goesOn Kp I (pre ++ [x]) W) a₁ W)
    (hdone : ∀ (D : Nat) (xs : List α) (W : World), w.heap.size ≤ D → xs.length = N → I xs W → W.heap[D]? = some (.deferred (some [])) → Q .normal { a with defers := { target := .collected D, args := #[] } :: a.defers } W) :
    (Code.rangeFunc g ps assign body).wpIn Fence.wide n P Q a w := by
  refine wpIn_rangeFunc fun fn hfn => ?_
  let lp (st : LoopState) : Loop := { state := st, pending := none, fn := fn, tmps := a.tmps, params := ps, assign := assign, body := body, defers := w.heap.size }
  have hA : Chg [] w ((w.alloc (.deferred (some []))).alloc (.loop (lp .ready))) := ((Chg.refl [] w).alloc _).alloc _
  have hD : ((w.alloc (.deferred (some []))).alloc (.loop (lp .ready))).heap[w.heap.size]? = some (.deferred (some [])) := (Below.heap_alloc _ _ _ (by simp)).trans (World.alloc_heap_new w _)
  have hL : ((w.alloc (.deferred (some []))).alloc (.loop (lp .ready))).heap[w.heap.size + 1]? = some (.loop (lp .ready)) := by
    have := World.alloc_heap_new (w.alloc (.deferred (some []))) (.loop (lp .ready))
    rwa [World.size_alloc] at this
  obtain ⟨W1, hW1⟩ : ∃ W1, W1 = (w.alloc (.deferred (some []))).alloc (.loop (lp .ready)) := ⟨_, rfl⟩
  refine ⟨w.heap.size + 1, [{ target := .collected w.heap.size, args := #[] }], W1, { target := .fn (.func gf) lb, args := #[.func (.yield (w.heap.size + 1)) #[] #[]] }, W1, gf, #[.func (.yield (w.heap.size + 1)) #[] #[]] ++ lb, W1,
    by rw [hW1]; exact run_enterLoop_outer _ _ _ _ _, ?_, fun f' hf' => trivial, ?_, fun _ => h1, ?_⟩
  · simp only [resolve, hg]
    simp [go_sem]
  · simp [invoke, go_sem, eg]
  rw [← hW1] at hA hD hL
  clear hW1
  refine (hseq (w.heap.size + 1) (fun pre A => I pre A ∧ A.heap[w.heap.size + 1]? = some (.loop (lp .ready)) ∧ A.heap[w.heap.size]? = some (.deferred (some []))) W1 (hw0.trans hA)
    (fun s A B ⟨i, j, k⟩ hc => ⟨hI s A B none i (grown_of_chg hc) (fun r e => by cases e), (hc.block _ (Array.getElem?_eq_some_iff.1 j).1 (by simp)).trans j, (hc.block _ (Array.getElem?_eq_some_iff.1 k).1 (by simp)).trans k⟩)
    ?_ ⟨hI _ _ _ none h0 (grown_of_chg hA) (fun r e => by cases e), hL, hD⟩).mono ?_
  · rintro pre x A₀ A ⟨hi₀, hl₀, hk₀⟩ hc₀ hlen hr
    have hi := hI _ _ _ none hi₀ (grown_of_chg hc₀) (fun r e => by cases e)
    have hl := (hc₀.block _ (Array.getElem?_eq_some_iff.1 hl₀).1 (by simp)).trans hl₀
    have hk := (hc₀.block _ (Array.getElem?_eq_some_iff.1 hk₀).1 (by simp)).trans hk₀
    have hlt0 := (Array.getElem?_eq_some_iff.1 hl).1
    refine ⟨fn, _, assign, body, run_yield hl (hps x), roundIn_of_wpIn hfn (wpIn_mono (hassign _ pre x A₀ A (by omega) hr) ?_)⟩
    rintro e0 a1 A' he0
    cases e0 with
    | ret => exact he0.elim
    | exit id => exact he0.elim
    | goto t => exact he0.elim
    | panic ch => exact he0.elim
    | outgrown => exact he0.elim
    | normal =>
    obtain ⟨hcA, hax⟩ := he0
    have hw1 := hKc A A' (by omega) hcA
    have hl := (hcA.block _ hlt0 (by simp)).trans hl
    have hk := (hcA.block _ (Array.getElem?_eq_some_iff.1 hk).1 (by simp)).trans hk
    have hi := hI _ _ _ none hi (grown_of_chg hcA) (fun r e => by cases e)
    have hr := hR pre A₀ _ _ _ none hr (grown_of_chg hcA) (fun r e => by cases e)
    have hlt := (Array.getElem?_eq_some_iff.1 hl).1
    refine ⟨_, run_beginRound hl rfl, ?_⟩
    have hw2 := hKb A' (w.heap.size + 1) _ (.loop { lp .ready with state := .busy }) (by omega) hl rfl rfl
    have hl2 : (A'.putObj (w.heap.size + 1) (.loop { lp .ready with state := .busy })).heap[w.heap.size + 1]? = some (.loop (lp .busy)) := World.putObj_heap_same hlt
    have hk2 : (A'.putObj (w.heap.size + 1) (.loop { lp .ready with state := .busy })).heap[w.heap.size]? = some (.deferred (some [])) := (World.putObj_heap_other (by omega)).trans hk
    have hlk : ∀ (k : Nat) (o : Obj), A₀.heap[k]? = some o → o.isCells = true → (A'.putObj (w.heap.size + 1) (.loop { lp .ready with state := .busy })).heap[k]? = some o := fun k o h1 h2 => by
      have hne : k ≠ w.heap.size + 1 := fun e => by
        subst e
        rw [hl₀] at h1
        cases h1
        cases h2
      rw [World.putObj_heap_other hne, hcA.block _ (Nat.lt_of_lt_of_le (Array.getElem?_eq_some_iff.1 h1).1 hc₀.size) (by simp), hc₀.block _ (Array.getElem?_eq_some_iff.1 h1).1 (by simp)]
      exact h1
    refine wpIn_mono (hbody _ pre x a1 A₀ _ (by simp; omega) hi₀ hlk (hI.putObj _ hi (by omega) hl rfl) hlen ((hR pre A₀).putObj _ hr (by omega) hl rfl) ((hAx x).putObj _ hax (by omega) hl rfl)) ?_
    rintro e a3 W3 hp
    cases e with
    | normal =>
      obtain ⟨ho, hk3, hi3⟩ := hp
      have hl3 := ho.same _ _ hl2 rfl
      have hk4 := ho.same _ _ hk2 rfl
      have hlt3 := (Array.getElem?_eq_some_iff.1 hl3).1
      refine ⟨_, _, run_endRound none hl3, rfl, ⟨hI.putObj _ hi3 (by omega) hl3 rfl, World.putObj_heap_same hlt3, (World.putObj_heap_other (by omega)).trans hk4⟩, hKt (hKt (hKt hw1 hw2) hk3) (hKb _ _ _ _ (by omega) hl3 rfl rfl)⟩
    | ret => exact hp.elim
    | exit id => exact hp.elim
    | goto t => exact hp.elim
    | panic ch => exact hp.elim
    | outgrown => exact hp.elim
  · rintro e W2 ⟨⟨v, rfl⟩, xs, hxs, hi, hl, hk⟩
    exact ⟨none, _, run_endLoop hl (by show LoopState.ready ≠ LoopState.busy; simp), hdone _ xs _ (Nat.le_refl _) hxs (hI.putObj _ hi (by omega) hl rfl) ((World.putObj_heap_other (by omega)).trans hk)⟩
end Go.Proofs.YtecblclpchndiaaGreat
namespace Go.Proofs.YtecblclpchndiaaGreat
open Go.RowKit Go.Shelf

attribute [local go_sem] Oper.semAt_some

/-- What lay when the iterator began lies as it lay, but for block s. -/
structure KeepX (n₀ s : Nat) (A B : World) : Prop where
  os : B.os = A.os
  tape : B.tape = A.tape
  output : B.output = A.output
  size : A.heap.size ≤ B.heap.size
  block : ∀ k, k < n₀ → k ≠ s → B.heap[k]? = A.heap[k]?
theorem KeepX.trans {n₀ s : Nat} {A B C : World} (h : KeepX n₀ s A B) (k : KeepX n₀ s B C) : KeepX n₀ s A C :=
  ⟨k.os.trans h.os, k.tape.trans h.tape, k.output.trans h.output, Nat.le_trans h.size k.size, fun i hi hs => (k.block i hi hs).trans (h.block i hi hs)⟩
theorem KeepX.chg {s : Nat} {w A B : World} (hc : Chg [s] w A) (h : KeepX w.heap.size s A B) : Chg [s] w B :=
  ⟨h.os.trans hc.os, h.tape.trans hc.tape, h.output.trans hc.output, Nat.le_trans hc.size h.size, fun k hk hs => (h.block k hk (by simpa using hs)).trans (hc.block k hk hs)⟩
theorem KeepX.of {n₀ s : Nat} {S : List Nat} {A B : World} (h : Chg S A B) (hS : ∀ x ∈ S, x = s ∨ n₀ ≤ x) (hn : n₀ ≤ A.heap.size) : KeepX n₀ s A B :=
  ⟨h.os, h.tape, h.output, h.size, fun k hk hs => h.block k (by omega) (fun hm => (hS k hm).elim hs (by omega))⟩
theorem keepX_b {n₀ s : Nat} {w : World} (hn : n₀ ≤ w.heap.size) (W : World) (l : Nat) (o o' : Obj) (hl : w.heap.size ≤ l) (h : W.heap[l]? = some o) (_ : o.isCells = false) (_ : o.isWalk = false) : KeepX n₀ s W (W.putObj l o') :=
  ⟨rfl, rfl, rfl, by simp, fun k hk _ => World.putObj_heap_other (by omega)⟩
theorem HiR.stepX {w w' : World} {N hp s : Nat} {rv : Value} {S : List Nat} {es : List Ve} {V : List Vs} {last : Int} (h : HiR w N hp rv S es V last) (hc : Chg [s] w w') (hs : s ∉ footH hp rv) (hS : s ∈ S) : HiR w' N hp rv S es V last :=
  ⟨h.blk.chg hc (by intro e; simp at e; exact hs (by simp [footH, e])), own_chg h.row hc (by intro x hx e; simp at e; subst e; exact hs (by simp only [footH, List.mem_cons]; exact .inr hx)), h.apart, h.foot, h.low,
    h.vers.step (hc.more (by intro x hx; simp at hx; subst hx; exact hS)) (fun x hx => .inl hx)⟩
theorem HiR.addS {w : World} {N hp s : Nat} {rv : Value} {S : List Nat} {es : List Ve} {V : List Vs} {last : Int} (h : HiR w N hp rv S es V last) (hs : w.heap.size ≤ s) : HiR w N hp rv (s :: S) es V last :=
  ⟨h.blk, h.row, h.apart, fun x hx => List.mem_cons_of_mem _ (h.foot x hx), h.low, h.vers.step (Chg.refl _ _) (fun x hx => by
    rcases List.mem_cons.1 hx with rfl | hx
    · exact .inr hs
    · exact .inl hx)⟩
/-- What is handed over in turn. -/
def RV (S : List Nat) (V : List Vs) (pre : List Ve) (x : Ve) (A₀ W : World) : Prop := (∃ y, V[pre.length]? = some y ∧ VeR W S x y) ∧ ∀ g ∈ x.tv.ownBlock.toList, A₀.heap.size ≤ g
theorem agg_enc (x : Ve) : (encV x).toArray = #[.int .i64 x.num, .int .i64 x.frm, .int .i64 x.unt, x.tv] := rfl

set_option maxRecDepth 100000 in
set_option maxHeartbeats 4000000 in
theorem each1_in (n : Nat) (hn : 1 ≤ n) {w W : World} {N hp Bh s : Nat} {rv : Value} {S : List Nat} {es : List Ve} {V : List Vs} {last : Int} (h : HiR w N hp rv S es V last) (hs : s ∉ footH hp rv) (hS : s ∈ S) (hBh : w.cell? ⟨Bh, 0, none⟩ = some (.pointer (some ⟨hp, 0, none⟩))) (hBs : Bh ≠ s) (hVl : V.length ≤ 1000) (hTL : ∀ x ∈ V, x.tab.length ≤ 1000) (hSw : ∀ x ∈ S, x < w.heap.size)
    (hW : Chg [] w W) (l : Nat) (J : List Ve → World → Prop) (hJ : ∀ p A B, J p A → Chg [] A B → J p B)
    (hY : ∀ pre x A₀ A, J pre A₀ → Chg [] A₀ A → pre.length < V.length → RV S V pre x A₀ A → YieldAt Fence.wide (n - 1) Tryz.prog l #[.agg #[.int .i64 x.num, .int .i64 x.frm, .int .i64 x.unt, x.tv]] A fun e B => e = .returned (.bool true) ∧ J (pre ++ [x]) B ∧ KeepX w.heap.size s A B) (h0 : J [] W) :
    CallsIn Fence.wide n Tryz.prog 67 #[.func (.yield l) #[] #[], .pointer (some ⟨Bh, 0, none⟩)] W fun e B => (∃ v, e = .returned v) ∧ ∃ xs, xs.length = V.length ∧ J xs B := by
  have hW0 : Chg [s] w W := hW.more (by simp)
  have F1 := Lib.hid (callsIn_wide (n := n - 1).2 (isH_any ((h.stepX hW0 hs hS).blk)))
  have c1 := hW0.cell (h.blk.cell 1) (by intro e; simp at e; exact hs (by simp [footH, e]))
  have cB := hW0.cell hBh (by simpa using hBs)
  have c1 : W.cell? ⟨hp, 1, none⟩ = some rv := c1
  obtain ⟨A, c, rfl⟩ := Sl.form (Sl.of_own h.row)
  have hl := h.vers.1
  rw [hl] at c1
  have H := Lib.hid h
  have HJ := Lib.hid hJ
  have HY := Lib.hid hY
  have H0 := Lib.hid h0
  have HW := Lib.hid hW0
  clear h hJ hY h0 hW hW0
  refine callsIn_of_wp Tryz.func67 rfl trivial ?_ rfl
  simp only [Tryz.ntmps67, List.size_toArray, List.length_cons, List.length_nil, Nat.reduceAdd, Nat.reduceSub, Array.replicate_succ, Array.replicate_zero, List.push_toArray, List.append_toArray, List.nil_append, List.cons_append]
  gi_wp2_with (refine ⟨trivial, ?_⟩; gi_at_call 68; refine F1.out.mono ?_; rintro e w' ⟨rfl, rfl⟩)
  have HTL : Hid (∀ (i : Nat) y, V[i]? = some y → y.tab.length ≤ 1000) := Lib.hid fun i y h => hTL y (List.mem_of_getElem? h)
  have HX : Hid (∀ i, i < V.length → ∃ y, V[i]? = some y) := Lib.hid fun i hi => ⟨_, List.getElem?_eq_getElem hi⟩
  gi_loopw [13] (fun i wr => ∃ k : Nat, k ≤ V.length ∧ i = .int .i64 k ∧ ∃ pre : List Ve, Hid (pre.length = k) ∧ Hid (J pre wr) ∧ Hid (Chg [s] w wr)) (fun i _ => V.length - (intOf i).toNat)
  case atStart => exact ⟨0, Nat.zero_le _, rfl, [], Lib.hid rfl, H0, HW⟩
  case round =>
    obtain ⟨k, hk, rfl, pre, HP, HJr, HC⟩ := hrel
    by_cases hlt : k < V.length
    · have hcn : (k : Int) < (V.length : Int) := by omega
      obtain ⟨y, hy⟩ := HX.out k hlt
      obtain ⟨b, o, c', e, hv, hcap, he, hve, c0, c1', c2, c3⟩ := (H.out.stepX HC.out hs hS).at_ hy
      simp only [hl, Value.slice.injEq, true_and] at hv
      obtain ⟨rfl, rfl⟩ := hv
      have HV := Lib.hid hve
      obtain ⟨num, frm, unt, tab⟩ := y
      obtain ⟨T, tc, et⟩ := Sl.form hve.tab.1
      simp only at c0 c1' c2 c3 et hve
      rw [et] at c3
      have HY1 := Lib.hid hy
      clear hve hy he HX F1 H0 HW
      have hA := (Chg.refl [] wr).alloc (.cells #[.int .i64 num, .int .i64 frm, .int .i64 unt, .slice T tab.length tc] 46)
      have hB : Blk (wr.alloc (.cells #[.int .i64 num, .int .i64 frm, .int .i64 unt, .slice T tab.length tc] 46)) wr.heap.size 46 #[.int .i64 num, .int .i64 frm, .int .i64 unt, .slice T tab.length tc] := Blk.new _ _ _
      have htl : tab.length ≤ 1000 := HTL.out k _ HY1.out
      have htv : SlZ wr 0 (.slice T tab.length tc) tab := by have := HV.out.tab.1; rw [et] at this; exact this
      have FC := Lib.hid (callsIn_wide (n := n - 1).2 (cloneZ_any (htv.chg0 hA) htl))
      have HAB := Lib.hid (And.intro hA hB)
      clear hA hB htl htv et
      gi_wp2_with (refine ⟨trivial, ?_⟩; gi_at_call 69; refine FC.out.mono ?_; rintro e2 w2 ⟨v2, rfl, hown2, hc2⟩; obtain ⟨T2, n2, tc2, rfl⟩ : ∃ A n c, v2 = .slice A n c := ⟨_, _, _, (Sl.form (Sl.of_own hown2)).choose_spec.choose_spec⟩; have hB2 := HAB.out.2.chg hc2 (by simp); have k0 := hB2.cell 0; have k1 := hB2.cell 1; have k2 := hB2.cell 2; have k3 := hB2.cell 3; have f3 := hB2.frozen 3; simp only [List.getElem?_toArray, List.getElem?_cons_succ, List.getElem?_cons_zero] at k0 k1 k2 k3)
      have hsz := HC.out.size
      have hc3 : Chg [wr.heap.size] w2 (w2.setCell ⟨wr.heap.size, 3, none⟩ (.slice T2 n2 tc2)) := (Chg.refl [wr.heap.size] w2).setCell (p := ⟨wr.heap.size, 3, none⟩) (.inl (by simp)) _
      have hc03 : Chg [] wr (w2.setCell ⟨wr.heap.size, 3, none⟩ (.slice T2 n2 tc2)) := (HAB.out.1.trans hc2).setCell (p := ⟨wr.heap.size, 3, none⟩) (.inr (by simp)) _
      have hlt2 := own_lt hown2
      have hown3 := own_chg hown2 hc3 (fun x hx e => by simp at e; subst e; have := (hlt2 _ hx).1; rw [World.size_alloc] at this; omega)
      have hsz3 := hc03.size
      obtain ⟨fn, tmps, assign, body, hy, hR⟩ := HY.out pre ⟨num, frm, unt, .slice T2 n2 tc2⟩ wr (w2.setCell ⟨wr.heap.size, 3, none⟩ (.slice T2 n2 tc2)) HJr.out hc03 (by rw [HP.out]; exact hlt)
        ⟨⟨_, by rw [HP.out]; exact HY1.out, rfl, rfl, rfl, Sl.less (Sl.of_own hown3) (Nat.zero_le _), fun g hg => ⟨(own_lt hown3 g hg).2, fun hm => by have := hSw g hm; have := (hlt2 _ hg).1; rw [World.size_alloc] at this; omega⟩⟩, fun g hg => by have := (hlt2 _ hg).1; rw [World.size_alloc] at this; omega⟩
      have HR := Lib.hid hR
      have HC3 := Lib.hid (HC.out.trans (hc03.more (T := [s]) (by simp)))
      have HJX := Lib.hid (And.intro HP.out trivial)
      clear hR hown3 hlt2 hown2 hc3 hc03 hB2 k0 k1 k2 k3 f3 hc2 hsz hsz3 HAB FC HV HY1 c0 c1' c2 c3 HTL HY hTL hSw hcn
      gi_wp2
      refine HR.out.mono ?_
      rintro e W4 ⟨rfl, hJ4, hk4⟩
      have HJ4 := Lib.hid hJ4
      have HC4 := Lib.hid (hk4.chg HC3.out)
      clear hJ4 hk4
      gi_wp2
      go_roundw
      case rel => exact ⟨k + 1, by omega, by go_num, pre ++ [⟨num, frm, unt, .slice T2 n2 tc2⟩], Lib.hid (by rw [List.length_append, HP.out]; rfl), HJ4, HC4⟩
      case measure => simp [intOf]; omega
    · obtain rfl : k = V.length := by omega
      have hcn : ¬ (V.length : Int) < (V.length : Int) := by omega
      have HFIN := Lib.hid (And.intro HP.out HJr.out)
      clear HX F1 H0 HW HTL hTL hSw HY
      gi_wp2
      go_end0
      exact ⟨⟨_, rfl⟩, pre, HFIN.out⟩
/-- The maker of the iterator. -/
theorem each_any (a : Option Addr) (w : World) :
    Calls Tryz.prog 53 #[.pointer a] w fun e w' => e = .returned (.func (.func 67) #[] #[.pointer (some ⟨w.heap.size, 0, none⟩)]) ∧ w' = w.alloc (.cells #[.pointer a] 64) := by
  go_enter Tryz.func53, Tryz.ntmps53
  go_wp2
  go_ret
  exact ⟨rfl, rfl⟩
/-- The iterator's contract. -/
theorem each_seq (n : Nat) (hn : 1 ≤ n) {w : World} {N hp Bh s : Nat} {rv : Value} {S : List Nat} {es : List Ve} {V : List Vs} {last : Int} (h : HiR w N hp rv S es V last) (hs : s ∉ footH hp rv) (hS : s ∈ S) (hBh : w.cell? ⟨Bh, 0, none⟩ = some (.pointer (some ⟨hp, 0, none⟩))) (hBs : Bh ≠ s)
    (hVl : V.length ≤ 1000) (hTL : ∀ x ∈ V, x.tab.length ≤ 1000) (hSw : ∀ x ∈ S, x < w.heap.size) :
    SeqR n Tryz.prog 67 #[.pointer (some ⟨Bh, 0, none⟩)] (fun x : Ve => #[.agg #[.int .i64 x.num, .int .i64 x.frm, .int .i64 x.unt, x.tv]]) (KeepX w.heap.size s) (RV S V) V.length w := fun l J W hW hJ hY h0 =>
  each1_in n hn h hs hS hBh hBs hVl hTL hSw hW l J hJ hY h0
end Go.Proofs.YtecblclpchndiaaGreat
namespace Go.Proofs.YtecblclpchndiaaGreat
open Go.RowKit Go.Shelf

attribute [local go_sem] Oper.semAt_some

theorem chg_of_row {W W' : World} {row : Option Nat} (hg : W.grownBy W' row) (hr : ∀ r, row = some r → ∃ o : Obj, W.heap[r]? = some o ∧ o.isCells = false) : Chg row.toList W W' := ⟨hg.os, hg.tape, hg.output, hg.size, fun k hk hS => hg.block k hk (fun e => hS (by simp [← e]))⟩
theorem cells_row {W W' : World} {row : Option Nat} (hg : W.grownBy W' row) (hr : ∀ r, row = some r → ∃ o : Obj, W.heap[r]? = some o ∧ o.isCells = false) {g : Nat} {cs : Array Value} {t : TypeId} {u} (h : W.heap[g]? = some (.cells cs t u)) : g ∉ row.toList := fun hm => by
  simp at hm
  obtain ⟨o, ho, hn⟩ := hr g hm
  rw [h] at ho
  cases ho
  cases hn
theorem Blk.kept {W W' : World} {row : Option Nat} (hg : W.grownBy W' row) (hr : ∀ r, row = some r → ∃ o : Obj, W.heap[r]? = some o ∧ o.isCells = false) {g : Nat} {t : TypeId} {cs : Array Value} (h : Blk W g t cs) : Blk W' g t cs := h.chg (chg_of_row hg hr) (cells_row hg hr h)
theorem Sl.kept {W W' : World} {row : Option Nat} (hg : W.grownBy W' row) (hr : ∀ r, row = some r → ∃ o : Obj, W.heap[r]? = some o ∧ o.isCells = false) {B size n : Nat} {v : Value} {xs : List Value} (h : Sl W B size v n xs) : Sl W' B size v n xs := by
  obtain ⟨hl, A, c, hv, hcap, hx⟩ := h
  refine ⟨hl, A, c, hv, hcap, fun hn => ?_⟩
  obtain ⟨b, o, hA, hb, hx⟩ := hx hn
  exact ⟨b, o, hA, hb, fun j u hu => cell_kept (hx j u hu) hg hr⟩
theorem VeR.kept {W W' : World} {row : Option Nat} (hg : W.grownBy W' row) (hr : ∀ r, row = some r → ∃ o : Obj, W.heap[r]? = some o ∧ o.isCells = false) {S : List Nat} {e : Ve} {x : Vs} (h : VeR W S e x) : VeR W' S e x := ⟨h.num, h.frm, h.unt, Sl.kept hg hr h.tab.1, fun g hm => ⟨Nat.lt_of_lt_of_le (h.tab.2 g hm).1 hg.size, (h.tab.2 g hm).2⟩⟩
def zeroVe : Ve := ⟨0, 0, 0, .slice none 0 0⟩
/-- The last one of those that were handed over. -/
def LastR (W : World) (S : List Nat) (V : List Vs) (pre : List Ve) (x : Ve) : Prop := (pre = [] ∧ x = zeroVe) ∨ ∃ y, 0 < pre.length ∧ V[pre.length - 1]? = some y ∧ VeR W S x y
theorem LastR.kept {W W' : World} {row : Option Nat} (hg : W.grownBy W' row) (hr : ∀ r, row = some r → ∃ o : Obj, W.heap[r]? = some o ∧ o.isCells = false) {S : List Nat} {V : List Vs} {pre : List Ve} {x : Ve} (h : LastR W S V pre x) : LastR W' S V pre x := by
  rcases h with h | ⟨y, a, b, c⟩
  · exact .inl h
  · exact .inr ⟨y, a, b, c.kept hg hr⟩
/-- What Newest says. -/
def NewR (W : World) (S : List Nat) (V : List Vs) (x : Ve) (b : Bool) : Prop := (V = [] ∧ x = zeroVe ∧ b = false) ∨ ∃ y, V[V.length - 1]? = some y ∧ VeR W S x y ∧ b = true
/-- .. as a value. -/
def NewP (e : Ending) (W : World) (S : List Nat) (V : List Vs) : Prop := ∃ (x : Ve) (b : Bool), e = .returned (.tuple #[.agg #[.int .i64 x.num, .int .i64 x.frm, .int .i64 x.unt, x.tv], .bool b]) ∧ NewR W S V x b
theorem LastR.new {W : World} {S S' : List Nat} {V : List Vs} {pre : List Ve} {x : Ve} (h : LastR W S V pre x) (hl : pre.length = V.length) (hn : ∀ y ∈ V, 1 ≤ y.num) (hS : ∀ z ∈ S', z ∈ S) : NewR W S' V x (decide (0 < x.num)) := by
  rcases h with ⟨h1, h2⟩ | ⟨y, h1, h2, h3⟩
  · subst h1 h2
    exact .inl ⟨List.eq_nil_of_length_eq_zero (by simpa using hl.symm), rfl, rfl⟩
  · refine .inr ⟨y, by rw [← hl]; exact h2, h3.step (Chg.refl _ _) (fun z hz => .inl (hS z hz)), ?_⟩
    have := hn y (List.mem_of_getElem? h2)
    rw [h3.num]
    simp
    omega
theorem hlr0 {W W' : World} {g : Nat} {S : List Nat} {V : List Vs} {pre : List Ve} {x : Ve} (h : LastR W S V pre x) (hc : Chg [g] W W') (hS : g ∈ S) : LastR W' S V pre x := by
  rcases h with h | ⟨y, a, b, c⟩
  · exact .inl h
  · exact .inr ⟨y, a, b, c.step (hc.more (by intro z hz; simp at hz; subst hz; exact hS)) (fun z hz => .inl hz)⟩
theorem Blk.four {w : World} {g : Nat} {t : TypeId} {a b c d : Value} (h : Blk w g t #[a, b, c, d]) (a' b' c' d' : Value) : Blk ((((w.setCell ⟨g, 0, none⟩ a').setCell ⟨g, 1, none⟩ b').setCell ⟨g, 2, none⟩ c').setCell ⟨g, 3, none⟩ d') g t #[a', b', c', d'] :=
  ((((h.set_ 0 a').set_ 1 b').set_ 2 c').set_ 3 d')
theorem Chg.four (w : World) (g : Nat) (a' b' c' d' : Value) : Chg [g] w ((((w.setCell ⟨g, 0, none⟩ a').setCell ⟨g, 1, none⟩ b').setCell ⟨g, 2, none⟩ c').setCell ⟨g, 3, none⟩ d') :=
  ((((Chg.refl [g] w).setCell (p := ⟨g, 0, none⟩) (.inl (by simp)) a').setCell (p := ⟨g, 1, none⟩) (.inl (by simp)) b').setCell (p := ⟨g, 2, none⟩) (.inl (by simp)) c').setCell (p := ⟨g, 3, none⟩) (.inl (by simp)) d'
theorem keepsO_blk {W W' : World} {s : Nat} {t : TypeId} {cs : Array Value} (h : Chg [s] W W') (hb : Blk W s t cs) : KeepsOthers W W' := keepsO_chg h (fun x hx => by simp at hx; subst hx; exact ⟨_, _, _, hb⟩)

set_option maxRecDepth 100000 in
set_option maxHeartbeats 4000000 in
theorem newestH_any {w : World} {N hp : Nat} {rv : Value} {S : List Nat} {es : List Ve} {V : List Vs} {last : Int} (h : HiR w N hp rv S es V last) (hok : OkV V) (hSw : ∀ x ∈ S, x < w.heap.size) :
    Calls Tryz.prog 78 #[.pointer (some ⟨hp, 0, none⟩)] w fun e w' => NewP e w' S V ∧ Chg [] w w' := by
  refine (callsIn_wide (n := 5)).1 ?_
  have hA : Chg [] w (((w.alloc (.cells #[.int .i64 0, .int .i64 0, .int .i64 0, .slice none 0 0] 46)).alloc (.cells #[.int .i64 0, .int .i64 0, .int .i64 0, .slice none 0 0] 46)).alloc (.cells #[.pointer (some ⟨hp, 0, none⟩)] 64)) := ((((Chg.refl [] w).alloc _).alloc _).alloc _)
  have hB2 : Blk (((w.alloc (.cells #[.int .i64 0, .int .i64 0, .int .i64 0, .slice none 0 0] 46)).alloc (.cells #[.int .i64 0, .int .i64 0, .int .i64 0, .slice none 0 0] 46)).alloc (.cells #[.pointer (some ⟨hp, 0, none⟩)] 64)) w.heap.size 46 #[.int .i64 0, .int .i64 0, .int .i64 0, .slice none 0 0] := ((Blk.new _ _ _).alloc _).alloc _
  have hB4 : Blk (((w.alloc (.cells #[.int .i64 0, .int .i64 0, .int .i64 0, .slice none 0 0] 46)).alloc (.cells #[.int .i64 0, .int .i64 0, .int .i64 0, .slice none 0 0] 46)).alloc (.cells #[.pointer (some ⟨hp, 0, none⟩)] 64)) (w.heap.size + 1) 46 #[.int .i64 0, .int .i64 0, .int .i64 0, .slice none 0 0] := (Blk.new' (by simp)).alloc _
  have hBh : Blk (((w.alloc (.cells #[.int .i64 0, .int .i64 0, .int .i64 0, .slice none 0 0] 46)).alloc (.cells #[.int .i64 0, .int .i64 0, .int .i64 0, .slice none 0 0] 46)).alloc (.cells #[.pointer (some ⟨hp, 0, none⟩)] 64)) (w.heap.size + 2) 64 #[.pointer (some ⟨hp, 0, none⟩)] := Blk.new' (by simp)
  have hz : (((w.alloc (.cells #[.int .i64 0, .int .i64 0, .int .i64 0, .slice none 0 0] 46)).alloc (.cells #[.int .i64 0, .int .i64 0, .int .i64 0, .slice none 0 0] 46)).alloc (.cells #[.pointer (some ⟨hp, 0, none⟩)] 64)).heap.size = w.heap.size + 3 := by simp
  have HI := Lib.hid (And.intro hA (And.intro hB2 (And.intro hB4 (And.intro hBh hz))))
  have H := Lib.hid h
  clear hA hB2 hB4 hBh hz h
  refine callsIn_of_wp_marks Tryz.func78 rfl trivial ?_ rfl
  simp only [Tryz.ntmps78, List.size_toArray, List.length_cons, List.length_nil, Nat.reduceAdd, Nat.reduceSub, Array.replicate_succ, Array.replicate_zero, List.push_toArray, List.append_toArray, List.nil_append, List.cons_append]
  gi_wp2_with (refine ⟨trivial, ?_⟩; gi_at_call 53; refine (callsIn_wide.2 (each_any _ _)).mono ?_; rintro e w' ⟨rfl, rfl⟩)
  obtain ⟨hA, hB2, hB4, hBh, hz⟩ := HI.out
  generalize (((w.alloc (.cells #[.int .i64 0, .int .i64 0, .int .i64 0, .slice none 0 0] 46)).alloc (.cells #[.int .i64 0, .int .i64 0, .int .i64 0, .slice none 0 0] 46)).alloc (.cells #[.pointer (some ⟨hp, 0, none⟩)] 64)) = w5 at *
  have hfS := fun x hx => hSw x (H.out.foot x hx)
  have hs' : w.heap.size + 1 ∉ footH hp rv := fun hm => by have := hfS _ hm; omega
  have H5 := ((H.out.addS (s := w.heap.size) (by omega)).addS (s := w.heap.size + 1) (by omega)).chg0 hA
  have hseq := each_seq (5 - 1) (by omega) H5 hs' (List.mem_cons_self ..) (hBh.cell 0) (by omega) (by have := hok.len; omega) (fun x hx => by have := hok.tab x hx; omega)
    (fun x hx => by
      rw [hz]
      simp only [List.mem_cons] at hx
      rcases hx with rfl | rfl | hx
      · omega
      · omega
      · have := hSw x hx; omega)
  refine wpIn_range_rel (by omega) (gf := 67) (lb := #[.pointer (some ⟨w.heap.size + 2, 0, none⟩)]) rfl (enters_of Tryz.func67 (by kernel_rfl) rfl)
    hseq (Chg.refl [] _) (fun h k => h.trans k) (keepX_b (Nat.le_refl _)) (fun _ => rfl)
    (fun pre W => ((∃ x : Ve, Blk W (w.heap.size + 1) 46 #[.int .i64 x.num, .int .i64 x.frm, .int .i64 x.unt, x.tv] ∧ LastR W ((w.heap.size + 1) :: w.heap.size :: S) V pre x) ∧ Blk W w.heap.size 46 #[.int .i64 0, .int .i64 0, .int .i64 0, .slice none 0 0]) ∧ Below w.heap.size w W)
    ?hI ?hR ?h0 (fun A B hAz hc => KeepX.of hc (by simp) hAz)
    (fun x a W => ∃ b, a = { tmps := #[.pointer (some ⟨hp, 0, none⟩), undef, .pointer (some ⟨w.heap.size, 0, none⟩), .bool false, .pointer (some ⟨w.heap.size + 1, 0, none⟩), .pointer (some ⟨b, 0, none⟩), .pointer (some ⟨hp, 0, none⟩), .func (.func 67) #[] #[.pointer (some ⟨w.heap.size + 1 + 1, 0, none⟩)], .agg #[.int .i64 x.num, .int .i64 x.frm, .int .i64 x.unt, x.tv], undef, undef, undef, undef, undef], defers := [] } ∧ w5.heap.size ≤ b ∧ Blk W b 46 #[.int .i64 x.num, .int .i64 x.frm, .int .i64 x.unt, x.tv])
    ?hAx ?assign ?body ?done
  case hI =>
    refine OwnFrom.and (Own.from (fun s A B row hs hg hr => ?_) _) (ownFrom_below (Nat.le_refl _) (by omega))
    obtain ⟨⟨x, h1, h2⟩, h3⟩ := hs
    exact ⟨⟨x, h1.kept hg hr, h2.kept hg hr⟩, h3.kept hg hr⟩
  case hR =>
    intro pre A0
    refine Own.from (fun x A B row hs hg hr => ?_) _
    obtain ⟨⟨y, h1, h2⟩, h3⟩ := hs
    exact ⟨⟨y, h1, h2.kept hg hr⟩, h3⟩
  case h0 => exact ⟨⟨⟨zeroVe, hB4, .inl ⟨rfl, rfl⟩⟩, hB2⟩, hA.below⟩
  case hAx =>
    intro x
    refine Own.from (fun a A B row hs hg hr => ?_) _
    obtain ⟨b, h1, h2, h3⟩ := hs
    exact ⟨b, h1, h2, h3.kept hg hr⟩
  case assign =>
    rintro l pre x A0 W hWz ⟨⟨y, hy, hv⟩, hfr⟩
    obtain ⟨T, tc, et⟩ := Sl.form hv.tab.1
    obtain ⟨num, frm, unt, tv⟩ := x
    simp only at et ⊢
    subst et
    clear hv hfr hseq H H5 HI hB2 hB4 hBh hA
    gi_wp2
    exact ⟨(Chg.refl [] W).alloc _, _, rfl, hWz, Blk.new _ _ _⟩
  case body =>
    rintro l pre x a1 A0 W hWz hI0 hlk ⟨⟨⟨x0, hb4, hl0⟩, hb2⟩, hbW⟩ hlen ⟨⟨y, hy, hv⟩, hfr⟩ ⟨b, rfl, hbz, hbb⟩
    obtain ⟨T, tc, et⟩ := Sl.form hv.tab.1
    obtain ⟨num, frm, unt, tv⟩ := x
    simp only at et hbb ⊢
    subst et
    have k0 := hbb.cell 0
    have k1 := hbb.cell 1
    have k2 := hbb.cell 2
    have k3 := hbb.cell 3
    have n0 := hb4.cell 0
    have n1 := hb4.cell 1
    have n2 := hb4.cell 2
    have n3 := hb4.cell 3
    have f0 := hb4.frozen 0
    have f1 := hb4.frozen 1
    have f2 := hb4.frozen 2
    have f3 := hb4.frozen 3
    simp only [List.getElem?_toArray, List.getElem?_cons_succ, List.getElem?_cons_zero] at k0 k1 k2 k3 n0 n1 n2 n3
    have HF := Lib.hid (And.intro hb4 (And.intro hb2 (And.intro hbW (And.intro hv hfr))))
    clear hb4 hb2 hbW hv hfr hbb hseq H H5 HI hB2 hB4 hBh hA hl0 hI0 hlk
    gi_wp2
    obtain ⟨hb4, hb2, hbW, hv, hfr⟩ := HF.out
    have hc := Chg.four W (w.heap.size + 1) (.int .i64 num) (.int .i64 frm) (.int .i64 unt) (.slice T y.tab.length tc)
    have hsW := hbW.size
    refine ⟨keepsO_blk hc hb4, KeepX.of hc (by simp) (by omega), ⟨⟨⟨num, frm, unt, .slice T y.tab.length tc⟩, hb4.four _ _ _ _, .inr ⟨y, by simp, by simpa using hy, hv.step (hc.more (by simp)) (fun x hx => .inl hx)⟩⟩, hb2.chg hc (by simp)⟩, hbW.trans (hc.below' (by omega) (by simp))⟩
  case done =>
    rintro D ys W hD hys ⟨⟨⟨x, hb4, hlr⟩, hb2⟩, hB⟩ hK
    obtain ⟨T, tn, tc, et⟩ : ∃ T n c, x.tv = .slice T n c := by
      rcases hlr with ⟨h1, h2⟩ | ⟨y, h1, h2, h3⟩
      · subst h2
        exact ⟨none, 0, 0, rfl⟩
      · obtain ⟨T, c, e⟩ := Sl.form h3.tab.1
        exact ⟨T, _, c, e⟩
    obtain ⟨num, frm, unt, tv⟩ := x
    simp only at et hb4
    subst et
    have HL := Lib.hid hlr
    have HB := Lib.hid hB
    have HK := Lib.hid hK
    have HSR : ∀ W : World, Blk W (w.heap.size + 1) 46 #[.int .i64 num, .int .i64 frm, .int .i64 unt, .slice T tn tc] → W.rangeAt (w.heap.size + 1) 0 (#[.int .i64 num, .int .i64 frm, .int .i64 unt, .slice T tn tc] : Array Value).toList := fun W h => h.rangeQ
    have HSC : ∀ W : World, Blk W (w.heap.size + 1) 46 #[.int .i64 num, .int .i64 frm, .int .i64 unt, .slice T tn tc] → W.cell? ⟨w.heap.size + 1, 0, none⟩ = some (.int .i64 num) := fun W h => h.cell 0
    have hS0 := hb4.drew
    have hb2d := hb2.drew
    clear hseq H5 HI hB2 hB4 hBh hK hlr hB hA hs' hfS
    gi_wp2
    refine wpIn_wide.2 ?_
    refine wp_region_noPanic ?_
    refine wp_region_held_drew (S := fun W : World => Blk W (w.heap.size + 1) 46 #[.int .i64 num, .int .i64 frm, .int .i64 unt, .slice T tn tc]) (by kernel_rfl) hS0 (fun _ => ?_)
    refine wpAnyH_take (i := 0) rfl (by kernel_rfl) (by kernel_rfl) (by kernel_rfl) (fun _ _ _ h => h) (yields_row (by rfl) 46 (.tmp 4) rfl (w.heap.size + 1) 0 rfl (#[.int .i64 num, .int .i64 frm, .int .i64 unt, .slice T tn tc]) _ HSR Tryz.underlying46 rfl (by kernel_rfl)) (by with_reducible assumption) ?_
    try simp only [List.getElem_toArray, List.getElem_cons_succ, List.getElem_cons_zero, Act.put, List.setIfInBounds_toArray, List.set_cons_zero, List.set_cons_succ]
    refine wpAnyH_take (i := 1) (v := ?_) rfl (by kernel_rfl) (by kernel_rfl) (by kernel_rfl) (fun _ _ _ h => h) (yields_pure (by rfl) (fun w => ?_)) (by with_reducible assumption) ?_
    rotate_left
    · (go_simp <;> with_reducible rfl)
    try simp only [List.getElem_toArray, List.getElem_cons_succ, List.getElem_cons_zero, Act.put, List.setIfInBounds_toArray, List.set_cons_zero, List.set_cons_succ]
    refine wpAnyH_take (i := 2) rfl (by kernel_rfl) (by kernel_rfl) (by kernel_rfl) (fun _ _ _ h => h) (yields_cell (by rfl) 3 (.tmp 11) rfl (w.heap.size + 1) 0 rfl (.int .i64 num) _ HSC Tryz.underlying3 rfl) (by with_reducible assumption) ?_
    try simp only [List.getElem_toArray, List.getElem_cons_succ, List.getElem_cons_zero, Act.put, List.setIfInBounds_toArray, List.set_cons_zero, List.set_cons_succ]
    refine wpAnyH_take (i := 3) (v := ?_) rfl (by kernel_rfl) (by kernel_rfl) (by kernel_rfl) (fun _ _ _ h => h) (yields_pure (by rfl) (fun w => ?_)) (by with_reducible assumption) ?_
    rotate_left
    · (go_simp <;> with_reducible rfl)
    try simp only [List.getElem_toArray, List.getElem_cons_succ, List.getElem_cons_zero, Act.put, List.setIfInBounds_toArray, List.set_cons_zero, List.set_cons_succ]
    refine wpAnyH_ready (rs := [4]) (by kernel_rfl) (by simp) (AllReadyH.cons rfl (fun K hK => ?_) AllReadyH.nil)
    refine step_store_blk rfl 46 (.tmp 2) (.tmp 10) rfl hb2d rfl rfl rfl (by kernel_rfl) rfl ?_
    intro w7 hb7 hc7
    have hS7 : (fun W : World => Blk W (w.heap.size + 1) 46 #[.int .i64 num, .int .i64 frm, .int .i64 unt, .slice T tn tc]) w7 := hS0.chg hc7 (by simp)
    refine hK.out _ _ (by with_reducible assumption) (fun _ => ?_)
    clear hK K
    try simp only [List.getElem_toArray, List.getElem_cons_succ, List.getElem_cons_zero, Act.put, List.setIfInBounds_toArray, List.set_cons_zero, List.set_cons_succ]
    refine wpAnyH_take (i := 5) (v := ?_) rfl (by kernel_rfl) (by kernel_rfl) (by kernel_rfl) (fun _ _ _ h => h) (yields_pure (by rfl) (fun w => ?_)) (by with_reducible assumption) ?_
    rotate_left
    · (go_simp <;> with_reducible rfl)
    try simp only [List.getElem_toArray, List.getElem_cons_succ, List.getElem_cons_zero, Act.put, List.setIfInBounds_toArray, List.set_cons_zero, List.set_cons_succ]
    refine wpAnyH_done (by kernel_rfl) ?_ _
    refine NoPanic.normal ?_
    have hK7 : w7.heap[D]? = some (.deferred (some [])) := (hc7.block D (Array.getElem?_eq_some_iff.1 HK.out).1 (by simp; omega)).trans HK.out
    gi_wp2
    refine ⟨by simp, .inl ⟨_, _, rfl, run_takeDeferred hK7, ?_⟩⟩
    have hg8 := grownBy_putObj' w7 D (.deferred none)
    have hr8 : ∀ r, some D = some r → ∃ o : Obj, w7.heap[r]? = some o ∧ o.isCells = false := fun r e => by cases e; exact ⟨_, hK7, rfl⟩
    have hb8 := hb7.kept hg8 hr8
    have hcW : Chg [w.heap.size] W w7 := (Chg.refl [w.heap.size] W).drew.trans hc7
    have hl8 := (hlr0 HL.out hcW (by simp)).kept hg8 hr8
    refine ⟨_, results_blk2 (fn := Tryz.f78) (p := 2) (q := 3) rfl rfl hb8 _ Tryz.underlying46 rfl (by kernel_rfl), ⟨⟨num, frm, unt, .slice T tn tc⟩, decide (0 < num), rfl, hl8.new hys (fun y hy => (hok.rng y hy).1) (fun z hz => List.mem_cons_of_mem _ (List.mem_cons_of_mem _ hz))⟩, ?_⟩
    have hsB := HB.out.size
    exact Chg.of_below ((HB.out.trans (hcW.below' (by omega) (by simp))).trans (belowK_b (w := w) (Nat.le_refl _) w7 D _ _ (by omega) hK7 rfl rfl))
end Go.Proofs.YtecblclpchndiaaGreat
namespace Go.Proofs.YtecblclpchndiaaGreat
open Go.RowKit Go.Shelf

attribute [local go_sem] Oper.semAt_some

/-- An append of one's own row inside a fence; where the row is. -/
theorem wpListIn_app2 {P : Program} {t e : TypeId} {z : Value} {size bytes : Nat} {w : World} (el : El P t e z size bytes) {F : Fence} {q : Nat} {ops : Array Oper} {rest : List Oper} {o : Oper} {a : Act} {Q : Exit → Act → World → Prop} (hgd : o.guard = none) (s x : Operand)
    (ho : o.op = .call { callee := .builtin .append, args := #[s, x], argTypes := #[t, t] })
    (base : Nat) {v : Value} {n : Nat} {xs : List Value} (hs : a.eval s = v) (hown : w.ownsRow base e size v n xs)
    {B : Nat} {sv : Value} {m : Nat} {news : List Value} (hx : a.eval x = sv) (hr : Sl w B size sv m news) (h1 : ∀ u ∈ news, u.oneCell' = true)
    (h63 : n + m ≤ maxLen) (hbytes : (n + m) * bytes ≤ 140737488355328) (hbase : base ≤ w.heap.size)
    (h : ∀ v' w', w'.ownsRow base e size v' (n + m) (xs ++ news) → Chg v.ownBlock.toList w w' → (v'.ownBlock = v.ownBlock ∨ v'.ownBlock = some w.heap.size) → wpListIn F q P ops Q rest (a.put o.dst v') w') :
    wpListIn F q P ops Q (o :: rest) a w := by
  refine wpListIn_plain hgd fun K hK' => ?_
  obtain ⟨v', w', hrun, h2, h3, h5⟩ := app_run el o.type base hown hr h1 h63 hbytes hbase
  unfold Oper.wpIn
  refine ⟨?_, ?_⟩
  · simp [Oper.about, ho, resolve, Target.leads, Sem.run_pure]
  · rw [Oper.semAt_plain F _ _ (by rw [ho]; intro c hc'; cases hc')]
    simp [execOp, ho, resolve, invoke, builtin, hs, hx, hrun, Result.andThen]
    exact hK' _ _ (h v' w' h2 h3 h5)
/-- A row of versions whose tables lie in no block of the list, nor in the row. -/
structure OutV (B b : Nat) (S : List Nat) (V : List Vs) (pre : List Ve) (W : World) (v : Value) : Prop where
  blk : Blk W b 34 #[v]
  own : W.ownsRow B 46 4 v pre.length (pre.flatMap encV)
  low : b < B
  big : B ≤ W.heap.size
  len : pre.length ≤ V.length
  vers : ∀ (i : Nat) (x : Ve) (y : Vs), pre[i]? = some x → V[i]? = some y → VeR W (v.ownBlock.toList ++ S) x y
theorem OutV.kept {W W' : World} {row : Option Nat} (hg : W.grownBy W' row) (hr : ∀ r, row = some r → ∃ o : Obj, W.heap[r]? = some o ∧ o.isCells = false) {B b : Nat} {S : List Nat} {V : List Vs} {pre : List Ve} {v : Value} (h : OutV B b S V pre W v) : OutV B b S V pre W' v := by
  refine ⟨h.blk.kept hg hr, own_chg h.own (chg_of_row hg hr) (fun x hx => ?_), h.low, Nat.le_trans h.big hg.size, h.len, fun i x y a b => (h.vers i x y a b).kept hg hr⟩
  obtain ⟨cs, t, o, hc⟩ := own_cells h.own x hx
  exact cells_row hg hr hc
theorem OutV.snoc {W W1 W2 : World} {B b : Nat} {S : List Nat} {V : List Vs} {pre : List Ve} {v v2 : Value} {x : Ve} {y : Vs} (h : OutV B b S V pre W v) (hb : b ∈ S) (hA : Chg [] W W1) (hc : Chg v.ownBlock.toList W1 W2)
    (hown : W2.ownsRow B 46 4 v2 (pre.length + 1) (pre.flatMap encV ++ [.int .i64 x.num, .int .i64 x.frm, .int .i64 x.unt, x.tv])) (hv : v2.ownBlock = v.ownBlock ∨ v2.ownBlock = some W1.heap.size)
    (hy : V[pre.length]? = some y) (hx : VeR W S x y) (hfr : ∀ g ∈ x.tv.ownBlock.toList, g ∉ v.ownBlock.toList) :
    OutV B b S V (pre ++ [x]) (W2.setCell ⟨b, 0, none⟩ v2) v2 ∧ Chg (b :: v.ownBlock.toList) W (W2.setCell ⟨b, 0, none⟩ v2) := by
  have hlo := own_lt hown
  have hbl := h.low
  have hlv := own_lt h.own
  have hs : Chg [b] W2 (W2.setCell ⟨b, 0, none⟩ v2) := (Chg.refl [b] W2).setCell (p := ⟨b, 0, none⟩) (.inl (by simp)) v2
  have h8 : Chg (b :: v.ownBlock.toList) W (W2.setCell ⟨b, 0, none⟩ v2) := ((hA.more (by simp)).trans (hc.more (fun z hz => List.mem_cons_of_mem _ hz))).trans (hs.more (fun z hz => by simp at hz; subst hz; exact List.mem_cons_self ..))
  have hS2 : ∀ z ∈ v2.ownBlock.toList ++ S, z ∈ v.ownBlock.toList ++ S ∨ W.heap.size ≤ z := fun z hz => by
    rcases List.mem_append.1 hz with hz | hz
    · rcases hv with e | e
      · rw [e] at hz; exact .inl (List.mem_append_left _ hz)
      · rw [e] at hz; simp at hz; have := hA.size; exact .inr (by omega)
    · exact .inl (List.mem_append_right _ hz)
  have h8' : Chg (v.ownBlock.toList ++ S) W (W2.setCell ⟨b, 0, none⟩ v2) := h8.more (fun z hz => by
    rcases List.mem_cons.1 hz with rfl | hz
    · exact List.mem_append_right _ hb
    · exact List.mem_append_left _ hz)
  have hb2 : Blk W2 b 34 #[v] := (h.blk.chg hA (by simp)).chg hc (fun hm => by have := (hlv _ hm).1; omega)
  refine ⟨⟨hb2.set_ 0 v2, ?_, h.low, ?_, ?_, fun i z u a c => ?_⟩, h8⟩
  · have := own_chg hown hs (fun z hz e => by simp at e; subst e; have := (hlo _ hz).1; omega)
    rw [List.length_append, List.flatMap_append]
    exact this
  · have := h8.size; have := h.big; omega
  · rw [List.length_append]; have := (List.getElem?_eq_some_iff.1 hy).1; simp; omega
  · by_cases hi : i < pre.length
    · rw [List.getElem?_append_left hi] at a
      exact (h.vers i z u a c).step h8' hS2
    · have hle : pre.length ≤ i := by omega
      rw [List.getElem?_append_right hle] at a
      cases hd : i - pre.length with
      | zero =>
        obtain rfl : i = pre.length := by omega
        rw [hd] at a
        simp at a
        subst a
        rw [hy] at c
        injection c with c
        subst c
        refine VeR.step (S := v.ownBlock.toList ++ S) ⟨hx.num, hx.frm, hx.unt, hx.tab.1, fun g hg => ⟨(hx.tab.2 g hg).1, fun hm => ?_⟩⟩ h8' hS2
        rcases List.mem_append.1 hm with hm | hm
        · exact hfr g hg hm
        · exact (hx.tab.2 g hg).2 hm
      | succ k => rw [hd] at a; simp at a

set_option maxRecDepth 100000 in
set_option maxHeartbeats 4000000 in
theorem allH_any {w : World} {N hp : Nat} {rv : Value} {S : List Nat} {es : List Ve} {V : List Vs} {last : Int} (h : HiR w N hp rv S es V last) (hok : OkV V) (hSw : ∀ x ∈ S, x < w.heap.size) :
    Calls Tryz.prog 27 #[.pointer (some ⟨hp, 0, none⟩)] w fun e w' => ∃ (v' : Value) (es' : List Ve), e = .returned v' ∧ w'.ownsRow w.heap.size 46 4 v' es'.length (es'.flatMap encV) ∧ VesR w' (v'.ownBlock.toList ++ S) es' V ∧ Chg [] w w' := by
  refine (callsIn_wide (n := 5)).1 ?_
  have hA : Chg [] w ((w.alloc (.cells #[.slice none 0 0] 34)).alloc (.cells #[.pointer (some ⟨hp, 0, none⟩)] 64)) := (((Chg.refl [] w).alloc _).alloc _)
  have hB3 : Blk ((w.alloc (.cells #[.slice none 0 0] 34)).alloc (.cells #[.pointer (some ⟨hp, 0, none⟩)] 64)) w.heap.size 34 #[.slice none 0 0] := ((Blk.new _ _ _).alloc _)
  have hBh : Blk ((w.alloc (.cells #[.slice none 0 0] 34)).alloc (.cells #[.pointer (some ⟨hp, 0, none⟩)] 64)) (w.heap.size + 1) 64 #[.pointer (some ⟨hp, 0, none⟩)] := Blk.new' (by simp)
  have hz : ((w.alloc (.cells #[.slice none 0 0] 34)).alloc (.cells #[.pointer (some ⟨hp, 0, none⟩)] 64)).heap.size = w.heap.size + 2 := by simp
  have HI := Lib.hid (And.intro hA (And.intro hB3 (And.intro hBh hz)))
  have H := Lib.hid h
  clear hA hB3 hBh hz h
  refine callsIn_of_wp_marks Tryz.func27 rfl trivial ?_ rfl
  simp only [Tryz.ntmps27, List.size_toArray, List.length_cons, List.length_nil, Nat.reduceAdd, Nat.reduceSub, Array.replicate_succ, Array.replicate_zero, List.push_toArray, List.append_toArray, List.nil_append, List.cons_append]
  gi_wp2_with (refine ⟨trivial, ?_⟩; gi_at_call 53; refine (callsIn_wide.2 (each_any _ _)).mono ?_; rintro e w' ⟨rfl, rfl⟩)
  obtain ⟨hA, hB3, hBh, hz⟩ := HI.out
  generalize ((w.alloc (.cells #[.slice none 0 0] 34)).alloc (.cells #[.pointer (some ⟨hp, 0, none⟩)] 64)) = w5 at *
  have hfS := fun x hx => hSw x (H.out.foot x hx)
  have hs' : w.heap.size ∉ footH hp rv := fun hm => by have := hfS _ hm; omega
  have H5 := (H.out.addS (s := w.heap.size) (by omega)).chg0 hA
  have hseq := each_seq (5 - 1) (by omega) H5 hs' (List.mem_cons_self ..) (hBh.cell 0) (by omega) (by have := hok.len; omega) (fun x hx => by have := hok.tab x hx; omega)
    (fun x hx => by
      rw [hz]
      simp only [List.mem_cons] at hx
      rcases hx with rfl | hx
      · omega
      · have := hSw x hx; omega)
  have hVl := hok.len
  refine wpIn_range_rel (by omega) (gf := 67) (lb := #[.pointer (some ⟨w.heap.size + 1, 0, none⟩)]) rfl (enters_of Tryz.func67 (by kernel_rfl) rfl)
    hseq (Chg.refl [] _) (fun h k => h.trans k) (keepX_b (Nat.le_refl _)) (fun _ => rfl)
    (fun pre W => (∃ v, OutV w5.heap.size w.heap.size (w.heap.size :: S) V pre W v) ∧ Below w.heap.size w W)
    ?hI ?hR ?h0 (fun A B hAz hc => KeepX.of hc (by simp) hAz)
    (fun x a W => ∃ b, a = { tmps := #[.pointer (some ⟨hp, 0, none⟩), undef, .slice none 0 0, .pointer (some ⟨w.heap.size, 0, none⟩), .pointer (some ⟨b, 0, none⟩), .pointer (some ⟨hp, 0, none⟩), .func (.func 67) #[] #[.pointer (some ⟨w.heap.size + 1, 0, none⟩)], .agg #[.int .i64 x.num, .int .i64 x.frm, .int .i64 x.unt, x.tv], undef, undef, undef, undef, undef], defers := [] } ∧ w5.heap.size ≤ b ∧ Blk W b 46 #[.int .i64 x.num, .int .i64 x.frm, .int .i64 x.unt, x.tv])
    ?hAx ?assign ?body ?done
  case hI =>
    refine OwnFrom.and (Own.from (fun s A B row hs hg hr => ?_) _) (ownFrom_below (Nat.le_refl _) (by omega))
    obtain ⟨v, h1⟩ := hs
    exact ⟨v, h1.kept hg hr⟩
  case hR =>
    intro pre A0
    refine Own.from (fun x A B row hs hg hr => ?_) _
    obtain ⟨⟨y, h1, h2⟩, h3⟩ := hs
    exact ⟨⟨y, h1, h2.kept hg hr⟩, h3⟩
  case h0 => exact ⟨⟨_, hB3, World.ownsRow_nil .., by omega, Nat.le_refl _, Nat.zero_le _, fun i x y a b => by simp at a⟩, hA.below⟩
  case hAx =>
    intro x
    refine Own.from (fun a A B row hs hg hr => ?_) _
    obtain ⟨b, h1, h2, h3⟩ := hs
    exact ⟨b, h1, h2, h3.kept hg hr⟩
  case assign =>
    rintro l pre x A0 W hWz ⟨⟨y, hy, hv⟩, hfr⟩
    obtain ⟨T, tc, et⟩ := Sl.form hv.tab.1
    obtain ⟨num, frm, unt, tv⟩ := x
    simp only at et ⊢
    subst et
    clear hv hfr hseq H H5 HI hB3 hBh hA
    gi_wp2
    exact ⟨(Chg.refl [] W).alloc _, _, rfl, hWz, Blk.new _ _ _⟩
  case body =>
    rintro l pre x a1 A0 W hWz ⟨⟨v0, hO0⟩, _⟩ hlk ⟨⟨v, hO⟩, hbW⟩ hlen ⟨⟨y, hy, hv⟩, hfr⟩ ⟨b, rfl, hbz, hbb⟩
    obtain rfl : v0 = v := by
      have h1 := hlk _ _ hO0.blk rfl
      have h2 : W.heap[w.heap.size]? = _ := hO.blk
      rw [h1] at h2
      simpa using h2
    have hfr' : ∀ g ∈ x.tv.ownBlock.toList, g ∉ v0.ownBlock.toList := fun g hg hm => by
      have := hfr g hg; have := (own_lt hO0.own g hm).2; omega
    obtain ⟨T, tc, et⟩ := Sl.form hv.tab.1
    obtain ⟨num, frm, unt, tv⟩ := x
    simp only at et hbb hfr' ⊢
    subst et
    have hA1 := (Chg.refl [] W).alloc (.cells #[.int .i64 num, .int .i64 frm, .int .i64 unt, .slice T y.tab.length tc] 46)
    have hl1 := one_v (Blk.new W 46 #[.int .i64 num, .int .i64 frm, .int .i64 unt, .slice T y.tab.length tc])
    have ho1 := one_vk (a := num) (b := frm) (c := unt) hv.tab.1
    have hown1 := own_chg hO.own hA1 (by simp)
    have hob := hO.blk
    have hnb : w.heap.size ∉ v0.ownBlock.toList := fun hm => by have := (own_lt hO.own _ hm).1; omega
    have k0 := hbb.cell 0
    have k1 := hbb.cell 1
    have k2 := hbb.cell 2
    have k3 := hbb.cell 3
    have n0 := hob.cell 0
    simp only [List.getElem?_toArray, List.getElem?_cons_succ, List.getElem?_cons_zero] at k0 k1 k2 k3 n0
    have hB1 := hob.chg hA1 (by simp)
    have HF := Lib.hid (And.intro hO (And.intro hbW (And.intro hv (And.intro hA1 (And.intro hy hfr')))))
    have hbz1 : w5.heap.size ≤ (W.alloc (.cells #[.int .i64 num, .int .i64 frm, .int .i64 unt, .slice T y.tab.length tc] 46)).heap.size := by have := hA1.size; omega
    have hlv : pre.length + 1 ≤ 1000 := by omega
    clear hO hO0 hbW hv hfr hbb hseq H H5 HI hB3 hBh hA hlk hob hA1 hy hfr'
    gi_wp2_with (
      (gi_at_builtin; refine wpListIn_app2 elV rfl (.tmp 8) (.tmp 10) rfl w5.heap.size rfl hown1 rfl hl1 ho1 (by unfold maxLen; omega) (by omega) hbz1 ?_; intro v2 w2 hown2 hc2 hb2; have hb3 := hB1.chg hc2 hnb; have m0 := hb3.cell 0; have m1 := hb3.frozen 0; simp only [List.getElem?_toArray, List.getElem?_cons_succ, List.getElem?_cons_zero] at m0; obtain ⟨A2, c2, rfl⟩ := Sl.form (Sl.of_own hown2)))
    obtain ⟨hO, hbW, hv, hA1, hy, hfr'⟩ := HF.out
    have hlo := own_lt hO.own
    have hsW := hbW.size
    obtain ⟨p1, p2⟩ := hO.snoc (List.mem_cons_self ..) hA1 hc2 hown2 hb2 hy hv hfr'
    rw [← hz]
    refine ⟨keepsO_chg p2 (fun z hz => ?_), KeepX.of p2 (fun z hz => ?_) hWz, ⟨_, p1⟩, hbW.trans (p2.below' (by omega) (fun z hz => ?_))⟩
    · rcases List.mem_cons.1 hz with rfl | hz
      · exact ⟨_, _, _, hO.blk⟩
      · exact own_cells hO.own z hz
    · rcases List.mem_cons.1 hz with rfl | hz
      · exact .inl rfl
      · exact .inr (hlo z hz).1
    · rcases List.mem_cons.1 hz with rfl | hz
      · exact Nat.le_refl _
      · have := (hlo z hz).1; omega
  case done =>
    rintro D ys W hD hys ⟨⟨v, hO⟩, hB⟩ hK
    obtain ⟨A2, c2, rfl⟩ := Sl.form (Sl.of_own hO.own)
    have n0 := hO.blk.cell 0
    simp only [List.getElem?_toArray, List.getElem?_cons_succ, List.getElem?_cons_zero] at n0
    have HO := Lib.hid hO
    have HB := Lib.hid hB
    have HK := Lib.hid hK
    have HY := Lib.hid hys
    clear hseq H5 HI hB3 hBh hK hO hB hA hs' hfS hys
    gi_wp2
    refine ⟨by simp, .inl ⟨_, _, rfl, run_takeDeferred HK.out, ?_⟩⟩
    have hg8 := grownBy_putObj' W D (.deferred none)
    have hr8 : ∀ r, some D = some r → ∃ o : Obj, W.heap[r]? = some o ∧ o.isCells = false := fun r e => by cases e; exact ⟨_, HK.out, rfl⟩
    have hO8 := HO.out.kept hg8 hr8
    refine ⟨.slice A2 ys.length c2, ?_, _, ys, rfl, own_less hO8.own (by omega), ⟨HY.out, fun i x y a b => (hO8.vers i x y a b).step (Chg.refl _ _) (fun z hz => .inl ?_)⟩, ?_⟩
    · simp [results, Tryz.f27, go_sem]
    · rcases List.mem_append.1 hz with hz | hz
      · exact List.mem_append_left _ hz
      · exact List.mem_append_right _ (List.mem_cons_of_mem _ hz)
    · exact Chg.of_below (HB.out.trans (belowK_b (w := w) (Nat.le_refl _) W D _ _ (by omega) HK.out rfl rfl))
end Go.Proofs.YtecblclpchndiaaGreat
namespace Go.Proofs.YtecblclpchndiaaGreat
open Go.RowKit Go.Shelf

attribute [local go_sem] Oper.semAt_some

def encP (x : Int × Int) : List Value := [.int .i64 x.1, .int .i64 x.2]
theorem encP_len (x : Int × Int) : (encP x).length = 2 := rfl
theorem encP_one (x : Int × Int) : ∀ u ∈ encP x, u.oneCell' = true := by
  intro u hu
  simp [encP] at hu
  rcases hu with rfl | rfl <;> rfl
theorem elP2 : El Tryz.prog 55 62 (.agg #[.int .i64 0, .int .i64 0]) 2 16 := ⟨Tryz.underlying55, by kernel_rfl, rfl, by omega⟩
/-- The pairs of the versions. -/
def prV (V : List Vs) (u : Nat) : List (Int × Int) := V.map fun y => (twoA y.tab u, twoB y.tab u)
theorem prV_len (V : List Vs) (u : Nat) : (prV V u).length = V.length := by simp [prV]
theorem prV_take {V : List Vs} {u k : Nat} {y : Vs} (h : V[k]? = some y) : (prV V u).take (k + 1) = (prV V u).take k ++ [(twoA y.tab u, twoB y.tab u)] := by
  unfold prV
  rw [List.take_add_one, List.getElem?_map, h]
  simp
/-- A row of pairs. -/
structure OutP (B b u : Nat) (V : List Vs) (pre : List Ve) (W : World) (v : Value) : Prop where
  blk : Blk W b 55 #[v]
  own : W.ownsRow B 62 2 v pre.length (((prV V u).take pre.length).flatMap encP)
  low : b < B
  big : B ≤ W.heap.size
  len : pre.length ≤ V.length
theorem OutP.kept {W W' : World} {row : Option Nat} (hg : W.grownBy W' row) (hr : ∀ r, row = some r → ∃ o : Obj, W.heap[r]? = some o ∧ o.isCells = false) {B b u : Nat} {V : List Vs} {pre : List Ve} {v : Value} (h : OutP B b u V pre W v) : OutP B b u V pre W' v := by
  refine ⟨h.blk.kept hg hr, own_chg h.own (chg_of_row hg hr) (fun x hx => ?_), h.low, Nat.le_trans h.big hg.size, h.len⟩
  obtain ⟨cs, t, o, hc⟩ := own_cells h.own x hx
  exact cells_row hg hr hc
theorem OutP.snoc {W W1 W2 : World} {B b u : Nat} {V : List Vs} {pre : List Ve} {v v2 : Value} {x : Ve} {y : Vs} (h : OutP B b u V pre W v) (hA : Chg [] W W1) (hc : Chg v.ownBlock.toList W1 W2)
    (hown : W2.ownsRow B 62 2 v2 (pre.length + 1) (((prV V u).take pre.length).flatMap encP ++ [.int .i64 (twoA y.tab u), .int .i64 (twoB y.tab u)])) (hy : V[pre.length]? = some y) :
    OutP B b u V (pre ++ [x]) (W2.setCell ⟨b, 0, none⟩ v2) v2 ∧ Chg (b :: v.ownBlock.toList) W (W2.setCell ⟨b, 0, none⟩ v2) := by
  have hlo := own_lt hown
  have hbl := h.low
  have hlv := own_lt h.own
  have hs : Chg [b] W2 (W2.setCell ⟨b, 0, none⟩ v2) := (Chg.refl [b] W2).setCell (p := ⟨b, 0, none⟩) (.inl (by simp)) v2
  have h8 : Chg (b :: v.ownBlock.toList) W (W2.setCell ⟨b, 0, none⟩ v2) := ((hA.more (by simp)).trans (hc.more (fun z hz => List.mem_cons_of_mem _ hz))).trans (hs.more (fun z hz => by simp at hz; subst hz; exact List.mem_cons_self ..))
  have hb2 : Blk W2 b 55 #[v] := (h.blk.chg hA (by simp)).chg hc (fun hm => by have := (hlv _ hm).1; omega)
  refine ⟨⟨hb2.set_ 0 v2, ?_, h.low, ?_, ?_⟩, h8⟩
  · have := own_chg hown hs (fun z hz e => by simp at e; subst e; have := (hlo _ hz).1; omega)
    rw [List.length_append, List.length_singleton, prV_take hy, List.flatMap_append]
    exact this
  · have := h8.size; have := h.big; omega
  · rw [List.length_append]; have := (List.getElem?_eq_some_iff.1 hy).1; simp; omega

set_option maxRecDepth 100000 in
set_option maxHeartbeats 4000000 in
theorem pairsH_any {w : World} {N hp : Nat} {rv : Value} {S : List Nat} {es : List Ve} {V : List Vs} {last : Int} (h : HiR w N hp rv S es V last) (hok : OkV V) (hSw : ∀ x ∈ S, x < w.heap.size) (u : Nat) (hu : u < 18446744073709551616) :
    Calls Tryz.prog 40 #[.pointer (some ⟨hp, 0, none⟩), .int .u64 u] w fun e w' => ∃ (v' : Value), e = .returned v' ∧ Sl w' w.heap.size 2 v' V.length ((prV V u).flatMap encP) ∧ Chg [] w w' := by
  refine (callsIn_wide (n := 5)).1 ?_
  have hA : Chg [] w (((w.alloc (.cells #[.int .u64 u] 22)).alloc (.cells #[.slice none 0 0] 55)).alloc (.cells #[.pointer (some ⟨hp, 0, none⟩)] 64)) := ((((Chg.refl [] w).alloc _).alloc _).alloc _)
  have hB3 : Blk (((w.alloc (.cells #[.int .u64 u] 22)).alloc (.cells #[.slice none 0 0] 55)).alloc (.cells #[.pointer (some ⟨hp, 0, none⟩)] 64)) (w.heap.size + 1) 55 #[.slice none 0 0] := ((Blk.new' (by simp)).alloc _)
  have hB1 : Blk (((w.alloc (.cells #[.int .u64 u] 22)).alloc (.cells #[.slice none 0 0] 55)).alloc (.cells #[.pointer (some ⟨hp, 0, none⟩)] 64)) w.heap.size 22 #[.int .u64 u] := (((Blk.new _ _ _).alloc _).alloc _)
  have hBh : Blk (((w.alloc (.cells #[.int .u64 u] 22)).alloc (.cells #[.slice none 0 0] 55)).alloc (.cells #[.pointer (some ⟨hp, 0, none⟩)] 64)) (w.heap.size + 2) 64 #[.pointer (some ⟨hp, 0, none⟩)] := Blk.new' (by simp)
  have hz : (((w.alloc (.cells #[.int .u64 u] 22)).alloc (.cells #[.slice none 0 0] 55)).alloc (.cells #[.pointer (some ⟨hp, 0, none⟩)] 64)).heap.size = w.heap.size + 3 := by simp
  have HI := Lib.hid (And.intro hA (And.intro hB3 (And.intro hB1 (And.intro hBh hz))))
  have H := Lib.hid h
  clear hA hB3 hB1 hBh hz h
  refine callsIn_of_wp_marks Tryz.func40 rfl trivial ?_ rfl
  simp only [Tryz.ntmps40, List.size_toArray, List.length_cons, List.length_nil, Nat.reduceAdd, Nat.reduceSub, Array.replicate_succ, Array.replicate_zero, List.push_toArray, List.append_toArray, List.nil_append, List.cons_append]
  gi_wp2_with (refine ⟨trivial, ?_⟩; gi_at_call 53; refine (callsIn_wide.2 (each_any _ _)).mono ?_; rintro e w' ⟨rfl, rfl⟩)
  obtain ⟨hA, hB3, hB1, hBh, hz⟩ := HI.out
  generalize (((w.alloc (.cells #[.int .u64 u] 22)).alloc (.cells #[.slice none 0 0] 55)).alloc (.cells #[.pointer (some ⟨hp, 0, none⟩)] 64)) = w5 at *
  have hfS := fun x hx => hSw x (H.out.foot x hx)
  have hs' : w.heap.size + 1 ∉ footH hp rv := fun hm => by have := hfS _ hm; omega
  have H5 := (H.out.addS (s := w.heap.size + 1) (by omega)).chg0 hA
  have hseq := each_seq (5 - 1) (by omega) H5 hs' (List.mem_cons_self ..) (hBh.cell 0) (by omega) (by have := hok.len; omega) (fun x hx => by have := hok.tab x hx; omega)
    (fun x hx => by
      rw [hz]
      simp only [List.mem_cons] at hx
      rcases hx with rfl | hx
      · omega
      · have := hSw x hx; omega)
  have hVl := hok.len
  refine wpIn_range_rel (by omega) (gf := 67) (lb := #[.pointer (some ⟨w.heap.size + 2, 0, none⟩)]) rfl (enters_of Tryz.func67 (by kernel_rfl) rfl)
    hseq (Chg.refl [] _) (fun h k => h.trans k) (keepX_b (Nat.le_refl _)) (fun _ => rfl)
    (fun pre W => ((∃ v, OutP w5.heap.size (w.heap.size + 1) u V pre W v) ∧ Blk W w.heap.size 22 #[.int .u64 u]) ∧ Below w.heap.size w W)
    ?hI ?hR ?h0 (fun A B hAz hc => KeepX.of hc (by simp) hAz)
    (fun x a W => ∃ b, a = { tmps := #[.pointer (some ⟨hp, 0, none⟩), .int .u64 u, undef, .pointer (some ⟨w.heap.size, 0, none⟩), .slice none 0 0, .pointer (some ⟨w.heap.size + 1, 0, none⟩), .pointer (some ⟨b, 0, none⟩), undef, undef, .pointer (some ⟨hp, 0, none⟩), .func (.func 67) #[] #[.pointer (some ⟨w.heap.size + 1 + 1, 0, none⟩)], .agg #[.int .i64 x.num, .int .i64 x.frm, .int .i64 x.unt, x.tv], undef, undef, undef, undef, undef, undef, undef, undef, undef, undef, undef, undef, undef, undef], defers := [] } ∧ w5.heap.size ≤ b ∧ Blk W b 46 #[.int .i64 x.num, .int .i64 x.frm, .int .i64 x.unt, x.tv])
    ?hAx ?assign ?body ?done
  case hI =>
    refine OwnFrom.and (Own.from (fun s A B row hs hg hr => ?_) _) (ownFrom_below (Nat.le_refl _) (by omega))
    obtain ⟨⟨v, h1⟩, h2⟩ := hs
    exact ⟨⟨v, h1.kept hg hr⟩, h2.kept hg hr⟩
  case hR =>
    intro pre A0
    refine Own.from (fun x A B row hs hg hr => ?_) _
    obtain ⟨⟨y, h1, h2⟩, h3⟩ := hs
    exact ⟨⟨y, h1, h2.kept hg hr⟩, h3⟩
  case h0 => exact ⟨⟨⟨_, hB3, by simpa using World.ownsRow_nil .., by omega, Nat.le_refl _, Nat.zero_le _⟩, hB1⟩, hA.below⟩
  case hAx =>
    intro x
    refine Own.from (fun a A B row hs hg hr => ?_) _
    obtain ⟨b, h1, h2, h3⟩ := hs
    exact ⟨b, h1, h2, h3.kept hg hr⟩
  case assign =>
    rintro l pre x A0 W hWz ⟨⟨y, hy, hv⟩, hfr⟩
    obtain ⟨T, tc, et⟩ := Sl.form hv.tab.1
    obtain ⟨num, frm, unt, tv⟩ := x
    simp only at et ⊢
    subst et
    clear hv hfr hseq H H5 HI hB3 hBh hA
    gi_wp2
    exact ⟨(Chg.refl [] W).alloc _, _, rfl, hWz, Blk.new _ _ _⟩
  case body =>
    rintro l pre x a1 A0 W hWz _ hlk ⟨⟨⟨v, hO⟩, hbu⟩, hbW⟩ hlen ⟨⟨y, hy, hv⟩, hfr⟩ ⟨b, rfl, hbz, hbb⟩
    obtain ⟨T, tc, et⟩ := Sl.form hv.tab.1
    obtain ⟨num, frm, unt, tv⟩ := x
    simp only at et hbb ⊢
    subst et
    have htl := hok.tab y (List.mem_of_getElem? hy)
    have F2 := Lib.hid (callsIn_wide (n := 5 - 1 - 1 - 1).2 (two_any u hv.tab.1 htl hu))
    have k3 := hbb.cell 3
    have u0 := hbu.cell 0
    simp only [List.getElem?_toArray, List.getElem?_cons_succ, List.getElem?_cons_zero] at k3 u0
    have hnb : w.heap.size + 1 ∉ v.ownBlock.toList := fun hm => by have := (own_lt hO.own _ hm).1; omega
    have HF := Lib.hid (And.intro hO (And.intro hbW (And.intro hy hbu)))
    have hlv : pre.length + 1 ≤ 1000 := by omega
    have HP2 : Hid (∀ W2, Chg [] W W2 → W2.ownsRow w5.heap.size 62 2 v pre.length (((prV V u).take pre.length).flatMap encP) ∧ Blk W2 (w.heap.size + 1) 55 #[v] ∧ w5.heap.size ≤ W2.heap.size) := Lib.hid fun W2 hc => ⟨own_chg hO.own hc (by simp), hO.blk.chg hc (by simp), Nat.le_trans hWz hc.size⟩
    clear hO hbW hv hfr hbb hbu hseq H H5 HI hB3 hB1 hBh hA hlk hy hok htl
    generalize hta : twoA y.tab u = ta at *
    generalize htb : twoB y.tab u = tb at *
    have HTA := Lib.hid hta
    have HTB := Lib.hid htb
    clear hta htb
    gi_wp2_with (first
      | (refine ⟨trivial, ?_⟩; gi_at_call 57; refine F2.out.mono ?_; rintro e2 w2 ⟨rfl, hc2⟩; have hrr := HP2.out w2 hc2; obtain ⟨hown2, hb2, hz2⟩ := hrr; have n0 := hb2.cell 0; simp only [List.getElem?_toArray, List.getElem?_cons_succ, List.getElem?_cons_zero] at n0
         have hA1 := (Chg.refl [] w2).alloc (.cells #[.int .i64 ta, .int .i64 tb] 62); have hl1 := Sl.of_own (own_lit (base := 0) w2 62 2 1 #[.int .i64 ta, .int .i64 tb] (Nat.zero_le _) (by simp [maxLen]) rfl); have hown3 := own_chg hown2 hA1 (by simp); have hb3 := hb2.chg hA1 (by simp)
         have hz3 : w5.heap.size ≤ (w2.alloc (.cells #[.int .i64 ta, .int .i64 tb] 62)).heap.size := Nat.le_trans hz2 hA1.size; have HA3 := Lib.hid (hc2.trans hA1); clear hA1 hb2)
      | (gi_at_builtin; refine wpListIn_app elP2 rfl (.tmp 19) (.tmp 23) rfl w5.heap.size rfl hown3 rfl hl1 (encP_one (ta, tb)) (by unfold maxLen; omega) (by omega) hz3 ?_; intro v4 w4 hown4 hc4; have hb4 := hb3.chg hc4 hnb; have m0 := hb4.cell 0; have m1 := hb4.frozen 0; simp only [List.getElem?_toArray, List.getElem?_cons_succ, List.getElem?_cons_zero] at m0; obtain ⟨A4, c4, rfl⟩ := Sl.form (Sl.of_own hown4)))
    obtain ⟨hO, hbW, hy, hbu⟩ := HF.out
    have hlo := own_lt hO.own
    have hsW := hbW.size
    rw [← HTA.out, ← HTB.out] at hown4
    obtain ⟨p1, p2⟩ := hO.snoc (x := ⟨num, frm, unt, .slice T y.tab.length tc⟩) HA3.out hc4 hown4 hy
    refine ⟨keepsO_chg p2 (fun z hz => ?_), KeepX.of p2 (fun z hz => ?_) hWz, ⟨⟨_, p1⟩, hbu.chg p2 (fun hm => ?_)⟩, hbW.trans (p2.below' (by omega) (fun z hz => ?_))⟩
    · rcases List.mem_cons.1 hz with rfl | hz
      · exact ⟨_, _, _, hO.blk⟩
      · exact own_cells hO.own z hz
    · rcases List.mem_cons.1 hz with rfl | hz
      · exact .inl rfl
      · exact .inr (hlo z hz).1
    · rcases List.mem_cons.1 hm with e | hm
      · omega
      · have := (hlo _ hm).1; omega
    · rcases List.mem_cons.1 hz with rfl | hz
      · omega
      · have := (hlo z hz).1; omega
  case done =>
    rintro D ys W hD hys ⟨⟨⟨v, hO⟩, hbu⟩, hB⟩ hK
    obtain ⟨A2, c2, rfl⟩ := Sl.form (Sl.of_own hO.own)
    have n0 := hO.blk.cell 0
    simp only [List.getElem?_toArray, List.getElem?_cons_succ, List.getElem?_cons_zero] at n0
    have HO := Lib.hid hO
    have HB := Lib.hid hB
    have HK := Lib.hid hK
    have HY := Lib.hid hys
    clear hseq H5 HI hB3 hB1 hBh hK hO hB hA hs' hfS hys hbu
    gi_wp2
    refine ⟨by simp, .inl ⟨_, _, rfl, run_takeDeferred HK.out, ?_⟩⟩
    have hg8 := grownBy_putObj' W D (.deferred none)
    have hr8 : ∀ r, some D = some r → ∃ o : Obj, W.heap[r]? = some o ∧ o.isCells = false := fun r e => by cases e; exact ⟨_, HK.out, rfl⟩
    have hO8 := HO.out.kept hg8 hr8
    refine ⟨.slice A2 ys.length c2, ?_, _, rfl, ?_, ?_⟩
    · simp [results, Tryz.f40, go_sem]
    · have := own_less (B' := w.heap.size) hO8.own (by omega)
      have h2 := Sl.of_own this
      rw [HY.out, ← prV_len V u, List.take_length] at h2
      rw [prV_len] at h2
      rw [HY.out]
      exact h2
    · exact Chg.of_below (HB.out.trans (belowK_b (w := w) (Nat.le_refl _) W D _ _ (by omega) HK.out rfl rfl))
end Go.Proofs.YtecblclpchndiaaGreat
