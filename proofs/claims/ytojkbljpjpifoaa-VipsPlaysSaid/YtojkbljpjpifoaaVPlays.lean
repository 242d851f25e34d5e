/-
  WALK: VipsPlays. Condition: the calls read as data.
-/
import Derived.Test.YtojkbljpjpifoaaVLives
import Derived.Test.YtojkbljpjpifoaaVRef4
import Derived.Test.YtojkbljpjpifoaaOpen34
import Derived.StillTailTactics
set_option linter.unusedVariables false
set_option linter.unusedSimpArgs false
namespace Go.Proofs.Ytojkbljpjpifoaa
open Go.RowKit Go.Maps

/-- A whole row loaded in a still head. -/
theorem wpStill_row {P : Program} {ops : Array Oper} {rest : List Oper} {o : Oper} {a : Act} {w : World} {Q : Act → Prop} (ty : TypeId) (x : Operand) (ho : o.op = .load ty x) (hw : Region.wanted o (yielded ops a.tmps) = true) (b off : Nat) (hx : a.eval x = .pointer (some ⟨b, off, none⟩)) (cs : Array Value) (d : TypeDesc) (hS : w.rangeAt b off cs.toList)
    (hu : P.underlying ty = some d) (hd : d.isRow = true) (hi : (P.info? ty).map (·.size) = some cs.size) (h : wpStill P ops w Q rest (a.put o.dst (.agg cs))) : wpStill P ops w Q (o :: rest) a := by
  unfold wpStill
  rw [if_pos hw]
  unfold Oper.still execOp
  simp only [ho, hx, Instr.loadAt, Instr.sureAddr, Sem.run_bind, Sem.run_pure, Result.andThen_ok, run_loadVar_mid w b off ty cs.toList d hS hu hd (by simpa using hi)]
  exact ⟨rfl, h⟩

/-- The table and the document's row. -/
structure VS (W w : World) (b m B n : Nat) (l : List Sv) (lv : Value) : Prop where
  tb : Tb w b m n l
  li : LI l
  sl : SlS w B lv l
  chg : Chg [] W w
  hb : W.heap.size ≤ b
  hm : W.heap.size ≤ m
  bB : b < B
  mB : m < B
  BW : B ≤ w.heap.size
section
variable {W w w' : World} {b m B n : Nat} {l : List Sv} {lv : Value}
theorem VS.chg0 (h : VS W w b m B n l lv) (hc : Chg [] w w') : VS W w' b m B n l lv :=
  ⟨h.tb.chg0 hc, h.li, Sl.chg0 h.sl hc, h.chg.trans hc, h.hb, h.hm, h.bB, h.mB, Nat.le_trans h.BW hc.size⟩
theorem VS.step {n' : Nat} {l' : List Sv} {lv' : Value} (h : VS W w b m B n l lv) (ht : Tb w' b m n' l') (hl : LI l') (hs : SlS w B lv' l') (hc : Chg [b, m] w w') : VS W w' b m B n' l' lv' :=
  ⟨ht, hl, Sl.chg hs hc (by have := h.bB; have := h.mB; intro x hx; simp at hx; omega), h.chg.trans' hc (by have := h.hb; have := h.hm; intro x hx; simp at hx; omega), h.hb, h.hm, h.bB, h.mB, Nat.le_trans h.BW hc.size⟩
end
/-- The cells of a call. -/
theorem SlOp.one {w : World} {B : Nat} {A : Option Addr} {c : Nat} {ops : List OpV} {n : Nat} (h : SlOp w B (.slice A n c) ops) (hn : ops.length = n) {i : Nat} {x : OpV} (hx : ops[i]? = some x) :
    ∃ b o, A = some ⟨b, o, none⟩ ∧ w.cell? ⟨b, o + i * 18, none⟩ = some (.int .i64 x.kind) ∧ w.rangeAt b (o + i * 18 + 1) (arrA x.sv.ad).toList ∧ w.cell? ⟨b, o + i * 18 + 17, none⟩ = some (.int .i64 x.sv.port) := by
  obtain ⟨b, o, c', hv, _, _, hg⟩ := Sl.rec encOp_len (by omega) h hx
  simp only [Value.slice.injEq] at hv
  obtain ⟨rfl, _, _⟩ := hv
  refine ⟨b, o, rfl, ?_, fun j v hj => ?_, ?_⟩
  · have := hg 0 (by omega); exact this
  · have hj16 : j < 16 := (List.getElem?_eq_some_iff.1 hj).1
    have := hg (1 + j) (by omega)
    rw [show o + i * 18 + 1 + j = o + (i * 18 + (1 + j)) by omega, this, show 1 + j = j + 1 by omega]
    show (encS x.sv)[j]? = some v
    show (encA x.sv.ad ++ [.int .i64 x.sv.port])[j]? = some v
    rw [List.getElem?_append_left (by rw [encA_len]; omega)]
    exact hj
  · have := hg 17 (by omega); exact this

set_option maxRecDepth 100000 in
set_option maxHeartbeats 4000000 in
theorem plays34 {W : World} {B0 : Nat} {v : Value} {ops : List OpV} (h : SlOp W B0 v ops) (hm : ops.length ≤ maxLen) (hok : ∀ x ∈ ops, (Lit.int .i64 x.kind).wf = true ∧ okS x.sv) :
    Calls Try.prog 6 #[v] W fun e w' => e = .returned (.bool true) ∧ Chg [] W w' := by
  have K0 := Lib.hid lives34
  obtain ⟨A, c, rfl⟩ := Sl.form h
  have HO := Lib.hid (fun w1 (hc : Chg [] W w1) => (show SlOp w1 B0 (.slice A ops.length c) ops from Sl.chg0 h hc))
  have HK := Lib.hid (fun i x (hx : ops[i]? = some x) => (hok x (List.mem_of_getElem? hx)))
  have HX : Hid (∀ i, i < ops.length → ∃ x, ops[i]? = some x) := Lib.hid fun i hi => ⟨_, List.getElem?_eq_getElem hi⟩
  have hm2 : ops.length ≤ 9223372036854775807 := by unfold maxLen at hm; omega
  clear h hok hm
  generalize hq : ops.length = q at *
  go_enter Try.func6, Try.ntmps6
  go_wp2_with fail
  refine (vnew_any W).mono ?_
  rintro e w1 ⟨b, m, rfl, h1, hc1, hb1, hm1⟩
  have o1 : VS W w1 b m w1.heap.size 0 [] (.slice none 0 0) := ⟨h1, LI.nil, Sl.nil _ _ _, hc1, hb1, hm1, h1.lt.1, h1.lt.2, Nat.le_refl _⟩
  generalize w1.heap.size = B at *
  clear h1 hc1 hb1 hm1
  have HO1 := Lib.hid o1
  clear o1
  go_wp2_with fail
  go_loopw [4, 5] (fun lv iv wr => ∃ (k n : Nat) (l : List Sv), k ≤ q ∧ k ≤ 60 ∧ iv = .int .i64 k ∧ n ≤ k ∧ Hid (VS W wr b m B n l lv)) (fun _ iv _ => q - (intOf iv).toNat)
  case atStart => exact ⟨0, 0, [], by omega, by omega, rfl, by omega, HO1⟩
  case round =>
    clear HO1
    obtain ⟨k, n, l, hk, hk2, rfl, hn, ho⟩ := hrel
    by_cases hlt : k < q ∧ k < 60
    · obtain ⟨hk1, hk3⟩ := hlt
      obtain ⟨x, hx⟩ := HX.out k hk1
      have hwx := HK.out k x hx
      obtain ⟨b', o', rfl, g0, g1, g2⟩ := (HO.out wr ho.out.chg).one hq hx
      obtain ⟨kd, s⟩ := x
      have G1 := Lib.hid (show wr.rangeAt b' (o' + k * 18 + 1) (arrA s.ad).toList from g1)
      simp only at g0 g2 hwx
      clear g1
      obtain ⟨hwk, hws⟩ := hwx
      have hkI : (k : Int) < (q : Int) := by omega
      clear HO HK HX hx
      go_wp2_with fail
      have hcs := (Chg.refl [] wr).drew
      have HG1 := Lib.hid (fun W (hc : Chg [] wr W) => rangeAt_chg G1.out hc (by simp))
      have HG2 := Lib.hid (fun W (hc : Chg [] wr W) => hc.cell g2 (by simp))
      have hBn : Blk (wr.alloc (.cells (arrS ⟨adZ, 0⟩) 59)).drew wr.heap.size 59 (arrS ⟨adZ, 0⟩) := (Blk.new _ _ _).drew
      have hcA := ((Chg.refl [] wr).alloc (.cells (arrS ⟨adZ, 0⟩) 59)).drew
      refine wp_region_noPanic ?_
      refine wp_region_held_drew (S := Chg [] wr) (by kernel_rfl) hcs (fun _ => ?_)
      refine wpAnyH_take (i := 0) (v := ?_) rfl (by kernel_rfl) (by kernel_rfl) (by kernel_rfl) (fun _ _ _ h => h) (yields_pure (by rfl) (fun w => ?_)) (by with_reducible assumption) ?_
      rotate_left
      · (go_simp <;> with_reducible rfl)
      try simp only [List.getElem_toArray, List.getElem_cons_succ, List.getElem_cons_zero, Act.put, List.setIfInBounds_toArray, List.set_cons_zero, List.set_cons_succ]
      refine wpAnyH_take (i := 1) (v := ?_) rfl (by kernel_rfl) (by kernel_rfl) (by kernel_rfl) (fun _ _ _ h => h) (yields_pure (by rfl) (fun w => ?_)) (by with_reducible assumption) ?_
      rotate_left
      · (go_simp <;> with_reducible rfl)
      try simp only [List.getElem_toArray, List.getElem_cons_succ, List.getElem_cons_zero, Act.put, List.setIfInBounds_toArray, List.set_cons_zero, List.set_cons_succ]
      refine wpAnyH_take (i := 2) (v := ?_) rfl (by kernel_rfl) (by kernel_rfl) (by kernel_rfl) (fun _ _ _ h => h) (yields_pure (by rfl) (fun w => ?_)) (by with_reducible assumption) ?_
      rotate_left
      · (go_simp <;> with_reducible rfl)
      try simp only [List.getElem_toArray, List.getElem_cons_succ, List.getElem_cons_zero, Act.put, List.setIfInBounds_toArray, List.set_cons_zero, List.set_cons_succ]
      refine wpAnyH_take (i := 3) (v := ?_) rfl (by kernel_rfl) (by kernel_rfl) (by kernel_rfl) (fun _ _ _ h => h) (yields_pure (by rfl) (fun w => ?_)) (by with_reducible assumption) ?_
      rotate_left
      · (go_simp <;> with_reducible rfl)
      try simp only [List.getElem_toArray, List.getElem_cons_succ, List.getElem_cons_zero, Act.put, List.setIfInBounds_toArray, List.set_cons_zero, List.set_cons_succ]
      refine wpAnyH_take (i := 4) rfl (by kernel_rfl) (by kernel_rfl) (by kernel_rfl) (fun _ _ _ h => h) (yields_row (by rfl) 55 (.tmp 29) rfl b' (o' + k * 18 + 1) rfl (arrA s.ad) _ HG1.out Try.underlying55 rfl infA) (by with_reducible assumption) ?_
      try simp only [List.getElem_toArray, List.getElem_cons_succ, List.getElem_cons_zero, Act.put, List.setIfInBounds_toArray, List.set_cons_zero, List.set_cons_succ]
      refine wpAnyH_take (i := 5) (v := ?_) rfl (by kernel_rfl) (by kernel_rfl) (by kernel_rfl) (fun _ _ _ h => h) (yields_pure (by rfl) (fun w => ?_)) (by with_reducible assumption) ?_
      rotate_left
      · (go_simp <;> with_reducible rfl)
      try simp only [List.getElem_toArray, List.getElem_cons_succ, List.getElem_cons_zero, Act.put, List.setIfInBounds_toArray, List.set_cons_zero, List.set_cons_succ]
      refine wpAnyH_take (i := 6) (v := ?_) rfl (by kernel_rfl) (by kernel_rfl) (by kernel_rfl) (fun _ _ _ h => h) (yields_pure (by rfl) (fun w => ?_)) (by with_reducible assumption) ?_
      rotate_left
      · (go_simp <;> with_reducible rfl)
      try simp only [List.getElem_toArray, List.getElem_cons_succ, List.getElem_cons_zero, Act.put, List.setIfInBounds_toArray, List.set_cons_zero, List.set_cons_succ]
      refine wpAnyH_take (i := 7) (v := ?_) rfl (by kernel_rfl) (by kernel_rfl) (by kernel_rfl) (fun _ _ _ h => h) (yields_pure (by rfl) (fun w => ?_)) (by with_reducible assumption) ?_
      rotate_left
      · (go_simp <;> with_reducible rfl)
      try simp only [List.getElem_toArray, List.getElem_cons_succ, List.getElem_cons_zero, Act.put, List.setIfInBounds_toArray, List.set_cons_zero, List.set_cons_succ]
      refine wpAnyH_take (i := 8) (v := ?_) rfl (by kernel_rfl) (by kernel_rfl) (by kernel_rfl) (fun _ _ _ h => h) (yields_pure (by rfl) (fun w => ?_)) (by with_reducible assumption) ?_
      rotate_left
      · (go_simp <;> with_reducible rfl)
      try simp only [List.getElem_toArray, List.getElem_cons_succ, List.getElem_cons_zero, Act.put, List.setIfInBounds_toArray, List.set_cons_zero, List.set_cons_succ]
      refine wpAnyH_take (i := 9) rfl (by kernel_rfl) (by kernel_rfl) (by kernel_rfl) (fun _ _ _ h => h) (yields_cell (by rfl) 3 (.tmp 34) rfl b' (o' + k * 18 + 17) rfl (.int .i64 s.port) _ HG2.out Try.underlying3 rfl) (by with_reducible assumption) ?_
      try simp only [List.getElem_toArray, List.getElem_cons_succ, List.getElem_cons_zero, Act.put, List.setIfInBounds_toArray, List.set_cons_zero, List.set_cons_succ]
      refine wpAnyH_take (i := 10) (v := ?_) rfl (by kernel_rfl) (by kernel_rfl) (by kernel_rfl) (fun _ _ _ h => h) (yields_pure (by rfl) (fun w => ?_)) (by with_reducible assumption) ?_
      rotate_left
      · (go_simp <;> with_reducible rfl)
      try simp only [List.getElem_toArray, List.getElem_cons_succ, List.getElem_cons_zero, Act.put, List.setIfInBounds_toArray, List.set_cons_zero, List.set_cons_succ]
      refine wpAnyH_ready (rs := [11]) (by kernel_rfl) (by simp) (AllReadyH.cons rfl (fun K hK => ?_) AllReadyH.nil)
      go_simp
      refine hK.out _ _ (by with_reducible assumption) (fun _ => ?_)
      clear hK K
      try simp only [List.getElem_toArray, List.getElem_cons_succ, List.getElem_cons_zero, Act.put, List.setIfInBounds_toArray, List.set_cons_zero, List.set_cons_succ]
      refine wpAnyH_ready (rs := [12]) (by kernel_rfl) (by simp) (AllReadyH.cons rfl (fun K hK => ?_) AllReadyH.nil)
      refine step_store_blk rfl 59 (.tmp 6) (.tmp 36) rfl hBn rfl rfl rfl (infS34 (S := s)) rfl ?_
      intro w3 hB3 hc3
      have hc4 := hcA.trans' hc3 (by simp)
      refine hK.out _ _ (by with_reducible assumption) (fun _ => ?_)
      clear hK K
      try simp only [List.getElem_toArray, List.getElem_cons_succ, List.getElem_cons_zero, Act.put, List.setIfInBounds_toArray, List.set_cons_zero, List.set_cons_succ]
      refine wpAnyH_done (by kernel_rfl) ?_ _
      refine NoPanic.normal ?_
      generalize hgs : wr.heap.size = gs at *
      have HB := Lib.hid (fun W (hc : Chg [b, m] w3 W) => hB3.chg hc (by have := ho.out.bB; have := ho.out.mB; have := ho.out.BW; simp; omega))
      have HB0 := HB
      have HR := Lib.hid (fun W (hc : Chg [b, m] w3 W) => (sub16 ((HB.out W hc).rangeQ)))
      have HC := Lib.hid (fun W (hc : Chg [b, m] w3 W) => (show W.cell? ⟨gs, 16, none⟩ = some (.int .i64 s.port) from (HB.out W hc).cell 16))
      have ho3 := ho.out.chg0 hc4
      have HO3 := Lib.hid ho3
      have k3 := hc4.cell g0 (by simp)
      have z3 := Chg.refl [b, m] w3
      have hn60 : n < 10000 := by omega
      have F1 := Lib.hid (rdrop_any s ho3.sl ho3.BW ho3.li hws)
      have F2 := Lib.hid (fun W (hc : Chg [] w3 W) => vdrop_any (ho3.tb.chg0 hc) ho3.li (A := s.ad) (p := s.port) hws)
      have F3 := Lib.hid (radd_any s ho3.sl ho3.BW ho3.li hws)
      have F4 := Lib.hid (fun W (hc : Chg [] w3 W) => vadd_any (ho3.tb.chg0 hc) ho3.li (A := s.ad) (p := s.port) hws hn60)
      clear hcs hBn hcA hc3 hB3 ho HG1 HG2 g0 g2 G1 hc4 ho3
      go_upto_if 43 with fail
      go_cut [4] (fun lx wx => ∃ (n2 : Nat) (l2 : List Sv), n2 ≤ k + 1 ∧ Hid (VS W wx b m B n2 l2 lx) ∧ Hid (Chg [b, m] w3 wx))
      case first =>
        by_cases hkd : kd.tmod 4 = 3
        · have hkb : (kd.tmod 4 == 3) = true := by simp [hkd]
          have hself : ∀ c : Bool, (c != c) = false := by simp
          clear F3 F4 HB0
          go_wp2_with (first | (refine wpList_row 59 (.tmp 6) rfl rfl gs 0 rfl (arrS s) _ ((HB.out _ (by with_reducible assumption)).rangeQ) Try.underlying59 rfl infS34 ?_) | fail)
          refine F1.out.mono ?_
          rintro e w4 ⟨v4, rfl, hs4, hc4⟩
          have z4 := z3.trans (hc4.more (by simp))
          have k5 := HC.out _ z4
          have F5 := Lib.hid (F2.out _ hc4)
          have HS4 := Lib.hid hs4
          have HC4 := Lib.hid hc4
          clear F1 F2 hs4 hc4
          go_wp2_with (first | (refine wpList_row 55 (.tmp 52) rfl rfl gs 0 rfl (arrA s.ad) _ (HR.out _ (by with_reducible assumption)) Try.underlying55 rfl infA ?_) | fail)
          refine F5.out.mono ?_
          rintro e w5 ⟨rfl, hT5, hc5⟩
          have z5 := z4.trans hc5
          have HV := Lib.hid ((HO3.out.chg0 HC4.out).step hT5 (HO3.out.li.drop _) HS4.out hc5)
          clear hT5 hc5 k5 F5 HS4 HC4
          go_wp2_with fail
          go_meet
          exact ⟨n, _, by omega, HV, Lib.hid z5⟩
        · have hkb : (kd.tmod 4 == 3) = false := by simp [hkd]
          have hself : ∀ c : Int, (c != c) = false := by simp
          clear F1 F2 HB0
          go_wp2_with (first | (refine wpList_row 59 (.tmp 6) rfl rfl gs 0 rfl (arrS s) _ ((HB.out _ (by with_reducible assumption)).rangeQ) Try.underlying59 rfl infS34 ?_) | fail)
          refine F3.out.mono ?_
          rintro e w4 ⟨v4, rfl, hs4, hc4⟩
          have z4 := z3.trans (hc4.more (by simp))
          have k5 := HC.out _ z4
          have F5 := Lib.hid (F4.out _ hc4)
          have HS4 := Lib.hid hs4
          have HC4 := Lib.hid hc4
          clear F3 F4 hs4 hc4
          go_wp2_with (first | (refine wpList_row 55 (.tmp 67) rfl rfl gs 0 rfl (arrA s.ad) _ (HR.out _ (by with_reducible assumption)) Try.underlying55 rfl infA ?_) | fail)
          refine F5.out.mono ?_
          rintro e w5 ⟨rfl, hT5, hc5⟩
          have z5 := z4.trans hc5
          have HV := Lib.hid ((HO3.out.chg0 HC4.out).step hT5 (HO3.out.li.add hws) HS4.out hc5)
          clear hT5 hc5 k5 F5 HS4 HC4
          go_wp2_with fail
          go_meet
          exact ⟨n + 1, _, by omega, HV, Lib.hid z5⟩
      case rest =>
        obtain ⟨n2, l2, hn2, HV, Z⟩ := hcut
        have hv := HV.out
        obtain ⟨A4, c4, hf4⟩ := Sl.form hv.sl
        subst hf4
        have F1 := Lib.hid (vall_any hv.tb hv.li (by omega))
        clear HO3 HB HR HC F2 F3 F4 z3 k3
        have HB := Lib.hid (HB0.out _ Z.out)
        clear Z HB0
        have hl8 := hv.li.len
        clear hv
        go_wp2_with fail
        refine F1.out.mono ?_
        rintro e w6 ⟨v6, rfl, hs6, hc6⟩
        obtain ⟨A6, c6, rfl⟩ := Sl.form hs6
        have hv6 := HV.out.chg0 hc6
        have HB6 := Lib.hid (HB.out.chg hc6 (by simp))
        have HS6 := Lib.hid hs6
        have HV6 := Lib.hid hv6
        clear F1 HB HV hv6 hs6 hc6
        go_wp2_with fail
        have hv := HV6.out
        have HR := Lib.hid (fun W (hc : Chg [] w6 W) => sub16 ((HB6.out.chg hc (by simp)).rangeQ))
        have HQ := Lib.hid (fun W (hc : Chg [] w6 W) => (HB6.out.chg hc (by simp)).rangeQ)
        have HC := Lib.hid (fun W (hc : Chg [] w6 W) => (show W.cell? ⟨gs, 16, none⟩ = some (.int .i64 s.port) from (HB6.out.chg hc (by simp)).cell 16))
        have FH := Lib.hid (fun W (hc : Chg [] w6 W) => (vhas_any (hv.tb.chg0 hc) (A := s.ad) (p := s.port) hws).mono fun e w' h => And.intro h.1 (hc.trans h.2))
        have FK := Lib.hid (fun W (hc : Chg [] w6 W) => (vknows_any (hv.tb.chg0 hc) hv.li (by omega) hws.1).mono fun e w' h => And.intro h.1 (hc.trans h.2))
        have FR := Lib.hid (fun W (hc : Chg [] w6 W) => (rknows_any (Sl.chg0 hv.sl hc) hv.li hws.1).mono fun e w' h => And.intro h.1 (hc.trans h.2))
        have hfind : ∃ r : Int, (decide (0 ≤ r) = decide (s ∈ l2)) ∧ ∀ W, Chg [] w6 W → Calls Try.prog 27 #[.slice A4 l2.length c4, s.v] W fun e w' => e = .returned (.int .i64 r) ∧ Chg [] w6 w' := by
          by_cases hm : s ∈ l2
          · obtain ⟨i, hi, he⟩ := List.mem_iff_getElem.1 hm
            refine ⟨i, by simp [hm], fun W hc => (find_yes (Sl.chg0 hv.sl hc) (by omega) (fun x hx => (hv.li.ok x hx).1) hws hm).mono ?_⟩
            rintro e w' ⟨j, rfl, hj, hc'⟩
            obtain ⟨hj1, hj2⟩ := List.getElem?_eq_some_iff.1 hj
            have : j = i := (List.getElem_inj hv.li.srt.nodup).1 (hj2.trans he.symm)
            subst this
            exact ⟨rfl, hc.trans hc'⟩
          · exact ⟨-1, by simp [hm], fun W hc => (find_no (Sl.chg0 hv.sl hc) (by omega) (fun x hx => (hv.li.ok x hx).1) hws hm).mono fun e w' h => ⟨h.1, hc.trans h.2⟩⟩
        obtain ⟨r, hr, hF⟩ := hfind
        have FF := Lib.hid hF
        clear hF hv
        generalize hml : decide (s ∈ l2) = ml at *
        generalize hkn : (l2.any fun S => decide (S.ad = s.ad)) = kn at *
        generalize hnl : l2.length = nl at *
        have hb1 : ((nl : Int) != (nl : Int)) = false := by simp
        have hb2 : ∀ c : Bool, (c != c) = false := by simp
        refine wp_region_chg (by kernel_rfl) (by kernel_rfl) ?_
        repeat (first
          | ((with_reducible refine wpQuiet_rowC 55 (.tmp 83) ?_ ?_ gs 0 ?_ (arrA s.ad) _ HR.out Try.underlying55 ?_ infA ?_); (focus rfl); (focus rfl); (focus rfl); (focus rfl); (try simp only [List.getElem_toArray, List.getElem_cons_succ, List.getElem_cons_zero, Act.put, List.setIfInBounds_toArray, List.set_cons_zero, List.set_cons_succ]))
          | ((with_reducible refine wpQuiet_rowC 55 (.tmp 96) ?_ ?_ gs 0 ?_ (arrA s.ad) _ HR.out Try.underlying55 ?_ infA ?_); (focus rfl); (focus rfl); (focus rfl); (focus rfl); (try simp only [List.getElem_toArray, List.getElem_cons_succ, List.getElem_cons_zero, Act.put, List.setIfInBounds_toArray, List.set_cons_zero, List.set_cons_succ]))
          | ((with_reducible refine wpQuiet_rowC 55 (.tmp 100) ?_ ?_ gs 0 ?_ (arrA s.ad) _ HR.out Try.underlying55 ?_ infA ?_); (focus rfl); (focus rfl); (focus rfl); (focus rfl); (try simp only [List.getElem_toArray, List.getElem_cons_succ, List.getElem_cons_zero, Act.put, List.setIfInBounds_toArray, List.set_cons_zero, List.set_cons_succ]))
          | ((with_reducible refine wpQuiet_rowC 59 (.tmp 6) ?_ ?_ gs 0 ?_ (arrS s) _ HQ.out Try.underlying59 ?_ infS34 ?_); (focus rfl); (focus rfl); (focus rfl); (focus rfl); (try simp only [List.getElem_toArray, List.getElem_cons_succ, List.getElem_cons_zero, Act.put, List.setIfInBounds_toArray, List.set_cons_zero, List.set_cons_succ]))
          | ((with_reducible refine wpQuiet_cellC 3 (.tmp 85) ?_ ?_ gs 16 ?_ (.int .i64 s.port) _ HC.out Try.underlying3 ?_ ?_); (focus rfl); (focus rfl); (focus rfl); (focus rfl); (try simp only [List.getElem_toArray, List.getElem_cons_succ, List.getElem_cons_zero, Act.put, List.setIfInBounds_toArray, List.set_cons_zero, List.set_cons_succ]))
          | ((with_reducible refine wpQuiet_pure (v := ?_) ?_ (fun w => ?_) ?_); rotate_left; (focus rfl); (focus (go_simp <;> with_reducible rfl)); (try simp only [List.getElem_toArray, List.getElem_cons_succ, List.getElem_cons_zero, Act.put, List.setIfInBounds_toArray, List.set_cons_zero, List.set_cons_succ]))
          | ((with_reducible refine wpQuiet_do ?_ (fun K hK => ?_)); (focus rfl); go_simp; (apply Exists.intro); (refine ⟨fun W hW => ?_, hK _ ?_⟩); (first | exact FH.out W hW | exact FF.out W hW | exact FK.out W hW | exact FR.out W hW); (clear hK K); (try simp only [List.getElem_toArray, List.getElem_cons_succ, List.getElem_cons_zero, Act.put, List.setIfInBounds_toArray, List.set_cons_zero, List.set_cons_succ])))
        refine wpQuiet_nil ?_
        intro w7 hc7
        have HV7 := Lib.hid (HV6.out.chg0 hc7)
        have HS7 := Lib.hid (Sl.chg0 HS6.out hc7)
        have HSL := Lib.hid (Nat.le_trans (show nl ≤ 8 by omega) (show 8 ≤ 100 by omega))
        clear HV6 HS6 HB6 HR HQ HC FH FK FR FF hr hc7 hml hkn hb2
        go_wp2_with fail
        have HSL4 := Lib.hid HV7.out.sl
        have HLX : Hid (∀ i, i < nl → ∃ x, l2[i]? = some x ∧ okS x) := Lib.hid fun i hi => ⟨_, List.getElem?_eq_getElem (by omega), (HV7.out.li.ok _ (List.getElem_mem (by omega))).1⟩
        go_loopw [12] (fun jv wx => ∃ j : Nat, j ≤ nl ∧ jv = .int .i64 j ∧ Hid (Chg [] w7 wx)) (fun jv _ => nl - (intOf jv).toNat)
        case atStart => exact ⟨0, by omega, rfl, Lib.hid (Chg.refl _ _)⟩
        case round =>
          obtain ⟨j, hj, rfl, HCX⟩ := hrel
          by_cases hjn : j < nl
          · obtain ⟨y, hy, hyo⟩ := HLX.out j hjn
            obtain ⟨b8, o8, hA6, hr8⟩ := SlS.one (Sl.chg0 HS7.out HCX.out) hnl hy
            obtain ⟨b9, o9, hA4, hr9⟩ := SlS.one (Sl.chg0 HSL4.out HCX.out) hnl hy
            subst hA6 hA4
            have HA8 := Lib.hid (fun W (hc : Chg [] wr W) => rangeAt_chg hr8 hc (by simp))
            have HA9 := Lib.hid (fun W (hc : Chg [] wr W) => rangeAt_chg hr9 hc (by simp))
            have he := fun W => eq_ad9 W hyo.1 hyo.1
            have hdd : decide (y.ad = y.ad) = true := by simp
            simp only [hdd] at he
            have hpb : (y.port == y.port) = true := by simp
            have hjI : (j : Int) < (nl : Int) := by omega
            clear HLX hy hyo hr8 hr9 hdd HS7 HSL4 HV7 K0
            go_wp2_with fail
            refine wp_region_chg (by kernel_rfl) (by kernel_rfl) ?_
            repeat (first
              | ((with_reducible refine wpQuiet_rowC 72 (.tmp 113) ?_ ?_ b8 _ ?_ (arrS y) _ HA8.out Try.underlying72 ?_ infS ?_); (focus rfl); (focus rfl); (focus rfl); (focus rfl); (try simp only [List.getElem_toArray, List.getElem_cons_succ, List.getElem_cons_zero, Act.put, List.setIfInBounds_toArray, List.set_cons_zero, List.set_cons_succ]))
              | ((with_reducible refine wpQuiet_rowC 59 (.tmp 117) ?_ ?_ b9 _ ?_ (arrS y) _ HA9.out Try.underlying59 ?_ infS34 ?_); (focus rfl); (focus rfl); (focus rfl); (focus rfl); (try simp only [List.getElem_toArray, List.getElem_cons_succ, List.getElem_cons_zero, Act.put, List.setIfInBounds_toArray, List.set_cons_zero, List.set_cons_succ]))
              | ((with_reducible refine wpQuiet_pure (v := ?_) ?_ (fun w => ?_) ?_); rotate_left; (focus rfl); (focus (go_simp <;> with_reducible rfl)); (try simp only [List.getElem_toArray, List.getElem_cons_succ, List.getElem_cons_zero, Act.put, List.setIfInBounds_toArray, List.set_cons_zero, List.set_cons_succ])))
            refine wpQuiet_nil ?_
            intro w8 hc8
            have HN := Lib.hid (HCX.out.trans hc8)
            clear HA8 HA9 he HCX hc8
            go_wp2_with fail
            go_roundw
            case rel => exact ⟨j + 1, by omega, by go_num, HN⟩
            case measure => simp [intOf]; omega
          · obtain rfl : j = nl := by omega
            have HV9 := Lib.hid (HV7.out.chg0 HCX.out)
            clear HLX HS7 HSL4 HV7 HCX K0
            go_wp2_with fail
            go_roundw
            case rel => exact ⟨k + 1, n2, l2, by omega, by omega, by go_num, by omega, HV9⟩
            case measure => simp [intOf]; omega
    · have K1 := Lib.hid (K0.out wr)
      have HC := Lib.hid ho.out.chg
      clear K0 HO HK HX ho
      rcases (show k = q ∨ (k < q ∧ k = 60) by omega) with hkk | ⟨h1, h2⟩
      · subst hkk
        clear hlt
        go_wp2_with fail
        refine K1.out.mono ?_
        rintro e w9 ⟨rfl, hc9⟩
        go_wp2_with fail
        go_ret
        exact ⟨rfl, HC.out.trans hc9⟩
      · subst h2
        have hkI : ((60 : Nat) : Int) < (q : Int) := by omega
        clear hlt
        go_wp2_with fail
        refine K1.out.mono ?_
        rintro e w9 ⟨rfl, hc9⟩
        go_wp2_with fail
        go_ret
        exact ⟨rfl, HC.out.trans hc9⟩
end Go.Proofs.Ytojkbljpjpifoaa
