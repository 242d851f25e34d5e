/-
  WALKS: chapter 26: a call of its statements. Condition: the table is one that New made; counts and ticks are not great.
-/
import Derived.Test.YtldgdpekhjignaaGreatFtm3
import Derived.Test.YtldgdpekhjignaaGreatOpen26
set_option linter.unusedVariables false
set_option linter.unusedSimpArgs false
namespace Go.Proofs.YtldgdpekhjignaaGreat.Ft
open Go.RowKit Go.Maps

@[reducible] def arrO (o : Op6) : Array Value := #[.int .i64 o.kind, .int .u8 o.f.src.a0, .int .u8 o.f.src.a1, .int .u8 o.f.src.a2, .int .u8 o.f.src.a3, .int .u8 o.f.src.a4, .int .u8 o.f.src.a5, .int .u8 o.f.src.a6, .int .u8 o.f.src.a7, .int .u8 o.f.src.a8, .int .u8 o.f.src.a9, .int .u8 o.f.src.a10, .int .u8 o.f.src.a11, .int .u8 o.f.src.a12, .int .u8 o.f.src.a13, .int .u8 o.f.src.a14, .int .u8 o.f.src.a15, .int .i64 o.f.sport, .int .u8 o.f.dst.a0, .int .u8 o.f.dst.a1, .int .u8 o.f.dst.a2, .int .u8 o.f.dst.a3, .int .u8 o.f.dst.a4, .int .u8 o.f.dst.a5, .int .u8 o.f.dst.a6, .int .u8 o.f.dst.a7, .int .u8 o.f.dst.a8, .int .u8 o.f.dst.a9, .int .u8 o.f.dst.a10, .int .u8 o.f.dst.a11, .int .u8 o.f.dst.a12, .int .u8 o.f.dst.a13, .int .u8 o.f.dst.a14, .int .u8 o.f.dst.a15, .int .i64 o.f.dport, .int .i64 o.n]
theorem arrO_list (o : Op6) : (arrO o).toList = encO6 o := rfl
theorem infO {o : Op6} : (Tryz.prog.info? 40).map (·.size) = some (arrO o).size := by
  show _ = some 36
  kernel_rfl
theorem opflow {w : World} {b i : Nat} {o : Op6} (h : w.rangeAt b i (arrO o).toList) : w.rangeAt b (i + 1) (arrF o.f).toList := fun j u hu => by
  have hj : j < 34 := (List.getElem?_eq_some_iff.1 hu).1
  have := h (j + 1) u (by
    rw [arrO_list]
    show (encO6 o)[j + 1]? = _
    rw [encO6, List.getElem?_cons_succ, List.getElem?_append_left (by show j < 34; exact hj)]
    exact hu)
  rw [show i + 1 + j = i + (j + 1) by omega]
  exact this
def doS (n : Nat) (s : Sx) (o : Op6) : Sx × Int × Bool :=
  if o.kind.tmod 9 = 0 ∨ o.kind.tmod 9 = 1 then lookS s o.f o.n
  else if o.kind.tmod 9 = 2 then ((pendS n s o.f).1, 0, false)
  else if o.kind.tmod 9 = 3 ∨ o.kind.tmod 9 = 4 then ((learnS n s o.f o.n).1, 0, false)
  else if o.kind.tmod 9 = 5 then ((forgetS s o.f).1, 0, false)
  else (tickS s, 0, false)
theorem do_look {n : Nat} {s : Sx} {o : Op6} (h : o.kind.tmod 9 = 0 ∨ o.kind.tmod 9 = 1) : doS n s o = lookS s o.f o.n := if_pos h
theorem do_pend {n : Nat} {s : Sx} {o : Op6} (h : o.kind.tmod 9 = 2) : doS n s o = ((pendS n s o.f).1, 0, false) := by
  unfold doS; rw [if_neg (by omega), if_pos h]
theorem do_learn {n : Nat} {s : Sx} {o : Op6} (h : o.kind.tmod 9 = 3 ∨ o.kind.tmod 9 = 4) : doS n s o = ((learnS n s o.f o.n).1, 0, false) := by
  unfold doS; rw [if_neg (by omega), if_neg (by omega), if_pos h]
theorem do_forget {n : Nat} {s : Sx} {o : Op6} (h : o.kind.tmod 9 = 5) : doS n s o = ((forgetS s o.f).1, 0, false) := by
  unfold doS; rw [if_neg (by omega), if_neg (by omega), if_neg (by omega), if_pos h]
theorem do_tick {n : Nat} {s : Sx} {o : Op6} (h : ¬ (0 ≤ o.kind.tmod 9 ∧ o.kind.tmod 9 ≤ 5)) : doS n s o = (tickS s, 0, false) := by
  unfold doS; rw [if_neg (by omega), if_neg (by omega), if_neg (by omega), if_neg (by omega)]
theorem FTs.lift {w w1 w2 : World} {tb n : Nat} {F : List Nat} {k : Nat} {s : Sx} (hc : Chg [] w w1) (h : FTs w1 w2 tb n F k s) : FTs w w2 tb n F k s :=
  FTs.trans (F' := F) (hc.more (by simp)) (fun x hx => .inl hx) h
set_option maxRecDepth 100000 in
set_option maxHeartbeats 4000000 in
theorem do_any {w : World} {tb n : Nat} {F : List Nat} {k : Nat} {s : Sx} (h : FT w tb n F k s) {o : Op6} (ho : okO6 o) (hn0 : 0 ≤ s.now) (hn1 : s.now ≤ 100000) (hk : k < 10000) (hC : bC s.c) :
    Calls Tryz.prog 11 #[.pointer (some ⟨tb, 0, none⟩), .agg (arrO o)] w fun e w' =>
      e = .returned (.tuple #[.int .i64 (doS n s o).2.1, .bool (doS n s o).2.2]) ∧ FTs w w' tb n F (k + 1) (doS n s o).1 := by
  have hA := (Chg.refl [] w).alloc (.cells (arrO o) 40)
  have hB : Blk (w.alloc (.cells (arrO o) 40)) w.heap.size 40 (arrO o) := Blk.new _ _ _
  have hT := h.chg0 hA
  have c0 : (w.alloc (.cells (arrO o) 40)).cell? ⟨w.heap.size, 0, none⟩ = some (.int .i64 o.kind) := hB.cell 0
  have c35 : (w.alloc (.cells (arrO o) 40)).cell? ⟨w.heap.size, 35, none⟩ = some (.int .i64 o.n) := hB.cell 35
  have hr := opflow hB.rangeQ
  have HA := Lib.hid hA
  have hwf := ho.1
  have FL := Lib.hid (look_any hT ho.2.1 o.n hn0 hn1 hk hC)
  have FP := Lib.hid (pend_any hT ho.2.1 hn0 hn1 hk hC)
  have FE := Lib.hid (learn_any hT ho.2.1 o.n hn0 hn1 hk hC)
  have FF := Lib.hid (forget_any hT ho.2.1)
  have FK := Lib.hid (tick_any hT hn0 hn1 hC)
  have HD1 := Lib.hid (do_look (n := n) (s := s) (o := o))
  have HD2 := Lib.hid (do_pend (n := n) (s := s) (o := o))
  have HD3 := Lib.hid (do_learn (n := n) (s := s) (o := o))
  have HD4 := Lib.hid (do_forget (n := n) (s := s) (o := o))
  have HD5 := Lib.hid (do_tick (n := n) (s := s) (o := o))
  clear h hA hB hT ho hC
  obtain ⟨r, hrr⟩ : ∃ r, r = o.kind.tmod 9 := ⟨_, rfl⟩
  have htm : o.kind.tmod 9 = r := hrr.symm
  rw [htm] at HD1 HD2 HD3 HD4 HD5
  generalize doS n s o = D at *
  clear hrr
  go_enter Tryz.func11, Tryz.ntmps11
  go_upto_region 1 with fail
  generalize hw1 : (w.alloc (.cells (arrO o) 40)) = w1 at *
  generalize hgg : w.heap.size = g at *
  clear hw1
  by_cases h0 : r = 0 ∨ r = 1
  · have HG := Lib.hid (HD1.out h0)
    clear HD1 HD2 HD3 HD4 HD5 FP FE FF FK
    rcases h0 with rfl | rfl
    all_goals
      go_wp2_with (first
        | (refine wpList_row 38 (.tmp 15) rfl rfl g 1 rfl (arrF o.f) _ hr Tryz.underlying38 rfl infF ?_)
        | fail)
      refine FL.out.mono ?_
      rintro e w2 ⟨rfl, hT2⟩
      have HT2 := Lib.hid (FTs.lift HA.out hT2)
      clear hT2 FL
      go_wp2_with fail
      go_ret2
      rw [HG.out]
      exact ⟨rfl, HT2.out⟩
  · have hn0' : ¬ r = 0 := by omega
    have hn1' : ¬ r = 1 := by omega
    have hb0 : (r == 0) = false := by simp [hn0']
    have hb1 : (r == 1) = false := by simp [hn1']
    clear FL HD1 h0
    by_cases h2 : r = 2
    · have HG := Lib.hid (HD2.out h2)
      clear HD2 HD3 HD4 HD5 FE FF FK hn0' hn1' hb0 hb1
      subst h2
      go_wp2_with (first
        | (refine wpList_row 38 (.tmp 25) rfl rfl g 1 rfl (arrF o.f) _ hr Tryz.underlying38 rfl infF ?_)
        | fail)
      refine FP.out.mono ?_
      rintro e w2 ⟨rfl, hT2⟩
      have HT2 := Lib.hid (FTs.lift HA.out hT2)
      clear hT2 FP
      go_wp2_with fail
      go_ret2
      rw [HG.out]
      exact ⟨rfl, HT2.out⟩
    · have hn2 : ¬ r = 2 := h2
      have hb2 : (r == 2) = false := by simp [hn2]
      clear FP HD2 h2
      by_cases h3 : r = 3 ∨ r = 4
      · have HG := Lib.hid (HD3.out h3)
        clear HD3 HD4 HD5 FF FK hn0' hn1' hb0 hb1 hn2 hb2
        rcases h3 with rfl | rfl
        all_goals
          go_wp2_with (first
            | (refine wpList_row 38 (.tmp 32) rfl rfl g 1 rfl (arrF o.f) _ hr Tryz.underlying38 rfl infF ?_)
            | fail)
          refine FE.out.mono ?_
          rintro e w2 ⟨rfl, hT2⟩
          have HT2 := Lib.hid (FTs.lift HA.out hT2)
          clear hT2 FE
          go_wp2_with fail
          go_ret2
          rw [HG.out]
          exact ⟨rfl, HT2.out⟩
      · have hn3 : ¬ r = 3 := by omega
        have hn4 : ¬ r = 4 := by omega
        have hb3 : (r == 3) = false := by simp [hn3]
        have hb4 : (r == 4) = false := by simp [hn4]
        clear FE HD3 h3
        by_cases h5 : r = 5
        · have HG := Lib.hid (HD4.out h5)
          clear HD4 HD5 FK hn0' hn1' hb0 hb1 hn2 hb2 hn3 hn4 hb3 hb4
          subst h5
          go_wp2_with (first
            | (refine wpList_row 38 (.tmp 40) rfl rfl g 1 rfl (arrF o.f) _ hr Tryz.underlying38 rfl infF ?_)
            | fail)
          refine FF.out.mono ?_
          rintro e w2 ⟨rfl, hT2⟩
          have HT2 := Lib.hid (FTs.lift HA.out hT2)
          clear hT2 FF
          go_wp2_with fail
          go_ret2
          rw [HG.out]
          exact ⟨rfl, HT2.out⟩
        · have hb5 : (r == 5) = false := by simp [h5]
          have HG := Lib.hid (HD5.out (by omega))
          clear HD4 HD5 FF
          go_wp2_with fail
          refine FK.out.mono ?_
          rintro e w2 ⟨v, L', F', b, rfl, hp, hs, hsl, hT2, hc2, hf2, _, _⟩
          have HT2 : Hid (FTs w w2 tb n F (k + 1) (tickS s)) := Lib.hid (FTs.lift HA.out ⟨F', hT2.more (by omega), hc2, hf2⟩)
          clear hp hs hsl hT2 hc2 hf2 FK
          go_wp2_with fail
          go_ret2
          rw [HG.out]
          exact ⟨rfl, HT2.out⟩
end Go.Proofs.YtldgdpekhjignaaGreat.Ft
