/-
  PLAIN and WALKS: a backend that answers each probe stays up (HealthStays). No condition.
-/
import Derived.Test.YtgbdbeaflilmlaaHealthL
set_option linter.unusedVariables false
set_option linter.unusedSimpArgs false
namespace Go.Proofs.Ytgbdbeaflilmlaa
open Go.RowKit Go.Maps

theorem srt_inj {l : List BK} (h : l.Pairwise (fun a b => a.node < b.node)) : ∀ {a b : BK}, a ∈ l → b ∈ l → a.node = b.node → a = b := by
  induction h with
  | nil => intro a b ha; simp at ha
  | cons h1 _ ih =>
    intro a b ha hb e
    rcases List.mem_cons.1 ha with ha2 | ha2
    · rcases List.mem_cons.1 hb with hb2 | hb2
      · exact ha2.trans hb2.symm
      · have := h1 b hb2; rw [← ha2] at this; omega
    · rcases List.mem_cons.1 hb with hb2 | hb2
      · have := h1 a ha2; rw [← hb2] at this; omega
      · exact ih ha2 hb2 e
theorem getC_of {c : CK} (hs : c.l.Pairwise (fun a b => a.node < b.node)) {n : Int} {b : BK} (hb : b ∈ c.l) (hn : b.node = n) : getC c n = some b := by
  cases hg : getC c n with
  | none =>
    have := getC_none hg
    rw [inC_iff.2 ⟨b, hb, hn⟩] at this
    cases this
  | some x =>
    obtain ⟨h1, h2⟩ := getC_some hg
    rw [srt_inj hs h1 hb (h2.trans hn.symm)]
/-- The backend n is up, all its probes are answered, and it is probed every four ticks. -/
def SI (n : Int) (c : CK) : Prop := ∃ b ∈ c.l, b.node = n ∧ b.up = true ∧ b.opn = false ∧ c.now < b.due ∧ b.due ≤ c.now + 4 ∧ b.due % 4 = 1
theorem SI.up {n : Int} {c : CK} (h : SI n c) (hs : c.l.Pairwise (fun a b => a.node < b.node)) : upC c n = true := by
  obtain ⟨b, hb, hn, hu, _⟩ := h
  unfold upC
  rw [getC_of hs hb hn]
  exact hu
theorem SI.start {n : Int} (h1 : 1 ≤ n) (h2 : n ≤ 65535) : SI n (addC ⟨0, []⟩ n).1 := by
  have : addC ⟨0, []⟩ n = (⟨0, insB (bk0 0 n) []⟩, true) := by
    unfold addC
    rw [if_neg]
    rintro (h | h | h)
    · omega
    · omega
    · simp [inC] at h
  rw [this]
  exact ⟨bk0 0 n, mem_insB.2 (.inl rfl), rfl, rfl, rfl, by simp [bk0], by simp [bk0], by simp [bk0]⟩
theorem SI.add {n : Int} {c : CK} (h : SI n c) (x : Int) : SI n (addC c x).1 := by
  unfold addC
  split
  · exact h
  · obtain ⟨b, hb, r⟩ := h
    exact ⟨b, mem_insB.2 (.inr hb), r⟩
theorem addC_now (c : CK) (x : Int) : (addC c x).1.now = c.now := by unfold addC; split <;> rfl
def addF (c : CK) (l : List Int) : CK := l.foldl (fun c x => (addC c x).1) c
theorem addF_snoc (c : CK) (l : List Int) (x : Int) : addF c (l ++ [x]) = (addC (addF c l) x).1 := by simp [addF]
theorem addF_si {n : Int} {c : CK} (h : SI n c) (l : List Int) : SI n (addF c l) := by
  unfold addF
  induction l generalizing c with
  | nil => exact h
  | cons x l ih => exact ih (h.add x)
theorem addF_now (c : CK) (l : List Int) : (addF c l).now = c.now := by
  unfold addF
  induction l generalizing c with
  | nil => rfl
  | cons x l ih => exact (ih _).trans (addC_now c x)
theorem SI.tick {n : Int} {c : CK} {K : Nat} (h : SI n c) (hci : CI K c) : ∃ (j : Nat) (s : Int) (c' : CK), (∀ i x, (probesC c)[i]? = some x → (x.1 = n ↔ i = j)) ∧ (∀ x, (probesC c)[j]? = some x → x = (n, s) ∧ ansC (tickC c) n s = (c', false, true)) ∧
    ((c.now + 1) % 4 = 1 ↔ j < (probesC c).length) ∧ SI n (if j < (probesC c).length then c' else tickC c) ∧ j ≤ (probesC c).length ∧ (if j < (probesC c).length then c' else tickC c).now = c.now + 1 := by
  obtain ⟨b, hb, hn, hu, ho, hd1, hd2, hd4⟩ := h
  have hnd := hci.nodup
  obtain ⟨P, R, hPR⟩ := List.append_of_mem hb
  have hne : ∀ y, y ∈ P ∨ y ∈ R → y.node ≠ n := by
    unfold nodesC at hnd
    rw [hPR, List.map_append, List.map_cons, List.nodup_append] at hnd
    obtain ⟨d1, d2, d3⟩ := hnd
    rintro y (hy | hy)
    · exact fun e => d3 _ (List.mem_map.2 ⟨y, hy, rfl⟩) _ (by simp) (e.trans hn.symm)
    · intro e; exact (List.nodup_cons.1 d2).1 ((hn.trans e.symm) ▸ List.mem_map.2 ⟨y, hy, rfl⟩)
  have hP : ∀ l : List BK, (∀ y ∈ l, y.node ≠ n) → ∀ x ∈ (l.filter (isDue (c.now + 1))).map (fun b => (b.node, nextS b.seq)), x.1 ≠ n := by
    intro l hl x hx
    obtain ⟨y, hy, rfl⟩ := List.mem_map.1 hx
    exact hl y (List.mem_filter.1 hy).1
  by_cases hdue : b.due = c.now + 1
  · have hbd : isDue (c.now + 1) b = true := by simp [isDue, hdue]
    have hpr : probesC c = (P.filter (isDue (c.now + 1))).map (fun b => (b.node, nextS b.seq)) ++ (n, nextS b.seq) :: (R.filter (isDue (c.now + 1))).map (fun b => (b.node, nextS b.seq)) := by
      unfold probesC
      rw [hPR, List.filter_append, List.filter_cons, if_pos hbd, List.map_append, List.map_cons, hn]
    have hsb : stepB (c.now + 1) b = { b with seq := nextS b.seq, opn := true, due := c.now + 1 + 4 } := by simp [stepB, lateB, ho]
    have hbt : stepB (c.now + 1) b ∈ (tickC c).l := List.mem_map.2 ⟨b, hb, by rw [if_pos hbd]⟩
    have hts := hci.tick.srt
    have hg : getC (tickC c) n = some (stepB (c.now + 1) b) := getC_of hts hbt ((stepB_node _ _).trans hn)
    generalize hL1 : (P.filter (isDue (c.now + 1))).map (fun b => (b.node, nextS b.seq)) = L1 at *
    generalize hL2 : (R.filter (isDue (c.now + 1))).map (fun b => (b.node, nextS b.seq)) = L2 at *
    have h1 : ∀ x ∈ L1, x.1 ≠ n := hL1 ▸ hP P (fun y hy => hne y (.inl hy))
    have h2 : ∀ x ∈ L2, x.1 ≠ n := hL2 ▸ hP R (fun y hy => hne y (.inr hy))
    have hh : heardB (stepB (c.now + 1) b) = ({ stepB (c.now + 1) b with opn := false, failed := 0, risen := b.risen + 1 }, false) := by
      rw [hsb]; simp [heardB, hu]
    refine ⟨L1.length, nextS b.seq, ⟨(tickC c).now, setL n (heardB (stepB (c.now + 1) b)).1 (tickC c).l⟩, fun i x hx => ?_, fun x hx => ?_, ?_, ?_, ?_, ?_⟩
    · rw [hpr] at hx
      rcases Nat.lt_trichotomy i L1.length with h | h | h
      · rw [List.getElem?_append_left h] at hx
        have := h1 x (List.mem_of_getElem? hx)
        simp [this]; omega
      · subst h
        rw [List.getElem?_append_right (by omega), Nat.sub_self, List.getElem?_cons_zero] at hx
        cases hx
        simp
      · rw [List.getElem?_append_right (by omega)] at hx
        obtain ⟨d, hd⟩ : ∃ d, i - L1.length = d + 1 := ⟨i - L1.length - 1, by omega⟩
        rw [hd, List.getElem?_cons_succ] at hx
        have := h2 x (List.mem_of_getElem? hx)
        simp [this]; omega
    · rw [hpr, List.getElem?_append_right (by omega), Nat.sub_self, List.getElem?_cons_zero] at hx
      cases hx
      refine ⟨rfl, ?_⟩
      simp only [ansC, hg]
      rw [if_pos (by rw [hsb]; simp), hh]
    · rw [hpr]; simp; omega
    · rw [hpr, if_pos (by simp), hh]
      refine ⟨{ stepB (c.now + 1) b with opn := false, failed := 0, risen := b.risen + 1 }, List.mem_map.2 ⟨_, hbt, ?_⟩, ?_, ?_, rfl, ?_, ?_, ?_⟩
      · rw [if_pos (by rw [stepB_node, hn]; simp)]
      · exact (stepB_node (c.now + 1) b).trans hn
      · show (stepB (c.now + 1) b).up = true
        rw [hsb]; exact hu
      · show c.now + 1 < (stepB (c.now + 1) b).due
        rw [hsb]; show c.now + 1 < c.now + 1 + 4; omega
      · show (stepB (c.now + 1) b).due ≤ c.now + 1 + 4
        rw [hsb]; exact Int.le_refl _
      · show (stepB (c.now + 1) b).due % 4 = 1
        rw [hsb]; show (c.now + 1 + 4) % 4 = 1; omega
    · rw [hpr]; simp
    · rw [hpr, if_pos (by simp)]; rfl
  · have hbd : isDue (c.now + 1) b = false := by simp [isDue, hdue]
    have hno : ∀ x ∈ probesC c, x.1 ≠ n := by
      intro x hx
      obtain ⟨y, hy, rfl⟩ := List.mem_map.1 hx
      obtain ⟨hy1, hy2⟩ := List.mem_filter.1 hy
      intro e
      have : y = b := srt_inj hci.srt hy1 hb (e.trans hn.symm)
      subst this
      rw [hbd] at hy2; cases hy2
    refine ⟨(probesC c).length, 0, c, fun i x hx => ?_, fun x hx => ?_, ?_, ?_, Nat.le_refl _, ?_⟩
    · have := hno x (List.mem_of_getElem? hx)
      have hi := (List.getElem?_eq_some_iff.1 hx).1
      simp [this]; omega
    · rw [List.getElem?_eq_none (Nat.le_refl _)] at hx; cases hx
    · simp; omega
    · rw [if_neg (by omega)]
      refine ⟨b, List.mem_map.2 ⟨b, hb, by rw [hbd]; rfl⟩, hn, hu, ho, ?_, ?_, hd4⟩
      · show c.now + 1 < b.due; omega
      · show b.due ≤ c.now + 1 + 4; omega
    · rw [if_neg (by omega)]; rfl

set_option maxRecDepth 100000 in
set_option maxHeartbeats 4000000 in
theorem stays36 {w : World} {n T : Int} {A : Option Addr} {cap : Nat} {l : List Int} (hs : Sl w 0 1 (.slice A l.length cap) l.length (l.map (Value.int .i64))) (hlw : ∀ x ∈ l, (Lit.int .i64 x).wf = true) (hn : (Lit.int .i64 n).wf = true) :
    Calls Try.prog 3 #[.int .i64 n, .slice A l.length cap, .int .i64 T] w fun e w' => e = .returned (.bool true) ∧ Chg [] w w' := by
  have HS := Lib.hid hs
  have HLW := Lib.hid hlw
  have HN := Lib.hid hn
  clear hs hlw hn
  by_cases hb : n < 1 ∨ 65535 < n ∨ 10 < l.length ∨ 100 < T
  · generalize hL : l.length = L at *
    by_cases h1 : n < 1
    · clear hb
      go_enter Try.func3, Try.ntmps3
      go_wp2_with fail
      refine (hnew_any w).mono ?_
      rintro e w1 ⟨cb, S, rfl, hS⟩
      have HC := Lib.hid hS.chg
      clear hS
      go_wp2_with fail
      refine (lives36 _).mono ?_
      rintro e w9 ⟨rfl, hc9⟩
      go_wp2_with fail
      go_ret
      exact ⟨rfl, HC.out.trans hc9⟩
    · by_cases h2 : 65535 < n
      · clear hb
        go_enter Try.func3, Try.ntmps3
        go_wp2_with fail
        refine (hnew_any w).mono ?_
        rintro e w1 ⟨cb, S, rfl, hS⟩
        have HC := Lib.hid hS.chg
        clear hS
        go_wp2_with fail
        refine (lives36 _).mono ?_
        rintro e w9 ⟨rfl, hc9⟩
        go_wp2_with fail
        go_ret
        exact ⟨rfl, HC.out.trans hc9⟩
      · by_cases h3 : 10 < L
        · clear hb
          go_enter Try.func3, Try.ntmps3
          go_wp2_with fail
          refine (hnew_any w).mono ?_
          rintro e w1 ⟨cb, S, rfl, hS⟩
          have HC := Lib.hid hS.chg
          clear hS
          go_wp2_with fail
          refine (lives36 _).mono ?_
          rintro e w9 ⟨rfl, hc9⟩
          go_wp2_with fail
          go_ret
          exact ⟨rfl, HC.out.trans hc9⟩
        · have h4 : 100 < T := by omega
          clear hb
          go_enter Try.func3, Try.ntmps3
          go_wp2_with fail
          refine (hnew_any w).mono ?_
          rintro e w1 ⟨cb, S, rfl, hS⟩
          have HC := Lib.hid hS.chg
          clear hS
          go_wp2_with fail
          refine (lives36 _).mono ?_
          rintro e w9 ⟨rfl, hc9⟩
          go_wp2_with fail
          go_ret
          exact ⟨rfl, HC.out.trans hc9⟩
  · have h1 : 1 ≤ n := by omega
    have h2 : n ≤ 65535 := by omega
    have h3 : l.length ≤ 10 := by omega
    have h4 : T ≤ 100 := by omega
    clear hb
    have HSI := Lib.hid (addF_si (SI.start h1 h2) l)
    have HNW : Hid ((addF (addC ⟨0, []⟩ n).1 l).now = 0) := Lib.hid ((addF_now _ _).trans (addC_now _ _))
    have HA0 : Hid (addF (addC ⟨0, []⟩ n).1 (l.take 0) = (addC ⟨0, []⟩ n).1) := Lib.hid rfl
    have HAN : Hid (∀ i x, l[i]? = some x → addF (addC ⟨0, []⟩ n).1 (l.take (i + 1)) = (addC (addF (addC ⟨0, []⟩ n).1 (l.take i)) x).1) := Lib.hid fun i x hx => by
      rw [List.take_add_one, hx]; exact addF_snoc _ _ _
    have HAL : Hid (addF (addC ⟨0, []⟩ n).1 (l.take l.length) = addF (addC ⟨0, []⟩ n).1 l) := Lib.hid (by rw [List.take_length])
    have HCL : Hid (∀ W, Chg [] w W → ∀ i, i < l.length → ∃ b o x, A = some ⟨b, o, none⟩ ∧ l[i]? = some x ∧ (Lit.int .i64 x).wf = true ∧ W.cell? ⟨b, o + i, none⟩ = some (.int .i64 x)) := Lib.hid fun W hc i hi => by
      obtain ⟨b, o, c, hv, _, _, hx⟩ := Sl.at_ (HS.out.chg0 hc) (k := i) hi (by omega)
      simp only [Value.slice.injEq] at hv
      obtain ⟨rfl, _, _⟩ := hv
      have h0 : l[i]? = some l[i] := List.getElem?_eq_getElem hi
      refine ⟨b, o, l[i], rfl, h0, HLW.out _ (List.mem_of_getElem? h0), ?_⟩
      have := hx 0 (by omega)
      simp only [Nat.mul_one, Nat.add_zero, List.getElem?_map, h0] at this
      exact this
    generalize hL : l.length = L at *
    go_enter Try.func3, Try.ntmps3
    go_wp2_with fail
    refine (hnew_any w).mono ?_
    rintro e w1 ⟨cb, S, rfl, hS⟩
    have F1 := Lib.hid (hadd_any hS (by omega) HN.out)
    clear hS
    go_wp2_with fail
    refine F1.out.mono ?_
    rintro e w2 ⟨rfl, S2, hS2, _, _⟩
    have H2 := Lib.hid hS2
    clear hS2 F1
    go_wp2_with fail
    go_loopw [8] (fun iv wr => ∃ (i : Nat) (Si : List Nat), i ≤ L ∧ iv = .int .i64 i ∧ Hid (CkS w wr cb (0 + 1 + i) (addF (addC ⟨0, []⟩ n).1 (l.take i)) Si)) (fun iv _ => L - (intOf iv).toNat)
    case atStart => exact ⟨0, S2, by omega, rfl, Lib.hid (by rw [HA0.out]; exact H2.out)⟩
    case round =>
      obtain ⟨i, Si, hi, rfl, HK⟩ := hrel
      by_cases hlt : i < L
      · obtain ⟨b, o, x, rfl, hx, hxw, hcx⟩ := HCL.out _ HK.out.chg i hlt
        have F3 := Lib.hid (hadd_any HK.out (by omega) hxw)
        have HX := Lib.hid (HAN.out i x hx)
        clear H2 hx hxw
        go_wp2_with fail
        refine F3.out.mono ?_
        rintro e w4 ⟨rfl, S4, hS4, _, _⟩
        have H4 : Hid (CkS w w4 cb (0 + 1 + (i + 1)) (addF (addC ⟨0, []⟩ n).1 (l.take (i + 1))) S4) := Lib.hid (by rw [HX.out]; exact hS4)
        clear hS4 HK F3 HX hcx
        go_wp2_with fail
        go_roundw
        case rel => exact ⟨i + 1, S4, by omega, by go_num, H4⟩
        case measure => simp [intOf]; omega
      · obtain rfl : i = L := by omega
        have HJ : Hid (CkS w wr cb (11 + 2 * 0) (addF (addC ⟨0, []⟩ n).1 l) Si) := Lib.hid (by have := HK.out; rw [HAL.out] at this; exact this.mono (by omega))
        clear H2 HK HAL HA0 HAN HCL HS HLW
        generalize addF (addC ⟨0, []⟩ n).1 l = c0 at *
        go_wp2_with fail
        go_loopw [9] (fun iv wr => ∃ (k : Nat) (c : CK) (Si : List Nat), iv = .int .i64 (k + 1) ∧ k ≤ 100 ∧ Hid (CkS w wr cb (11 + 2 * k) c Si ∧ SI n c ∧ c.now = k)) (fun iv _ => 102 - (intOf iv).toNat)
        case atStart => exact ⟨0, c0, Si, rfl, by omega, Lib.hid ⟨HJ.out, HSI.out, HNW.out⟩⟩
        case round =>
          obtain ⟨k, c, Si, rfl, hk, HK⟩ := hrel
          by_cases hlt : (k : Int) + 1 ≤ T
          · have F4 := Lib.hid (htick_any HK.out.1 (by omega))
            clear HJ HSI HNW
            go_wp2_with fail
            refine F4.out.mono ?_
            rintro e w5 ⟨pv, xv, rfl, S5, hS5, _, _, hp5, _, hap, _⟩
            obtain ⟨j, s, c', P1, P2, P3, P4, P5, P6⟩ := HK.out.2.1.tick HK.out.1.ci
            rw [HK.out.2.2] at P3 P6
            have hprl : (probesC c).length ≤ 300 := by
              have h8 := prL_len (c.now + 1) c.l
              have h9 := HK.out.1.ci.len
              have : probesC c = prL (c.now + 1) c.l := rfl
              rw [this]; omega
            obtain ⟨Ap, cp, rfl⟩ := Sl.form (Sl.of_own hp5)
            have HREC := Lib.hid (fun (wx : World) (h : wx.ownsRow wr.heap.size 32 2 (.slice Ap (probesC c).length cp) (probesC c).length ((probesC c).flatMap encPr)) i x (hx : (probesC c)[i]? = some x) => own_rec encPr_len (by omega) h hx)
            have HGET : Hid (∀ i, i < (probesC c).length → ∃ x, (probesC c)[i]? = some x) := Lib.hid (fun i hi => ⟨_, List.getElem?_eq_getElem hi⟩)
            have H5 := Lib.hid (And.intro hS5 (And.intro hp5 hap))
            have HP1 := Lib.hid P1
            have HP2 := Lib.hid P2
            have HP4 := Lib.hid P4
            have HP6 := Lib.hid P6
            clear hS5 hp5 hap P1 P2 P4 P6 F4 HK
            generalize probesC c = pr at *
            generalize hN : pr.length = N at *
            generalize hct : tickC c = ct at *
            clear hct
            go_wp2_with fail
            go_loopw [12, 13] (fun mv iv wx => ∃ (i : Nat) (Sx : List Nat), i ≤ N ∧ iv = .int .i64 i ∧ mv = .int .i64 (if i ≤ j then 0 else 1) ∧ Hid (CkS w wx cb (if i ≤ j then 11 + 2 * k + 1 else 11 + 2 * k + 2) (if i ≤ j then ct else c') Sx ∧
              wx.ownsRow wr.heap.size 32 2 (.slice Ap N cp) N (pr.flatMap encPr) ∧ Apart (Value.slice Ap N cp).ownBlock.toList Sx)) (fun _ iv _ => N - (intOf iv).toNat)
            case atStart => exact ⟨0, S5, by omega, rfl, by simp, Lib.hid (by rw [if_pos (by omega), if_pos (by omega)]; exact H5.out)⟩
            case round =>
              obtain ⟨i, Sx, hi, rfl, rfl, HX⟩ := hrel
              by_cases hiN : i < N
              · obtain ⟨x, hx⟩ : ∃ x, pr[i]? = some x := HGET.out i hiN
                obtain ⟨g, cp', hv, hrg⟩ := HREC.out _ HX.out.2.1 i x hx
                simp only [Value.slice.injEq, true_and] at hv
                obtain ⟨rfl, rfl⟩ := hv
                have g0 := hrg 0 (.int .i64 x.1) rfl
                have g1 := hrg 1 (.int .i64 x.2) rfl
                rw [Nat.add_zero] at g0
                clear hrg
                by_cases hij : i = j
                · subst hij
                  obtain ⟨hxe, hans⟩ := HP2.out x hx
                  obtain ⟨x1, x2⟩ := x
                  simp only [Prod.mk.injEq] at hxe
                  obtain ⟨rfl, rfl⟩ := hxe
                  simp only at g0 g1
                  have hck : Hid (CkS w wr cb (11 + 2 * k + 1) ct Sx) := Lib.hid (by have := HX.out.1; rw [if_pos (by omega), if_pos (by omega)] at this; exact this)
                  have F5 := Lib.hid (hans_any hck.out (by omega) HN.out x2)
                  rw [show ansV ct x1 x2 = .tuple #[.agg #[.int .i64 0, .bool false], .bool true] by unfold ansV; rw [hans]; rfl] at F5
                  rw [hans] at F5
                  have hm1 : (if i ≤ i then (0 : Int) else 1) = 0 := if_pos (by omega)
                  have hm2 : (if i + 1 ≤ i then (0 : Int) else 1) = 1 := if_neg (by omega)
                  have hc2 : (if i + 1 ≤ i then ct else c') = c' := if_neg (by omega)
                  have hk2 : (if i + 1 ≤ i then 11 + 2 * k + 1 else 11 + 2 * k + 2) = 11 + 2 * k + 2 := if_neg (by omega)
                  rw [hm1]
                  clear hx hans hm1
                  go_wp2_with fail
                  refine F5.out.mono ?_
                  rintro e w6 ⟨rfl, S6, hS6, hc6, hn6⟩
                  have hA6 := (Chg.refl [] w6).alloc (.cells #[.int .i64 0, .bool false] 34)
                  have hB6 : Blk (w6.alloc (.cells #[.int .i64 0, .bool false] 34)) w6.heap.size 34 #[.int .i64 0, .bool false] := Blk.new _ _ _
                  have H6 : Hid (CkS w w6 cb (11 + 2 * k + 2) c' S6 ∧ w6.ownsRow _ 32 2 (.slice (some ⟨g, 0, none⟩) N cp) N (pr.flatMap encPr) ∧ Apart (Value.slice (some ⟨g, 0, none⟩) N cp).ownBlock.toList S6) :=
                    Lib.hid ⟨hS6, own_chg HX.out.2.1 hc6 HX.out.2.2, (HX.out.2.2.symm.grow hn6 (fun y hy => (own_lt HX.out.2.1 y hy).2)).symm⟩
                  clear hS6 hc6 hn6 F5 hck HX
                  go_wp2_with (first
                    | (refine wpList_store_blk rfl 34 _ _ rfl rfl hB6 rfl rfl rfl (by kernel_rfl) rfl ?_; intro w7 hB7 hc7; have R7 := Lib.hid hB7.rangeQ; clear hB6)
                    | (refine wpList_row 34 _ rfl rfl w6.heap.size 0 rfl _ _ R7.out Try.underlying34 rfl infCh ?_)
                    | fail)
                  have hz := hA6.trans' hc7 (by intro y hy; simp at hy; subst hy; exact .inr (Nat.le_refl _))
                  have H7 := Lib.hid (And.intro (H6.out.1.chg0 hz) (And.intro (own_chg H6.out.2.1 hz (by simp)) H6.out.2.2))
                  clear hz hA6 hc7 hB7 R7 H6
                  go_roundw
                  case rel => exact ⟨i + 1, S6, by omega, by go_num, by rw [hm2], Lib.hid (by rw [hc2, hk2]; exact H7.out)⟩
                  case measure => simp [intOf]; omega
                · have hxn : (x.1 != n) = true := by
                    simp only [bne_iff_ne, ne_eq]
                    exact fun h => hij ((HP1.out i x hx).1 h)
                  have hm1 : (if i + 1 ≤ j then (0 : Int) else 1) = (if i ≤ j then (0 : Int) else 1) := by
                    by_cases h : i ≤ j
                    · rw [if_pos (by omega), if_pos h]
                    · rw [if_neg (by omega), if_neg h]
                  have hc1 : (if i + 1 ≤ j then ct else c') = (if i ≤ j then ct else c') := by
                    by_cases h : i ≤ j
                    · rw [if_pos (by omega), if_pos h]
                    · rw [if_neg (by omega), if_neg h]
                  have hk1 : (if i + 1 ≤ j then 11 + 2 * k + 1 else 11 + 2 * k + 2) = (if i ≤ j then 11 + 2 * k + 1 else 11 + 2 * k + 2) := by
                    by_cases h : i ≤ j
                    · rw [if_pos (by omega), if_pos h]
                    · rw [if_neg (by omega), if_neg h]
                  rw [← hm1]
                  generalize hmv : (if i + 1 ≤ j then (0 : Int) else 1) = mv at *
                  clear hx
                  go_wp2_with fail
                  go_roundw
                  case rel => exact ⟨i + 1, Sx, by omega, by go_num, by rw [hmv], Lib.hid (by rw [hc1, hk1]; exact HX.out)⟩
                  case measure => simp [intOf]; omega
              · obtain rfl : i = N := by omega
                have hSI : Hid (SI n (if i ≤ j then ct else c') ∧ (if i ≤ j then ct else c').now = k + 1) := Lib.hid (by
                  have h5 := HP4.out
                  have h6 := HP6.out
                  by_cases h : i ≤ j
                  · rw [if_neg (by omega)] at h5 h6
                    rw [if_pos h]; exact ⟨h5, h6⟩
                  · rw [if_pos (by omega)] at h5 h6
                    rw [if_neg h]; exact ⟨h5, h6⟩)
                have hm : (if i ≤ j then (0 : Int) else 1) = (if ((k : Int) + 1) % 4 = 1 then 1 else 0) := by
                  by_cases h : i ≤ j
                  · rw [if_pos h, if_neg (fun e => by have := P3.1 e; omega)]
                  · rw [if_neg h, if_pos (P3.2 (by omega))]
                have HX2 := Lib.hid (HX.out.1.mono (K' := 11 + 2 * (k + 1)) (by split <;> omega))
                have F6 := Lib.hid (hup_any HX.out.1 HN.out)
                rw [hSI.out.1.up HX.out.1.ci.srt] at F6
                rw [hm]
                have ht : ((k : Int) + 1).tmod 4 = ((k : Int) + 1) % 4 := Int.tmod_eq_emod_of_nonneg (by omega)
                clear hm HX HP1 HP2 HP4 HP6 H5 HREC HGET P3
                generalize (if i ≤ j then ct else c') = c2 at *
                by_cases hm4 : ((k : Int) + 1) % 4 = 1
                · rw [hm4] at ht
                  rw [if_pos hm4]
                  go_wp2_with fail
                  refine F6.out.mono ?_
                  rintro e w8 ⟨rfl, rfl⟩
                  go_wp2_with fail
                  go_roundw
                  case rel => exact ⟨k + 1, c2, Sx, by go_num, by omega, Lib.hid ⟨HX2.out, hSI.out.1, by rw [hSI.out.2]; simp⟩⟩
                  case measure => simp [intOf]; omega
                · rw [if_neg hm4]
                  have hb4 : (((k : Int) + 1).tmod 4 == 1) = false := by rw [ht]; simpa using hm4
                  have hb5 : (((k : Int) + 1) % 4 == 1) = false := by simpa using hm4
                  go_wp2_with fail
                  refine F6.out.mono ?_
                  rintro e w8 ⟨rfl, rfl⟩
                  go_wp2_with fail
                  go_roundw
                  case rel => exact ⟨k + 1, c2, Sx, by go_num, by omega, Lib.hid ⟨HX2.out, hSI.out.1, by rw [hSI.out.2]; simp⟩⟩
                  case measure => simp [intOf]; omega
          · have HC := Lib.hid HK.out.1.chg
            clear HJ HSI HNW HK
            go_wp2_with fail
            refine (lives36 _).mono ?_
            rintro e w9 ⟨rfl, hc9⟩
            go_wp2_with fail
            go_ret
            exact ⟨rfl, HC.out.trans hc9⟩
end Go.Proofs.Ytgbdbeaflilmlaa
