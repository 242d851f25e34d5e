/-
  WALKS: a change and a backend's life, of harrierlaw35; two tables, two backends compared. Condition: as many versions as may be; ticks up to a million.
-/
import Derived.Test.YtecblclpchndiaaGreatPool4
import Derived.DeepKeys4
import Derived.DeepKeys
import Derived.MapViews
set_option linter.unusedVariables false
set_option linter.unusedSimpArgs false
namespace Go.Proofs.YtecblclpchndiaaGreat
open Go.RowKit

/-- A change. -/
structure PO where
  kind : Int
  later : Int
  node : Int
  wt : Int
@[reducible] def arrO (o : PO) : Array Value := #[.int .i64 o.kind, .int .i64 o.later, .int .i64 o.node, .int .i64 o.wt]
/-- What a change makes of backends. -/
def howK (k n wt : Int) (L : List Bk) : Int × List Bk :=
  if 0 ≤ k ∧ k ≤ 2 then addL n wt L else if k = 3 ∨ k = 4 then oneL n (weighF wt) L else if k = 5 then oneL n drainF L else if k = 6 then removeL n L else oneL n (healthF (decide (k = 8))) L
def howO (o : PO) (L : List Bk) : Int × List Bk := howK (o.kind.tmod 9) o.node o.wt L
theorem howK_ok {k n wt : Int} {L : List Bk} (h : OkB L) : (howK k n wt L).1 = 0 → OkB (howK k n wt L).2 := by
  unfold howK
  split
  · exact addL_ok h
  · split
    · refine oneL_ok h (fun x hx => ?_)
      unfold weighF
      split
      · intro e; simp at e
      · next hw => intro _; exact ⟨rfl, by show 0 ≤ wt; omega, by show wt ≤ 4; omega⟩
    · split
      · exact oneL_ok h (fun x hx _ => ⟨rfl, hx⟩)
      · split
        · exact removeL_ok h
        · exact oneL_ok h (fun x hx _ => ⟨rfl, hx⟩)
def I64 (n : Int) : Prop := -9223372036854775808 ≤ n ∧ n ≤ 9223372036854775807

set_option maxRecDepth 100000 in
set_option maxHeartbeats 4000000 in
theorem do35_any {w : World} {N p hp : Nat} {ka kb : Int} {lv rv : Value} {S : List Nat} {es : List Ve} {s : PS} (h : PlR w N p hp ka kb lv rv S es s) (hN : N ≤ w.heap.size) (now : Int) (hok : OkS s now) (hn : 0 ≤ now ∧ now ≤ 1000000) (hl : s.last < 1000000) (o : PO) (ho : I64 o.node) :
    Calls Tryz.prog 7 #[.pointer (some ⟨p, 0, none⟩), .int .i64 now, .agg (arrO o)] w fun e w' => ChR w w' N p hp ka kb rv S s (chP ka kb now s (howO o s.L)) e := by
  obtain ⟨kind, later, n, wt⟩ := o
  have hA := (Chg.refl [] w).alloc (.cells #[.int .i64 kind, .int .i64 later, .int .i64 n, .int .i64 wt] 29)
  have hsz := Nat.le_trans hN hA.size
  have h1 := h.chg0 hA
  have FA := Lib.hid (addP_any h1 hsz now hok hn hl n wt)
  have FW := Lib.hid (weighP_any h1 hsz now hok hn hl n wt ho)
  have FD := Lib.hid (drainP_any h1 hsz now hok hn hl n ho)
  have FR := Lib.hid (removeP_any h1 hsz now hok hn hl n ho)
  have FH := Lib.hid (fun up => healthP_any h1 hsz now hok hn hl n up ho)
  have HA := Lib.hid hA
  have HH : Hid (howO ⟨kind, later, n, wt⟩ s.L = howK (kind.tmod 9) n wt s.L) := Lib.hid rfl
  rw [HH.out]
  clear HH h h1 hA hok ho hsz hN
  obtain ⟨k, hk⟩ : ∃ k, kind.tmod 9 = k := ⟨_, rfl⟩
  have hkw : IntKind.i64.wrap k = k := by
    have h1 := Int.tmod_lt_of_pos kind (b := 9) (by omega)
    have h2 : -9 < kind.tmod 9 := by
      rcases Int.lt_or_le kind 0 with h | h
      · have := Int.neg_tmod kind 9
        have h3 := Int.tmod_lt_of_pos (-kind) (b := 9) (by omega)
        omega
      · have := Int.tmod_nonneg 9 h; omega
    rw [IntKind.wrap_i64]; omega
  rw [hk]
  by_cases c1 : 0 ≤ k ∧ k ≤ 2
  · have HK : Hid (howK k n wt s.L = addL n wt s.L) := Lib.hid (by unfold howK; rw [if_pos c1])
    obtain ⟨c1, c2⟩ := c1
    clear FW FD FR FH
    go_enter Tryz.func7, Tryz.ntmps7
    go_wp2_with fail
    refine FA.out.mono ?_
    intro e w2 hr
    have HR := Lib.hid (hr.from HA.out)
    obtain rfl := hr.ret
    clear FA hr
    go_wp2_with fail
    go_ret
    rw [HK.out]
    exact HR.out
  · by_cases c3 : k = 3 ∨ k = 4
    · have HK : Hid (howK k n wt s.L = oneL n (weighF wt) s.L) := Lib.hid (by unfold howK; rw [if_neg c1, if_pos c3])
      clear FA FD FR FH
      rcases c3 with rfl | rfl
      all_goals
        clear c1
        go_enter Tryz.func7, Tryz.ntmps7
        go_wp2_with fail
        refine FW.out.mono ?_
        intro e w2 hr
        have HR := Lib.hid (hr.from HA.out)
        obtain rfl := hr.ret
        clear FW hr
        go_wp2_with fail
        go_ret
        rw [HK.out]
        exact HR.out
    · by_cases c5 : k = 5
      · have HK : Hid (howK k n wt s.L = oneL n drainF s.L) := Lib.hid (by unfold howK; rw [if_neg c1, if_neg c3, if_pos c5])
        subst c5
        clear FA FW FR FH c1 c3
        go_enter Tryz.func7, Tryz.ntmps7
        go_wp2_with fail
        refine FD.out.mono ?_
        intro e w2 hr
        have HR := Lib.hid (hr.from HA.out)
        obtain rfl := hr.ret
        clear FD hr
        go_wp2_with fail
        go_ret
        rw [HK.out]
        exact HR.out
      · by_cases c6 : k = 6
        · have HK : Hid (howK k n wt s.L = removeL n s.L) := Lib.hid (by unfold howK; rw [if_neg c1, if_neg c3, if_neg c5, if_pos c6])
          subst c6
          clear FA FW FD FH c1 c3 c5
          go_enter Tryz.func7, Tryz.ntmps7
          go_wp2_with fail
          refine FR.out.mono ?_
          intro e w2 hr
          have HR := Lib.hid (hr.from HA.out)
          obtain rfl := hr.ret
          clear FR hr
          go_wp2_with fail
          go_ret
          rw [HK.out]
          exact HR.out
        · have HK : Hid (howK k n wt s.L = oneL n (healthF (decide (k = 8))) s.L) := Lib.hid (by unfold howK; rw [if_neg c1, if_neg c3, if_neg c5, if_neg c6])
          have e3 : (k == 3) = false := by simpa using fun e => c3 (.inl e)
          have e4 : (k == 4) = false := by simpa using fun e => c3 (.inr e)
          have e5 : (k == 5) = false := by simpa using c5
          have e6 : (k == 6) = false := by simpa using c6
          have FH2 := Lib.hid (FH.out (k == 8))
          have HB : Hid (decide (k = 8) = (k == 8)) := Lib.hid rfl
          rw [HB.out] at HK
          clear FA FW FD FR c3 FH HB c5 c6
          by_cases c0 : 0 ≤ k
          · have c2 : ¬ k ≤ 2 := fun h => c1 ⟨c0, h⟩
            clear c1
            go_enter Tryz.func7, Tryz.ntmps7
            go_wp2_with fail
            refine FH2.out.mono ?_
            intro e w2 hr
            have HR := Lib.hid (hr.from HA.out)
            obtain rfl := hr.ret
            clear FH2 hr
            go_wp2_with fail
            go_ret
            rw [HK.out]
            exact HR.out
          · clear c1
            go_enter Tryz.func7, Tryz.ntmps7
            go_wp2_with fail
            refine FH2.out.mono ?_
            intro e w2 hr
            have HR := Lib.hid (hr.from HA.out)
            obtain rfl := hr.ret
            clear FH2 hr
            go_wp2_with fail
            go_ret
            rw [HK.out]
            exact HR.out
end Go.Proofs.YtecblclpchndiaaGreat
namespace Go.Proofs.YtecblclpchndiaaGreat
open Go.RowKit

/-- One backend that takes connections has all slots. -/
theorem tab_one (ka kb n wt : Int) (hn : 1 ≤ n) (hw : 1 ≤ wt) : tabP ka kb [⟨n, wt, false, false⟩] = List.replicate 61 n := by
  have hm : membersP [⟨n, wt, false, false⟩] = [⟨n, wt⟩] := by simp [membersP, mbB]
  unfold tabP
  rw [hm]
  have h0 : 0 < (roundM ka kb 61 [⟨n, wt⟩]).length := by
    rcases Nat.eq_zero_or_pos (roundM ka kb 61 [⟨n, wt⟩]).length with h | h
    · have := round_pos (ka := ka) (kb := kb) (m := 61) (L := [⟨n, wt⟩]) (by intro x hx; simp at hx; subst hx; show 0 ≤ wt; omega) (List.eq_nil_of_length_eq_zero h) ⟨n, wt⟩ (by simp)
      simp only at this
      omega
    · exact h
  have hf := table_full (ka := ka) (kb := kb) (m := 61) (L := [⟨n, wt⟩]) pr61 (by intro x hx; simp at hx; subst hx; exact hn) h0
  have hnod := table_nodes hf
  have hl := table_len ka kb 61 [⟨n, wt⟩]
  refine List.eq_replicate_iff.2 ⟨hl, fun a ha => ?_⟩
  have := hnod a ha
  simpa [nodesM] using this
def L1 : List Bk := [⟨1, 1, false, false⟩]
def L2 : List Bk := [⟨1, 2, false, false⟩]
def V1 : List Vs := [⟨1, 0, -1, List.replicate 61 1⟩]
theorem lv1 : chP 0 0 0 ⟨[], [], 0⟩ (addL 1 1 []) = (0, ⟨L1, V1, 1⟩) := by
  have h1 : addL 1 1 [] = (0, L1) := by decide
  rw [h1]
  unfold chP
  rw [if_neg (by simp)]
  unfold setP
  have hm : mayV [] 0 = 0 := mayV_nil 0 (by omega)
  simp only
  rw [if_neg (by simp [newV]), if_neg (by rw [hm]; simp)]
  unfold L1
  rw [tab_one 0 0 1 1 (by omega) (by omega)]
  rfl
theorem lv2 : chP 0 0 1 ⟨L1, V1, 1⟩ (oneL 1 (weighF 2) L1) = (0, ⟨L2, V1, 1⟩) := by
  have h1 : oneL 1 (weighF 2) L1 = (0, L2) := by decide
  rw [h1]
  unfold chP
  rw [if_neg (by simp)]
  unfold setP
  simp only
  have hn : newV V1 (tabP 0 0 L2) = true := by
    unfold L2
    rw [tab_one 0 0 1 2 (by omega) (by omega)]
    simp [newV, V1]
  rw [if_pos hn]
theorem lv3 : chP 0 0 2 ⟨L2, V1, 1⟩ (oneL 9 drainF L2) = (10, ⟨L2, V1, 1⟩) := by
  have h1 : oneL 9 drainF L2 = (10, []) := by decide
  rw [h1]
  unfold chP
  rw [if_pos (by simp)]
theorem okB1 : OkB L1 := ⟨by intro x hx; simp [L1] at hx; subst hx; simp, by simp [SrtB, nodesB, L1], by simp [L1]⟩
theorem okB2 : OkB L2 := ⟨by intro x hx; simp [L2] at hx; subst hx; simp, by simp [SrtB, nodesB, L2], by simp [L2]⟩
theorem okV1 : OkV V1 := ⟨by simp [V1], by intro x hx; simp only [V1, List.mem_singleton] at hx; subst hx; simp, by intro x hx; simp only [V1, List.mem_singleton] at hx; subst hx; simp⟩
theorem okS0 (now : Int) : OkS ⟨[], [], 0⟩ now := ⟨OkB.nil, OkV.nil, by simp, by simp⟩
theorem okS1 (now : Int) (h : 0 ≤ now) : OkS ⟨L1, V1, 1⟩ now := ⟨okB1, okV1, by simp, by intro x hx; simp only [V1, List.mem_singleton] at hx; subst hx; simp; omega⟩
theorem okS2 (now : Int) (h : 0 ≤ now) : OkS ⟨L2, V1, 1⟩ now := ⟨okB2, okV1, by simp, by intro x hx; simp only [V1, List.mem_singleton] at hx; subst hx; simp; omega⟩

set_option maxRecDepth 100000 in
set_option maxHeartbeats 4000000 in
theorem lives35_any (w : World) : Calls Tryz.prog 12 #[] w fun e w' => e = .returned (.bool true) ∧ Chg [] w w' := by
  go_enter Tryz.func12, Tryz.ntmps12
  go_wp2_with fail
  refine (newP_any 0 0 w).mono ?_
  rintro e w1 ⟨p, hp, rfl, hP, hpl, hhl, hc⟩
  have hfoot : ∀ (w2 : World) {rv : Value} {S : List Nat}, (∀ x ∈ p :: footH hp rv, x ∈ S) → True := fun _ _ _ _ => trivial
  have F1 := Lib.hid (addP_any hP hc.size 0 (okS0 0) (by omega) (by simp) 1 1)
  have HC := Lib.hid hc
  have HP0 := Lib.hid hP
  clear hP hc hfoot
  go_wp2_with fail
  refine F1.out.mono ?_
  rintro e w2 ⟨lv2', rv2, S2, es2, rfl, hP2, hc2, hs2⟩
  simp only [lv1] at hP2
  have HS2 : Hid (∀ x ∈ S2, w.heap.size ≤ x) := Lib.hid fun x hx => by
    rcases hs2 x hx with h | h
    · simp at h; omega
    · have := HC.out.size; omega
  have hz2 := Nat.le_trans HC.out.size hc2.size
  have F2 := Lib.hid (weighP_any hP2 hz2 1 (okS1 1 (by omega)) (by omega) (by simp) 1 2 (by omega))
  have HC2 : Hid (Chg [] w w2) := Lib.hid (HC.out.trans' hc2 (fun x hx => .inr (by
    simp [footH, Value.ownBlock] at hx
    rcases hx with rfl | rfl <;> omega)))
  have HF2 : Hid (∀ x ∈ p :: footH hp rv2, w.heap.size ≤ x) := Lib.hid fun x hx => by
    rcases List.mem_cons.1 hx with rfl | hx
    · exact hpl
    · exact HS2.out x (hP2.his.foot x hx)
  rw [lv1]
  clear hP2 hc2 hs2 hz2 F1
  go_wp2_with fail
  refine F2.out.mono ?_
  rintro e w3 ⟨lv3', rv3, S3, es3, rfl, hP3, hc3, hs3⟩
  simp only [lv2] at hP3
  have HS3 : Hid (∀ x ∈ S3, w.heap.size ≤ x) := Lib.hid fun x hx => by
    rcases hs3 x hx with h | h
    · exact HS2.out x h
    · have := HC2.out.size; omega
  have hz3 := Nat.le_trans HC2.out.size hc3.size
  have F3 := Lib.hid (drainP_any hP3 hz3 2 (okS2 2 (by omega)) (by omega) (by simp) 9 (by omega))
  have HC3 : Hid (Chg [] w w3) := Lib.hid (HC2.out.trans' hc3 (fun x hx => .inr (HF2.out x hx)))
  have HF3 : Hid (∀ x ∈ p :: footH hp rv3, w.heap.size ≤ x) := Lib.hid fun x hx => by
    rcases List.mem_cons.1 hx with rfl | hx
    · exact hpl
    · exact HS3.out x (hP3.his.foot x hx)
  rw [lv2]
  clear hP3 hc3 hs3 hz3 F2 HF2 HC2 HS2
  go_wp2_with fail
  refine F3.out.mono ?_
  rintro e w4 ⟨lv4, rv4, S4, es4, rfl, hP4, hc4, hs4⟩
  simp only [lv3] at hP4
  have HC4 : Hid (Chg [] w w4) := Lib.hid (HC3.out.trans' hc4 (fun x hx => .inr (HF3.out x hx)))
  have HP4 := Lib.hid hP4
  rw [lv3]
  have F4 := hasP_any hP4 okB2 1 (by omega)
  have hd : decide ((1 : Int) ∈ nodesB L2) = true := by decide
  simp only at F4
  rw [hd] at F4
  have F4 := Lib.hid F4
  clear hP4 hc4 hs4 hd F3 HF3 HC3 HS3
  go_wp2_with fail
  refine F4.out.mono ?_
  rintro e w5 ⟨rfl, hc5⟩
  have F5 := Lib.hid (versionsP_any (HP4.out.chg0 hc5) okV1)
  have HC5 := Lib.hid hc5
  clear hc5 F4
  go_wp2_with fail
  refine F5.out.mono ?_
  rintro e w6 ⟨v6, es6, rfl, ho6, hv6, hc6⟩
  have hl6 : es6.length = 1 := hv6.1
  obtain ⟨A6, c6, e6⟩ := Sl.form (Sl.of_own ho6)
  rw [hl6] at e6
  subst e6
  have HC6 := Lib.hid (HC5.out.trans hc6)
  have F6 := Lib.hid (membersPl_any (HP4.out.chg0 HC6.out) okB2)
  clear hc6 ho6 hv6 F5 HC5
  go_wp2_with fail
  refine F6.out.mono ?_
  rintro e w7 ⟨v7, rfl, hm7, hc7⟩
  have HC7 := Lib.hid (HC6.out.trans hc7)
  have F7 := Lib.hid (membersPl_any (HP4.out.chg0 HC7.out) okB2)
  have hl7 : (membersP L2).length = 1 := rfl
  obtain ⟨A7, c7, e7⟩ := Sl.form hm7
  rw [hl7] at e7
  subst e7
  clear hc7 hm7 F6 HC6
  go_wp2_with fail
  refine F7.out.mono ?_
  rintro e w8 ⟨v8, rfl, hm8, hc8⟩
  have HC8 := Lib.hid (HC4.out.trans (HC7.out.trans hc8))
  obtain ⟨b, o, c8, e8, hcap, d0, d1⟩ := hm8.at_ (i := 0) (x := ⟨1, 2⟩) rfl
  rw [hl7] at e8
  subst e8
  simp only [Nat.zero_mul, Nat.add_zero] at d0 d1
  clear hc8 hm8 F7 HC7
  go_wp2_with fail
  go_ret
  exact ⟨rfl, HC8.out⟩
end Go.Proofs.YtecblclpchndiaaGreat
namespace Go.Proofs.YtecblclpchndiaaGreat
open Go.RowKit Go.Maps Go.WideMaps Go.WideShapes

theorem kl_int {d : Nat} {x : Int} (h : (Lit.int .i64 x).wf = true) : Tryz.prog.keyLits (d + 1) 3 [.int .i64 x] = some [.int .i64 x] := by
  simp [Program.keyLits, Tryz.underlying3, h]
theorem kl_bool {d : Nat} (b : Bool) : Tryz.prog.keyLits (d + 1) 4 [.bool b] = some [.bool b] := by
  simp [Program.keyLits, Tryz.underlying4]
def litsBk (x : Bk) : List Lit := [.int .i64 x.node, .int .i64 x.w, .bool x.dr, .bool x.dn]
def okBk (x : Bk) : Prop := (Lit.int .i64 x.node).wf = true ∧ (Lit.int .i64 x.w).wf = true
set_option maxRecDepth 100000 in
theorem kl_bk {d : Nat} {x : Bk} (h : okBk x) : Tryz.prog.keyLits (d + 2) 37 (encB x) = some (litsBk x) := by
  have hcI : Tryz.prog.cellsOf 3 = 1 := by kernel_rfl
  have hcU : Tryz.prog.cellsOf 4 = 1 := by kernel_rfl
  have hcC : Tryz.prog.cellsOf 37 = 4 := by kernel_rfl
  unfold Program.keyLits
  simp only [Tryz.underlying37]
  rw [if_pos ⟨by rw [hcC]; rfl, by simp⟩]
  have g0 : ((encB x).drop 0).take 1 = [.int .i64 x.node] := rfl
  have g1 : ((encB x).drop 1).take 1 = [.int .i64 x.w] := rfl
  have g2 : ((encB x).drop 2).take 1 = [.bool x.dr] := rfl
  have g3 : ((encB x).drop 3).take 1 = [.bool x.dn] := rfl
  simp only [List.mapM_cons, List.mapM_nil, hcU, hcI, g0, g1, g2, g3]
  rw [kl_int (d := d) h.1, kl_int (d := d) h.2, kl_bool (d := d), kl_bool (d := d)]
  simp [litsBk]
theorem typesThree : ∃ d, Tryz.prog.types.size + 1 = d + 2 := ⟨Tryz.prog.types.size - 1, by have : 1 ≤ Tryz.prog.types.size := of_decide_eq_true (by kernel_rfl); omega⟩
def keyBk (x : Bk) : Lit := .string (keyBytes (litsBk x))
theorem key_bk {x : Bk} (h : okBk x) : keyOf Tryz.prog 37 (.agg #[.int .i64 x.node, .int .i64 x.w, .bool x.dr, .bool x.dn]) = some (keyBk x) := by
  have hk : Tryz.prog.keyType 37 = true := by kernel_rfl
  have hc : Tryz.prog.cellsOf 37 = 4 := by kernel_rfl
  obtain ⟨d, hd⟩ := typesThree
  unfold keyOf
  simp only [Tryz.underlying37]
  rw [if_pos (by simp [hk, Value.formed, Tryz.underlying37, hc]), hd]
  have := kl_bk (d := d) h
  have e : (Value.agg #[.int .i64 x.node, .int .i64 x.w, .bool x.dr, .bool x.dn]).cells.toList = encB x := rfl
  rw [e, this]; rfl
theorem laidOutP : laidOutB Tryz.prog = true := by kernel_rfl
theorem lawBk : KeyLaw Tryz.prog 37 := deep_law_laid laidOutP (m := 4) (by omega) (of_decide_eq_true (by kernel_rfl)) (by kernel_rfl) (by kernel_rfl)
theorem keyBk_inj {x y : Bk} (hx : okBk x) (hy : okBk y) (h : keyBk x = keyBk y) : x = y := by
  have := lawBk.inj (key_bk hx) (h ▸ key_bk hy)
  obtain ⟨a, b, c, d⟩ := x
  obtain ⟨a', b', c', d'⟩ := y
  simpa [and_assoc] using this
theorem eq_bk (w : World) {x y : Bk} (hx : okBk x) (hy : okBk y) : (Op.equalIn 10000 37 (.agg #[.int .i64 x.node, .int .i64 x.w, .bool x.dr, .bool x.dn]) (.agg #[.int .i64 y.node, .int .i64 y.w, .bool y.dr, .bool y.dn])).run Tryz.prog w = .ok (decide (x = y)) w := by
  obtain ⟨r, hr, hi⟩ := run_equal_deep w (m := 4) (by omega) (k := 37) (by kernel_rfl) (by kernel_rfl) (key_bk hx) (key_bk hy)
  have e : r = decide (x = y) := by
    by_cases h : x = y
    · rw [decide_eq_true h]; exact hi.2 (by rw [h])
    · rw [decide_eq_false h]
      cases r with
      | false => rfl
      | true => exact absurd (keyBk_inj hx hy (hi.1 rfl)) h
  rw [← e]; exact hr
theorem okB_bk {L : List Bk} (h : OkB L) : ∀ x ∈ L, okBk x := fun x hx => by
  have := h.ok x hx
  constructor <;> simp [Lit.wf, IntKind.min, IntKind.max, IntKind.signed, IntKind.bits] <;> omega

set_option maxRecDepth 100000 in
set_option maxHeartbeats 2000000 in
theorem ints20_any {w : World} {B B' : Nat} {v v' : Value} {l l' : List Int} (h : SlZ w B v l) (h' : SlZ w B' v' l') (hl : l.length ≤ 1000) :
    Calls Tryz.prog 11 #[v, v'] w fun e w' => e = .returned (.bool (decide (l = l'))) ∧ Chg [] w w' := by
  obtain ⟨A, c, rfl⟩ := Sl.form h
  obtain ⟨A', c', rfl⟩ := Sl.form h'
  have HS := Lib.hid (fun W (hW : Chg [] w W) i x hx => (h.chg0 hW).at_ (i := i) (x := x) hx)
  have HS' := Lib.hid (fun W (hW : Chg [] w W) i x hx => (h'.chg0 hW).at_ (i := i) (x := x) hx)
  clear h h'
  by_cases hlen : l.length = l'.length
  · have HX : Hid (∀ i, i < l.length → ∃ x y, l[i]? = some x ∧ l'[i]? = some y) := Lib.hid fun i hi => ⟨_, _, List.getElem?_eq_getElem hi, List.getElem?_eq_getElem (by omega)⟩
    have HE : Hid (l.take l.length = l'.take l.length → decide (l = l') = true) := Lib.hid fun e => by rw [List.take_length, hlen, List.take_length] at e; simp [e]
    have HN : Hid (∀ (i : Nat) x y, l[i]? = some x → l'[i]? = some y → x ≠ y → decide (l = l') = false) := Lib.hid fun i x y hx hy hn => decide_eq_false fun e => by subst e; rw [hx] at hy; exact hn (Option.some.inj hy)
    have HT : Hid (∀ (k : Nat) x, l[k]? = some x → l'[k]? = some x → l.take k = l'.take k → l.take (k + 1) = l'.take (k + 1)) := Lib.hid fun k x hx hy e => by rw [List.take_add_one, List.take_add_one, hx, hy, e]
    rw [← hlen] at HS'
    generalize hn : l.length = n at *
    rw [← hlen] 
    clear hlen
    go_enter Tryz.func11, Tryz.ntmps11
    go_wp2_with fail
    go_loopw [5] (fun iv wr => ∃ (k : Nat), k ≤ n ∧ iv = .int .i64 k ∧ Hid (l.take k = l'.take k) ∧ Hid (Chg [] w wr)) (fun iv _ => n - (intOf iv).toNat)
    case atStart => exact ⟨0, by omega, rfl, Lib.hid rfl, Lib.hid (Chg.refl _ _)⟩
    case round =>
      obtain ⟨k, hk, rfl, HQ, HC⟩ := hrel
      by_cases hlt : k < n
      · have hcn : (k : Int) < (n : Int) := by omega
        obtain ⟨x, y, hx, hy⟩ := HX.out k hlt
        obtain ⟨b, o, c2, hv, hcap, c0⟩ := HS.out wr HC.out k x hx
        obtain ⟨b', o', c2', hv', hcap', c0'⟩ := HS'.out wr HC.out k y hy
        simp only [Value.slice.injEq, true_and] at hv hv'
        obtain ⟨rfl, rfl⟩ := hv
        obtain ⟨rfl, rfl⟩ := hv'
        have HNk := Lib.hid (HN.out k x y hx hy)
        have HTk := Lib.hid (fun (e : x = y) => HT.out k x hx (by rw [e]; exact hy) HQ.out)
        clear hx hy HX HN HT HQ HE HS HS'
        by_cases hxy : x = y
        · have hxd : decide (x ≠ y) = false := by simp [hxy]
          have HTT := Lib.hid (HTk.out hxy)
          clear HNk HTk
          subst hxy
          go_upto_region 6 with fail
          go_region
          go_wp2_with fail
          go_roundw
          case rel => exact ⟨k + 1, by omega, by go_num, HTT, Lib.hid (Chg.drew HC.out)⟩
          case measure => simp [intOf] <;> omega
        · have HNN := Lib.hid (HNk.out hxy)
          clear HNk HTk
          go_upto_region 6 with fail
          go_region
          go_wp2_with fail
          go_ret
          exact ⟨by rw [HNN.out]; rfl, Chg.drew HC.out⟩
      · obtain rfl : k = n := by omega
        have hcn : ¬ (k : Int) < (k : Int) := by omega
        have HEE := Lib.hid (HE.out HQ.out)
        go_wp2_with fail
        go_ret
        exact ⟨by rw [HEE.out]; rfl, HC.out⟩
  · have hd : decide (l = l') = false := decide_eq_false fun e => hlen (by rw [e])
    have hne : ¬ (l.length : Int) = (l'.length : Int) := by omega
    rw [hd]
    clear HS HS'
    go_enter Tryz.func11, Tryz.ntmps11
    go_wp2_with fail
    go_ret
    exact ⟨rfl, Chg.refl _ _⟩
end Go.Proofs.YtecblclpchndiaaGreat
namespace Go.Proofs.YtecblclpchndiaaGreat
open Go.RowKit

def encO (o : PO) : List Value := [.int .i64 o.kind, .int .i64 o.later, .int .i64 o.node, .int .i64 o.wt]
theorem encO_len (o : PO) : (encO o).length = 4 := rfl
def SlO (w : World) (B : Nat) (v : Value) (l : List PO) : Prop := Sl w B 4 v l.length (l.flatMap encO)
theorem SlO.chg0 {w w' : World} {B : Nat} {v : Value} {l : List PO} (h : SlO w B v l) (hc : Chg [] w w') : SlO w' B v l := Sl.chg0 h hc
theorem SlO.at_ {w : World} {B : Nat} {v : Value} {l : List PO} (h : SlO w B v l) {i : Nat} {x : PO} (hi : l[i]? = some x) :
    ∃ b o c, v = .slice (some ⟨b, o, none⟩) l.length c ∧ l.length ≤ c ∧ w.cell? ⟨b, o + i * 4, none⟩ = some (.int .i64 x.kind) ∧ w.cell? ⟨b, o + i * 4 + 1, none⟩ = some (.int .i64 x.later) ∧
      w.cell? ⟨b, o + i * 4 + 2, none⟩ = some (.int .i64 x.node) ∧ w.cell? ⟨b, o + i * 4 + 3, none⟩ = some (.int .i64 x.wt) := by
  obtain ⟨b, o, c, hv, hb, hc, hx⟩ := Sl.rec encO_len (by omega) h hi
  exact ⟨b, o, c, hv, hc, hx 0 (by omega), by have := hx 1 (by omega); rw [← Nat.add_assoc] at this; exact this, by have := hx 2 (by omega); rw [← Nat.add_assoc] at this; exact this, by have := hx 3 (by omega); rw [← Nat.add_assoc] at this; exact this⟩
/-- Ticks behind the change ahead. -/
def laterF (l : Int) : Int := min (max l 0) 1000
theorem laterF_le (l : Int) : 0 ≤ laterF l ∧ laterF l ≤ 1000 := by unfold laterF; omega
/-- The newest table is that of the backends. -/
def TInv (ka kb : Int) (s : PS) : Prop := (s.V = [] → s.L = []) ∧ ∀ y, s.V[s.V.length - 1]? = some y → y.tab = tabP ka kb s.L
theorem pushV_last (V : List Vs) (last now : Int) (t : List Int) : (pushV V last now t)[(pushV V last now t).length - 1]? = some ⟨last + 1, now, -1, t⟩ := by
  unfold pushV
  rw [List.length_append, List.length_singleton, Nat.add_sub_cancel, List.getElem?_append_right (Nat.le_refl _), Nat.sub_self]
  rfl
theorem setP_t {ka kb now : Int} {s : PS} {L' : List Bk} (h : TInv ka kb s) : TInv ka kb (setP ka kb now s L').2 ∧ ((setP ka kb now s L').1 ≠ 0 → (setP ka kb now s L').2 = s) := by
  unfold setP
  split
  · next hn =>
    refine ⟨⟨fun e => ?_, fun y hy => ?_⟩, by simp⟩
    · simp only at e
      rw [e] at hn
      simp [newV] at hn
    · simp only at hy
      unfold newV at hn
      rw [hy] at hn
      simpa using hn
  · split
    · exact ⟨h, fun _ => rfl⟩
    · refine ⟨⟨fun e => ?_, fun y hy => ?_⟩, by simp⟩
      · simp [pushV] at e
      · simp only at hy
        rw [pushV_last] at hy
        injection hy with hy
        subst hy
        rfl
theorem chP_t {ka kb now : Int} {s : PS} {r : Int × List Bk} (h : TInv ka kb s) : TInv ka kb (chP ka kb now s r).2 ∧ ((chP ka kb now s r).1 ≠ 0 → (chP ka kb now s r).2 = s) := by
  unfold chP
  split
  · exact ⟨h, fun _ => rfl⟩
  · exact setP_t h
/-- Where a pool stands behind k changes. -/
structure StP (w wr : World) (p hp : Nat) (ka kb : Int) (k : Nat) (now : Int) (s : PS) : Prop where
  mem : ∃ lv rv S es, PlR wr w.heap.size p hp ka kb lv rv S es s ∧ ∀ x ∈ S, w.heap.size ≤ x
  ok : OkS s now
  num : s.last ≤ k
  tick : 0 ≤ now ∧ now ≤ 1000 * k
  chg : Chg [] w wr
theorem StP.chg0 {w wr w' : World} {p hp : Nat} {ka kb : Int} {k : Nat} {now : Int} {s : PS} (h : StP w wr p hp ka kb k now s) (hc : Chg [] wr w') : StP w w' p hp ka kb k now s := by
  obtain ⟨lv, rv, S, es, h1, h2⟩ := h.mem
  exact ⟨⟨lv, rv, S, es, h1.chg0 hc, h2⟩, h.ok, h.num, h.tick, h.chg.trans hc⟩
/-- A change, in the whole. -/
def ChS (w wr w' : World) (p hp : Nat) (ka kb : Int) (k : Nat) (now : Int) (r : Int × PS) (e : Ending) : Prop := e = .returned (.int .i64 r.1) ∧ StP w w' p hp ka kb (k + 1) now r.2
theorem do_st {w wr W : World} {p hp : Nat} {ka kb : Int} {k : Nat} {now : Int} {s : PS} (h : StP w wr p hp ka kb k now s) (hW : Chg [] wr W) (hk : k ≤ 30) (o : PO) (ho : I64 o.node) :
    Calls Tryz.prog 7 #[.pointer (some ⟨p, 0, none⟩), .int .i64 (now + laterF o.later), .agg (arrO o)] W fun e w' => ChS w W w' p hp ka kb k (now + laterF o.later) (chP ka kb (now + laterF o.later) s (howO o s.L)) e ∧ ∃ T, Chg T W w' ∧ ∀ x ∈ T, x < wr.heap.size := by
  obtain ⟨lv, rv, S, es, h1, h2⟩ := h.mem
  have hl := laterF_le o.later
  have ht := h.tick
  have hnum := h.num
  have hcW := h.chg.trans hW
  refine (do35_any (h1.chg0 hW) hcW.size (now + laterF o.later) (h.ok.later (by omega)) (by omega) (by omega) o ho).mono ?_
  rintro e w' ⟨lv', rv', S', es', rfl, q1, q2, q3⟩
  obtain ⟨c1, c2⟩ := chP_ok (ka := ka) (kb := kb) (now := now + laterF o.later) (k := k) (r := howO o s.L) (h.ok.later (by omega)) (howK_ok h.ok.bk) (by omega) hnum (by omega)
  have hT : ∀ x ∈ p :: footH hp rv, x ∈ S := fun x hx => by
    rcases List.mem_cons.1 hx with rfl | hx
    · exact h1.pS
    · exact h1.his.foot x hx
  refine ⟨⟨rfl, ⟨lv', rv', S', es', q1, fun x hx => ?_⟩, c1, by omega, by omega, hcW.trans' q2 (fun x hx => .inr (h2 x (hT x hx)))⟩, _, q2, fun x hx => h1.sl x (hT x hx)⟩
  rcases q3 x hx with h3 | h3
  · exact h2 x h3
  · exact Nat.le_trans hcW.size h3
theorem all_st {w wr : World} {p hp : Nat} {ka kb : Int} {k : Nat} {now : Int} {s : PS} (h : StP w wr p hp ka kb k now s) : Calls Tryz.prog 6 #[.pointer (some ⟨p, 0, none⟩)] wr fun e w' => ∃ v', e = .returned v' ∧ SlB w' wr.heap.size v' s.L ∧ Chg [] wr w' := by
  obtain ⟨lv, rv, S, es, h1, h2⟩ := h.mem
  refine (allP_any h1 h.ok.bk).mono ?_
  rintro e w' ⟨v', rfl, a, b⟩
  exact ⟨v', rfl, a.sl, b⟩
theorem versions_st {w wr : World} {p hp : Nat} {ka kb : Int} {k : Nat} {now : Int} {s : PS} (h : StP w wr p hp ka kb k now s) : Calls Tryz.prog 8 #[.pointer (some ⟨p, 0, none⟩)] wr fun e w' => ∃ v' es', e = .returned v' ∧ Sl w' 0 4 v' es'.length (es'.flatMap encV) ∧ VesR w' [] es' s.V ∧ Chg [] wr w' := by
  obtain ⟨lv, rv, S, es, h1, h2⟩ := h.mem
  refine (versionsP_any h1 h.ok.vs).mono ?_
  rintro e w' ⟨v', es', rfl, a, b, c⟩
  exact ⟨v', es', rfl, Sl.less (Sl.of_own a) (Nat.zero_le _), b.step (Chg.refl _ _) (by simp), c⟩
theorem members_st {w wr : World} {p hp : Nat} {ka kb : Int} {k : Nat} {now : Int} {s : PS} (h : StP w wr p hp ka kb k now s) : Calls Tryz.prog 10 #[.pointer (some ⟨p, 0, none⟩)] wr fun e w' => ∃ v', e = .returned v' ∧ SlM w' 0 v' (membersP s.L) ∧ Chg [] wr w' := by
  obtain ⟨lv, rv, S, es, h1, h2⟩ := h.mem
  refine (membersPl_any h1 h.ok.bk).mono ?_
  rintro e w' ⟨v', rfl, a, b⟩
  exact ⟨v', rfl, Sl.less a (Nat.zero_le _), b⟩
theorem has_st {w wr : World} {p hp : Nat} {ka kb : Int} {k : Nat} {now : Int} {s : PS} (h : StP w wr p hp ka kb k now s) (n : Int) (hn : I64 n) : Calls Tryz.prog 17 #[.pointer (some ⟨p, 0, none⟩), .int .i64 n] wr fun e w' => e = .returned (.bool (decide (n ∈ nodesB s.L))) ∧ Chg [] wr w' := by
  obtain ⟨lv, rv, S, es, h1, h2⟩ := h.mem
  exact hasP_any h1 h.ok.bk n hn
theorem pairs_st {w wr : World} {p hp : Nat} {ka kb : Int} {k : Nat} {now : Int} {s : PS} (h : StP w wr p hp ka kb k now s) (u : Nat) (hu : u < 18446744073709551616) : Calls Tryz.prog 14 #[.pointer (some ⟨p, 0, none⟩), .int .u64 u] wr fun e w' => ∃ v', e = .returned v' ∧ Sl w' 0 2 v' s.V.length ((prV s.V u).flatMap encP) ∧ Chg [] wr w' := by
  obtain ⟨lv, rv, S, es, h1, h2⟩ := h.mem
  refine (pairsP_any h1 h.ok.vs u hu).mono ?_
  rintro e w' ⟨v', rfl, a, b⟩
  exact ⟨v', rfl, Sl.less a (Nat.zero_le _), b⟩
theorem new_st (ka kb : Int) (w wr : World) (hw : Chg [] w wr) : Calls Tryz.prog 5 #[.agg #[.int .u64 ka, .int .u64 kb]] wr fun e w' => ∃ p hp, e = .returned (.pointer (some ⟨p, 0, none⟩)) ∧ StP w w' p hp ka kb 0 0 ⟨[], [], 0⟩ ∧ Chg [] wr w' := by
  refine (newP_any ka kb wr).mono ?_
  rintro e w' ⟨p, hp, rfl, h1, h2, h3, h4⟩
  refine ⟨p, hp, rfl, ⟨⟨.slice none 0 0, .slice none 0 0, [p, hp], [], ?_, ?_⟩, okS0 0, by simp, by simp, hw.trans h4⟩, h4⟩
  · exact ⟨h1.blk, own_less h1.row hw.size, ⟨h1.his.blk, own_less h1.his.row hw.size, h1.his.apart, h1.his.foot, Nat.le_trans hw.size h3, h1.his.vers⟩, h1.pS, h1.lS, h1.pf, h1.pl, h1.lf, Nat.le_trans hw.size h2, h1.sl⟩
  · have := hw.size
    intro x hx
    simp at hx
    omega
end Go.Proofs.YtecblclpchndiaaGreat
