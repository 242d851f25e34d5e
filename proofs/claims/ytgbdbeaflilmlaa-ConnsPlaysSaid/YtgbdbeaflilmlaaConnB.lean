/-
  WALKS over package conns: busy, count, Busy. Condition: a table that New made.
-/
import Derived.Test.YtgbdbeaflilmlaaConnA
set_option linter.unusedVariables false
set_option linter.unusedSimpArgs false
namespace Go.Proofs.Ytgbdbeaflilmlaa
open Go.RowKit Go.Maps

theorem SlN.chg0 {w w' : World} {B : Nat} {v : Value} {l : List En} (h : SlN w B v l) (hc : Chg [] w w') : SlN w' B v l := Sl.chg0 h hc
theorem SlN.one {w : World} {B : Nat} {A : Option Addr} {n c : Nat} {l : List En} (h : SlN w B (.slice A n c) l) {i : Nat} {x : En} (hx : l[i]? = some x) :
    ∃ b o, A = some ⟨b, o, none⟩ ∧ w.rangeAt b (o + i * 46) (arrN x).toList := by
  obtain ⟨b, o, c', hv, _, _, hc⟩ := Sl.rec encN_len (by omega) h hx
  simp only [Value.slice.injEq] at hv
  obtain ⟨rfl, _, _⟩ := hv
  refine ⟨b, o, rfl, fun j u hu => ?_⟩
  have hj : j < 46 := by have := (List.getElem?_eq_some_iff.1 hu).1; exact this
  rw [Nat.add_assoc, hc j hj]
  exact hu
theorem busyE_val (e : En) : busyE e = ((e.kind == 2) && (decide (1 ≤ e.st) && decide (e.st ≤ 3))) := by
  unfold busyE
  by_cases h : e.kind = 2 <;> simp [h]
set_option maxRecDepth 100000 in
set_option maxHeartbeats 1000000 in
theorem ebusy_any (e : En) (w : World) : Calls Try.prog 79 #[.agg (arrN e)] w fun x w' => x = .returned (.bool (busyE e)) ∧ Chg [] w w' := by
  have hBf : Blk (w.alloc (.cells (arrN e) 96)) w.heap.size 96 (arrN e) := Blk.new _ _ _
  have HC1 := Lib.hid ((Chg.refl [] w).alloc (.cells (arrN e) 96))
  have ck : (w.alloc (.cells (arrN e) 96)).cell? ⟨w.heap.size, 34, none⟩ = some (.int .i64 e.kind) := hBf.cell 34
  have cs : (w.alloc (.cells (arrN e) 96)).cell? ⟨w.heap.size, 39, none⟩ = some (.int .i64 e.st) := hBf.cell 39
  have HB := Lib.hid (busyE_val e)
  clear hBf
  go_enter Try.func79, Try.ntmps79
  go_upto_region 1 with fail
  generalize w.alloc (.cells (arrN e) 96) = w1 at *
  generalize w.heap.size = gf at *
  go_cut [2] (fun v wx => v = .bool (busyE e) ∧ w1 = wx)
  case first =>
    have hb := HB.out
    clear HB
    generalize hv : busyE e = bv at *
    generalize hk : (e.kind == 2) = bk at *
    cases bk with
    | false =>
      simp only [Bool.false_and] at hb
      have HB := Lib.hid hb
      clear hb hv
      go_wp2_with fail
      go_meet
      exact ⟨congrArg Value.bool HB.out.symm, rfl⟩
    | true =>
      have hk2 : e.kind = 2 := by simpa using hk
      generalize hs1 : decide (1 ≤ e.st) = b1 at *
      cases b1 with
      | false =>
        simp only [Bool.false_and, Bool.and_false] at hb
        have HB := Lib.hid hb
        clear hb hv
        go_wp2_with fail
        go_meet
        exact ⟨congrArg Value.bool HB.out.symm, rfl⟩
      | true =>
        simp only [Bool.true_and] at hb
        have HB := Lib.hid hb
        clear hb hv
        go_wp2_with fail
        go_meet
        exact ⟨congrArg Value.bool HB.out.symm, rfl⟩
  case rest =>
  obtain ⟨rfl, rfl⟩ := hcut
  go_wp2_with fail
  go_ret
  exact ⟨rfl, HC1.out⟩
set_option maxRecDepth 100000 in
set_option maxHeartbeats 2000000 in
theorem ccount_any {w : World} {tb m1 m2 m3 q nn K : Nat} {vs : Value} {sq : Int} {its : List It} {c : TC} (h : CtR w tb m1 m2 m3 q nn vs sq its c) (hci : CI K c) :
    Calls Try.prog 78 #[.pointer (some ⟨tb, 0, none⟩), .func (.func 79) #[] #[]] w fun e w' => e = .returned (.int .i64 (((c.l.map (·.1)).filter busyE).length : Nat)) ∧ Chg [] w w' := by
  have F1 := Lib.hid (call_any h hci)
  have hcl : c.l.length ≤ 64 := by have := hci.len; have := hci.n1; omega
  have hz00 : ∀ w, (zeroValue 96).run Try.prog w = .ok (.agg (arrN eN0)) w := zeroEn
  clear h hci
  go_enter Try.func78, Try.ntmps78
  go_wp2_with fail
  refine F1.out.mono ?_
  rintro e w1 ⟨v, A, rfl, hs, hp, hsl, hc1⟩
  clear F1
  obtain ⟨AA, ca, rfl⟩ := Sl.form hsl
  have HFin : Hid (((c.l.map (·.1)).filter busyE).length = (A.filter busyE).length) := Lib.hid ((hp.filter _).length_eq).symm
  have hAl : A.length ≤ 64 := by have := hp.length_eq; simp at this; omega
  have HO := Lib.hid (fun W (hc : Chg [] w1 W) i x hx => SlN.one (hsl.chg0 hc) (i := i) (x := x) hx)
  have HC1 := Lib.hid hc1
  have HX : Hid (∀ i, i < A.length → ∃ x, A[i]? = some x) := Lib.hid fun i hi => ⟨_, List.getElem?_eq_getElem hi⟩
  clear hs hp hsl hc1
  generalize hN : A.length = N at *
  go_wp2_with fail
  go_loopw [5, 11] (fun nv iv wr => ∃ k : Nat, k ≤ N ∧ iv = .int .i64 k ∧ nv = .int .i64 (((A.take k).filter busyE).length : Nat) ∧ Chg [] w1 wr) (fun _ iv _ => N - (intOf iv).toNat)
  case atStart => exact ⟨0, by omega, rfl, rfl, Chg.refl _ _⟩
  case round =>
    obtain ⟨k, hk, rfl, rfl, hcw⟩ := hrel
    by_cases hlt : k < N
    · obtain ⟨x, hx⟩ := HX.out k hlt
      obtain ⟨b, o, rfl, hrg⟩ := HO.out wr hcw k x hx
      have htk : ((A.take (k + 1)).filter busyE).length = ((A.take k).filter busyE).length + (if busyE x = true then 1 else 0) := by
        rw [List.take_add_one, hx, List.filter_append, List.length_append]
        simp only [Option.toList_some, List.filter_cons, List.filter_nil]
        split <;> rfl
      have hcb : ((A.take k).filter busyE).length ≤ k := Nat.le_trans (List.length_filter_le _ _) (by rw [List.length_take]; omega)
      have HTK := Lib.hid htk
      have hA := (Chg.refl [] wr).alloc (.cells arrN0 96)
      have hB : Blk (wr.alloc (.cells arrN0 96)) wr.heap.size 96 arrN0 := Blk.new _ _ _
      generalize ((A.take k).filter busyE).length = m at *
      clear htk hx
      go_upto_region 5 with (first
        | (refine wpList_row 96 (.tmp 13) rfl rfl b _ rfl _ _ hrg Try.underlying96 rfl infN ?_)
        | (refine wpList_store_blk rfl 96 _ _ rfl rfl hB rfl rfl rfl (infN (e := x)) (arrN_one x) ?_; intro w5 hB5 hc5)
        | fail)
      have hc5' := hA.trans' hc5 (by intro y hy; simp at hy; subst hy; exact .inr (Nat.le_refl _))
      have HC5 := Lib.hid (hcw.trans hc5')
      have hR5 := hB5.rangeQ
      clear hB5 hc5 hc5' hA hB hrg hcw
      generalize wr.heap.size = gk at *
      go_wp2_with (first
        | (refine wpList_row 96 (.tmp 7) rfl rfl gk 0 rfl (arrN x) _ hR5 Try.underlying96 rfl infN ?_)
        | fail)
      refine (ebusy_any x w5).mono ?_
      rintro e w6 ⟨rfl, hc6⟩
      have HC6 := Lib.hid (HC5.out.trans hc6)
      clear hc6 hR5
      generalize busyE x = bz at *
      cases bz with
      | true =>
        go_wp2_with fail
        go_roundw
        case rel => exact ⟨k + 1, by omega, by go_num, by rw [HTK.out]; go_num, HC6.out⟩
        case measure => simp [intOf]; omega
      | false =>
        go_wp2_with fail
        go_roundw
        case rel => exact ⟨k + 1, by omega, by go_num, by rw [HTK.out]; rfl, HC6.out⟩
        case measure => simp [intOf]; omega
    · obtain rfl : k = N := by omega
      have HZ := Lib.hid (And.intro hN hcw)
      clear hN hcw
      go_wp2_with fail
      go_ret
      refine ⟨?_, HC1.out.trans HZ.out.2⟩
      rw [HFin.out, ← HZ.out.1, List.take_length]
      rfl
set_option maxRecDepth 100000 in
set_option maxHeartbeats 400000 in
theorem cbusy_any {w : World} {tb m1 m2 m3 q nn K : Nat} {vs : Value} {sq : Int} {its : List It} {c : TC} (h : CtR w tb m1 m2 m3 q nn vs sq its c) (hci : CI K c) :
    Calls Try.prog 49 #[.pointer (some ⟨tb, 0, none⟩)] w fun e w' => e = .returned (.int .i64 (((c.l.map (·.1)).filter busyE).length : Nat)) ∧ Chg [] w w' := by
  have F1 := Lib.hid (ccount_any h hci)
  clear h hci
  go_enter Try.func49, Try.ntmps49
  go_wp2_with fail
  refine F1.out.mono ?_
  rintro e w1 ⟨rfl, hc1⟩
  clear F1
  go_wp2_with fail
  go_ret
  exact ⟨rfl, hc1⟩
end Go.Proofs.Ytgbdbeaflilmlaa
