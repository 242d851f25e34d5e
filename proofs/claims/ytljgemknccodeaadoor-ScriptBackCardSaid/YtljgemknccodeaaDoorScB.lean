/-
  CONTRACTS: numbers as text: the document's digits, Digits, number; the program's numbers. Condition: Gl, lengths.
-/
import Derived.Test.YtljgemknccodeaaDoorScG
set_option linter.unusedVariables false
set_option linter.unusedSimpArgs false
namespace Go.Proofs.YtljgemknccodeaaDoor
open Go.RowKit

/-- A row of bytes as a string. -/
theorem run_str {w : World} {b o n c : Nat} {l : Bs} (hn : l.length = n) (hc : ∀ j x, l[j]? = some x → w.cell? ⟨b, o + j, none⟩ = some (.int .u8 x.toNat)) :
    (convert 30 9 (.slice (some ⟨b, o, none⟩) n c)).run Tryd.prog w = .ok (str l) w := by
  subst hn
  exact run_convert_bytes_back w 30 9 5 ⟨b, o, none⟩ c l Tryd.underlying30 Tryd.underlying5 Tryd.underlying9 (fun j hj => by
    have h2 := hc j _ (List.getElem?_eq_getElem hj)
    by_cases h0 : j = 0
    · subst h0; simpa [Addr.add] using h2
    · simpa [Addr.add, h0] using h2)
theorem run_add {a b : Bs} (h : a.length + b.length ≤ 1000000000) (W : World) : (Op.stringOp .add (bsA a) (bsA b)).run Tryd.prog W = .ok (str (a ++ b)) W := by
  have h2 := run_string_add_sum (P := Tryd.prog) (w := W) (bsA a) (bsA b) (by rw [bsA_size, bsA_size]; omega)
  rw [bsA_app] at h2
  exact h2
theorem dec_len {u : Nat} (h : u < 18446744073709551616) : (Lib.decDigits u).length ≤ 20 := by
  rw [Lib.decDigits_length]
  exact Lib.nDigits_le20 u h
theorem dec_app {u : Nat} (h : ¬ u < 10) : Lib.decDigits (u / 10) ++ Lib.decDigits (u % 10) = Lib.decDigits u := by
  conv => rhs; rw [Lib.decDigits, dif_neg h]
  rw [show Lib.decDigits (u % 10) = [UInt8.ofNat (48 + u % 10)] from Lib.decDigits_one (by omega)]
set_option maxRecDepth 100000 in
set_option maxHeartbeats 2000000 in
theorem digits_any : ∀ (u : Nat), u < 18446744073709551616 → ∀ w : World, Calls Tryd.prog 40 #[.int .u64 u] w fun e w' => e = .returned (str (Lib.decDigits u)) ∧ Chg [] w w' := by
  intro u
  induction u using Nat.strongRecOn with
  | ind u ih =>
    intro hu w
    by_cases h : u < 10
    · have hc : (u : Int) < 10 := by omega
      have hcv : (convert 30 9 (.slice (some ⟨w.heap.size, 0, none⟩) 1 1)).run Tryd.prog (w.alloc (.cells #[.int .u8 (48 + (u : Int))] 5)) = .ok (str (Lib.decDigits u)) (w.alloc (.cells #[.int .u8 (48 + (u : Int))] 5)) := by
        have hb : Blk (w.alloc (.cells #[.int .u8 (48 + (u : Int))] 5)) w.heap.size 5 #[.int .u8 (48 + (u : Int))] := Blk.new _ _ _
        rw [Lib.decDigits, dif_pos h]
        refine run_str (by rfl) (fun j x hx => ?_)
        match j, hx with
        | 0, hx =>
          cases hx
          rw [dg_nat h, hb.cell]
          simp
      have HC := Lib.hid ((Chg.refl [] w).alloc (.cells #[.int .u8 (48 + (u : Int))] 5))
      clear ih
      go_enter Tryd.func40, Tryd.ntmps40
      go_wp2_with fail
      go_ret
      exact ⟨rfl, HC.out⟩
    · have hc : ¬ (u : Int) < 10 := by omega
      have F1 := ih (u / 10) (by omega) (by omega)
      have F2 := ih (u % 10) (by omega) (by omega)
      rw [show ((u / 10 : Nat) : Int) = (u : Int) / 10 by omega] at F1
      rw [show ((u % 10 : Nat) : Int) = (u : Int) % 10 by omega] at F2
      replace F1 := Lib.hid F1
      replace F2 := Lib.hid F2
      have hadd := run_add (a := Lib.decDigits (u / 10)) (b := Lib.decDigits (u % 10)) (by have := dec_len (u := u / 10) (by omega); have := dec_len (u := u % 10) (by omega); omega)
      rw [dec_app h] at hadd
      clear ih
      go_enter Tryd.func40, Tryd.ntmps40
      go_wp2_with fail
      refine (F1.out w).mono ?_
      rintro e w1 ⟨rfl, hc1⟩
      go_wp2_with fail
      refine (F2.out w1).mono ?_
      rintro e w2 ⟨rfl, hc2⟩
      have HC2 := Lib.hid (hc1.trans hc2)
      clear hc1 hc2 F1 F2
      go_wp2_with fail
      go_ret
      exact ⟨rfl, HC2.out⟩
set_option maxRecDepth 100000 in
set_option maxHeartbeats 2000000 in
theorem Digits_any (n : Int) (hn : I64s n) (w : World) : Calls Tryd.prog 29 #[.int .i64 n] w fun e w' => e = .returned (str (Lib.itoa n)) ∧ Chg [] w w' := by
  obtain ⟨h0, h1⟩ := hn
  by_cases h : n < 0
  · have F := digits_any n.natAbs (by omega) w
    rw [show ((n.natAbs : Nat) : Int) = -(n + 1) + 1 by omega] at F
    replace F := Lib.hid F
    have hadd := run_add (a := [45]) (b := Lib.decDigits n.natAbs) (by have := dec_len (u := n.natAbs) (by omega); simp; omega)
    rw [show ([45] : Bs) ++ Lib.decDigits n.natAbs = Lib.itoa n by unfold Lib.itoa; rw [if_pos h]; rfl, show bsA [45] = ({ data := #[45] } : ByteArray) from rfl] at hadd
    go_enter Tryd.func29, Tryd.ntmps29
    go_wp2_with fail
    refine F.out.mono ?_
    rintro e w1 ⟨rfl, hc1⟩
    have HC := Lib.hid hc1
    clear hc1 F
    go_wp2_with fail
    go_ret
    exact ⟨rfl, HC.out⟩
  · have F := digits_any n.toNat (by omega) w
    rw [show ((n.toNat : Nat) : Int) = n by omega] at F
    replace F := Lib.hid F
    have HE : Hid (Lib.itoa n = Lib.decDigits n.toNat) := Lib.hid (by unfold Lib.itoa; rw [if_neg h])
    go_enter Tryd.func29, Tryd.ntmps29
    go_wp2_with fail
    refine F.out.mono ?_
    rintro e w1 ⟨rfl, hc1⟩
    have HC := Lib.hid hc1
    clear hc1 F
    go_wp2_with fail
    go_ret
    exact ⟨by rw [HE.out]; rfl, HC.out⟩
/-! The document's number of a word. -/
theorem nDigits_le : ∀ (k u : Nat), u < 10 ^ (k + 1) → Lib.nDigits u ≤ k + 1
  | 0, u, h => by rw [Lib.nDigits_small (by simpa using h)]; exact Nat.le_refl _
  | k + 1, u, h => by
    by_cases h1 : u < 10
    · rw [Lib.nDigits_small h1]; omega
    · rw [Lib.nDigits_big h1]
      have := nDigits_le k (u / 10) (by rw [Nat.pow_succ] at h; omega)
      omega
theorem itoa_len {n : Int} (h : I64s n) : (Lib.itoa n).length ≤ 20 := by
  obtain ⟨h0, h1⟩ := h
  unfold Lib.itoa
  split
  · rw [List.length_cons, Lib.decDigits_length]
    have := nDigits_le 18 n.natAbs (by omega)
    omega
  · rw [Lib.decDigits_length]
    have := nDigits_le 18 n.toNat (by omega)
    omega
/-- Where a word's digits begin. -/
def fromN (l : Bs) : Nat := if l.head? = some 45 then 1 else 0
theorem itoa_from {v : Int} : fromN (Lib.itoa v) = (if v < 0 then 1 else 0) ∧ (∀ b ∈ (Lib.itoa v).drop (fromN (Lib.itoa v)), isDg b) := by
  by_cases h : v < 0
  · have e : Lib.itoa v = 45 :: Lib.decDigits v.natAbs := by unfold Lib.itoa; rw [if_pos h]
    rw [e]
    have f : fromN (45 :: Lib.decDigits v.natAbs) = 1 := by simp [fromN]
    rw [f]
    exact ⟨by simp [h], by simpa using decDigits_dg v.natAbs⟩
  · have e : Lib.itoa v = Lib.decDigits v.toNat := by unfold Lib.itoa; rw [if_neg h]
    obtain ⟨c, r, hc, hd⟩ := dec_cons v.toNat
    have f : fromN (Lib.decDigits v.toNat) = 0 := by
      rw [hc]
      unfold fromN
      rw [if_neg]
      rintro ⟨⟩
      exact absurd hd.1 (by decide)
    rw [e, f]
    exact ⟨by simp [h], by simpa using decDigits_dg v.toNat⟩
theorem numP_long {l : Bs} (h : 20 < l.length) : numP l = none := by
  cases hn : numP l with
  | none => rfl
  | some v =>
    obtain ⟨e, hv⟩ := numP_some hn
    have := itoa_len hv
    rw [e] at this
    omega
theorem numP_bad {l : Bs} {k : Nat} {b : UInt8} (hk : fromN l ≤ k) (hb : l[k]? = some b) (hd : ¬ isDg b) : numP l = none := by
  cases hn : numP l with
  | none => rfl
  | some v =>
    obtain ⟨e, hv⟩ := numP_some hn
    have h := (itoa_from (v := v)).2
    rw [e] at h
    refine absurd (h b ?_) hd
    rw [List.mem_iff_getElem?]
    exact ⟨k - fromN l, by rw [List.getElem?_drop, show fromN l + (k - fromN l) = k by omega]; exact hb⟩
theorem numP_end (l : Bs) : numP l = if Lib.itoa (valN (decide (fromN l = 1)) (l.drop (fromN l))) = l then some (valN (decide (fromN l = 1)) (l.drop (fromN l))) else none := by
  split
  · next h =>
    have := numP_itoa (valN_i64 (decide (fromN l = 1)) (l.drop (fromN l)))
    rw [h] at this
    exact this
  · next h =>
    cases hn : numP l with
    | none => rfl
    | some v =>
      obtain ⟨e, hv⟩ := numP_some hn
      refine absurd ?_ h
      have hf := (itoa_from (v := v)).1
      rw [e] at hf
      have h2 := valN_itoa hv
      rw [e] at h2
      have e3 : valN (decide (fromN l = 1)) (l.drop (fromN l)) = v := by
        rw [hf]
        by_cases hv0 : v < 0
        · simp only [hv0, if_true, decide_true] at h2 ⊢
          rw [List.drop_one]
          exact h2
        · simp only [hv0, if_false, decide_false] at h2 ⊢
          simpa using h2
      rw [e3, e]
theorem eqS (a b : Bs) : ((bsA a).toList == (bsA b).toList) = decide (a = b) := by
  rw [ByteArray.toList_eq, ByteArray.toList_eq, bsA_data, bsA_data]
  by_cases h : a = b
  · subst h; simp
  · rw [decide_eq_false h, beq_eq_false_iff_ne]; exact h
/-- A word's number, told. -/
def NumR (l : Bs) (w w' : World) (e : Ending) : Prop := ∃ v ok, e = .returned (.tuple #[.int .i64 v, .bool ok]) ∧ numP l = (if ok then some v else none) ∧ Chg [] w w'
theorem step_neg {x : Int} {b : UInt8} (h : isDg b) : RowKit.wrap64 (RowKit.wrap64 (10 * x) - ((b.toNat : Int) - 48)) = stepN true x b := by
  have h1 := h.1
  have e : ((b.toNat - 48 : Nat) : Int) = (b.toNat : Int) - 48 := by omega
  unfold stepN
  rw [if_pos rfl, e, IntKind.wrap_i64, IntKind.wrap_i64, RowKit.wrap64, RowKit.wrap64]
theorem step_pos {x : Int} {b : UInt8} (h : isDg b) : RowKit.wrap64 (RowKit.wrap64 (10 * x) + ((b.toNat : Int) - 48)) = stepN false x b := by
  have h1 := h.1
  have e : ((b.toNat - 48 : Nat) : Int) = (b.toNat : Int) - 48 := by omega
  unfold stepN
  rw [if_neg (by decide), e, IntKind.wrap_i64, IntKind.wrap_i64, RowKit.wrap64, RowKit.wrap64]
set_option maxRecDepth 100000 in
set_option maxHeartbeats 4000000 in
theorem number_any (l : Bs) (hl : l.length ≤ 1000000) (w : World) : Calls Tryd.prog 28 #[str l] w fun e w' => NumR l w w' e := by
  have hsz := bsA_size l
  have HB : Hid (∀ k, k < l.length → ∃ b, l[k]? = some b ∧ ∀ h, (bsA l)[k]'h = b) := Lib.hid fun k hk => ⟨_, List.getElem?_eq_getElem hk, fun h => bsA_at (List.getElem?_eq_getElem hk) h⟩
  by_cases h20 : 20 < l.length
  · have HN := Lib.hid (numP_long h20)
    have hc : (20 : Int) < (l.length : Int) := by omega
    clear HB hl
    go_enter Tryd.func28, Tryd.ntmps28
    go_wp2_with fail
    go_ret2
    exact ⟨0, false, rfl, by rw [HN.out]; rfl, Chg.refl _ _⟩
  · have hc : ¬ (20 : Int) < (l.length : Int) := by omega
    have HE := Lib.hid (numP_end l)
    have HF := Lib.hid (show fromN l = (if l.head? = some 45 then 1 else 0) from rfl)
    have HP := Lib.hid (fun (k : Nat) (b : UInt8) (hk : fromN l ≤ k) (hb : l[k]? = some b) (hd : ¬ isDg b) => numP_bad hk hb hd)
    have hf1 : fromN l ≤ 1 := by unfold fromN; split <;> omega
    have hfl : fromN l ≤ l.length := by unfold fromN; split <;> (cases l <;> simp_all)
    have H3 : (l.length = 0 ∧ fromN l = 0) ∨ (∃ b : UInt8, l[0]? = some b ∧ ((b.toNat : Int) == 45) = true ∧ fromN l = 1 ∧ 0 < l.length) ∨ (∃ b : UInt8, l[0]? = some b ∧ ((b.toNat : Int) == 45) = false ∧ fromN l = 0 ∧ 0 < l.length) := by
      cases l with
      | nil => exact .inl ⟨rfl, rfl⟩
      | cons b r =>
        by_cases hb : b = 45
        · subst hb; exact .inr (.inl ⟨45, rfl, by decide, by simp [fromN], by simp⟩)
        · refine .inr (.inr ⟨b, rfl, ?_, by simp [fromN, hb], by simp⟩)
          rw [beq_eq_false_iff_ne]
          intro h
          exact hb (UInt8.toNat_inj.1 (by simpa using (by omega : b.toNat = 45)))
    generalize hfr : fromN l = f at *
    generalize hnl : l.length = n at *
    have HNL := Lib.hid hnl
    clear hnl hfr HF
    rcases H3 with ⟨h0, rfl⟩ | ⟨b0, hb0, e0, rfl, h0⟩ | ⟨b0, hb0, e0, rfl, h0⟩
    · have h0' : ¬ (0 : Int) < (n : Int) := by omega
      go_enter Tryd.func28, Tryd.ntmps28
      go_wp2_with fail
      go_loopw [4, 6] (fun nv iv wr => ∃ (k : Nat) (x : Int), 0 ≤ k ∧ k ≤ n ∧ iv = .int .i64 k ∧ nv = .int .i64 x ∧ I64s x ∧ Hid (x = valN false ((l.drop 0).take (k - 0))) ∧ w = wr) (fun _ iv _ => n - (intOf iv).toNat)
      case atStart => exact ⟨0, 0, by omega, by omega, rfl, rfl, by unfold I64s; omega, Lib.hid (by simp [valN]), rfl⟩
      case round =>
        obtain ⟨k, x, hk0, hk, rfl, rfl, hx64, HX, rfl⟩ := hrel
        by_cases hlt : k < n
        · exfalso; omega
        · obtain rfl : k = n := by omega
          have HX2 : Hid (x = valN false (l.drop 0)) := Lib.hid (by rw [HX.out, List.take_of_length_le (by rw [List.length_drop, HNL.out]; omega)])
          have HE2 : Hid (numP l = if Lib.itoa x = l then some x else none) := Lib.hid (by
            have h5 := HE.out
            change numP l = if Lib.itoa (valN false (l.drop 0)) = l then some (valN false (l.drop 0)) else none at h5
            rw [h5, ← HX2.out])
          have FD := Lib.hid (Digits_any x hx64 w)
          clear HB HE HP HX HX2
          go_wp2_with fail
          refine FD.out.mono ?_
          rintro e w1 ⟨rfl, hc1⟩
          have HC := Lib.hid hc1
          clear hc1 FD
          go_wp2_with fail
          go_ret2
          refine ⟨_, _, rfl, ?_, HC.out⟩
          rw [HE2.out, eqS]
          by_cases h : Lib.itoa x = l <;> simp [h]
    · have h0' : (0 : Int) < (n : Int) := by omega
      have hba0 : (bsA l)[0]'(by rw [hsz]; exact h0) = b0 := bsA_at hb0 _
      clear hb0
      go_enter Tryd.func28, Tryd.ntmps28
      go_wp2_with fail
      go_loopw [4, 6] (fun nv iv wr => ∃ (k : Nat) (x : Int), 1 ≤ k ∧ k ≤ n ∧ iv = .int .i64 k ∧ nv = .int .i64 x ∧ I64s x ∧ Hid (x = valN true ((l.drop 1).take (k - 1))) ∧ w = wr) (fun _ iv _ => n - (intOf iv).toNat)
      case atStart => exact ⟨1, 0, by omega, by omega, rfl, rfl, by unfold I64s; omega, Lib.hid (by simp [valN]), rfl⟩
      case round =>
        obtain ⟨k, x, hk0, hk, rfl, rfl, hx64, HX, rfl⟩ := hrel
        by_cases hlt : k < n
        · have hcn : (k : Int) < (n : Int) := by omega
          obtain ⟨b, hb, hba⟩ := HB.out k hlt
          by_cases hd : isDg b
          · have hd1 : ¬ (b.toNat : Int) < 48 := by have := hd.1; omega
            have hd2 : ¬ (57 : Int) < (b.toNat : Int) := by have := hd.2; omega
            have HX' : Hid (stepN true x b = valN true ((l.drop 1).take (k + 1 - 1))) := Lib.hid (by rw [← take_snoc_of hb hk0, valN_snoc, ← HX.out])
            have HI : Hid (I64s (stepN true x b)) := Lib.hid (by rw [HX'.out]; exact valN_i64 _ _)
            have HSN : Hid (∀ y, y = stepN true x b → y = stepN true x b) := Lib.hid fun _ h => h
            have hbb : b.toNat < 256 := b.toNat_lt
            clear HB HE HP hb
            go_wp2_with fail
            go_roundw
            case rel => exact ⟨k + 1, stepN true x b, by omega, by omega, by go_num, congrArg (Value.int .i64) (step_neg hd), HI.out, HX', trivial⟩
            case measure => simp [intOf] <;> omega
          · have HN := Lib.hid (HP.out k b hk0 hb hd)
            by_cases hd1 : (b.toNat : Int) < 48
            · clear HB HE HP hb
              go_wp2_with fail
              go_ret2
              exact ⟨0, false, rfl, HN.out, Chg.refl _ _⟩
            · have hd2 : (57 : Int) < (b.toNat : Int) := by unfold isDg at hd; omega
              clear HB HE HP hb
              go_wp2_with fail
              go_ret2
              exact ⟨0, false, rfl, HN.out, Chg.refl _ _⟩
        · obtain rfl : k = n := by omega
          have HX2 : Hid (x = valN true (l.drop 1)) := Lib.hid (by rw [HX.out, List.take_of_length_le (by rw [List.length_drop, HNL.out]; omega)])
          have HE2 : Hid (numP l = if Lib.itoa x = l then some x else none) := Lib.hid (by
            have h5 := HE.out
            change numP l = if Lib.itoa (valN true (l.drop 1)) = l then some (valN true (l.drop 1)) else none at h5
            rw [h5, ← HX2.out])
          have FD := Lib.hid (Digits_any x hx64 w)
          clear HB HE HP HX HX2
          go_wp2_with fail
          refine FD.out.mono ?_
          rintro e w1 ⟨rfl, hc1⟩
          have HC := Lib.hid hc1
          clear hc1 FD
          go_wp2_with fail
          go_ret2
          refine ⟨_, _, rfl, ?_, HC.out⟩
          rw [HE2.out, eqS]
          by_cases h : Lib.itoa x = l <;> simp [h]
    · have h0' : (0 : Int) < (n : Int) := by omega
      have hba0 : (bsA l)[0]'(by rw [hsz]; exact h0) = b0 := bsA_at hb0 _
      clear hb0
      go_enter Tryd.func28, Tryd.ntmps28
      go_wp2_with fail
      go_loopw [4, 6] (fun nv iv wr => ∃ (k : Nat) (x : Int), 0 ≤ k ∧ k ≤ n ∧ iv = .int .i64 k ∧ nv = .int .i64 x ∧ I64s x ∧ Hid (x = valN false ((l.drop 0).take (k - 0))) ∧ w = wr) (fun _ iv _ => n - (intOf iv).toNat)
      case atStart => exact ⟨0, 0, by omega, by omega, rfl, rfl, by unfold I64s; omega, Lib.hid (by simp [valN]), rfl⟩
      case round =>
        obtain ⟨k, x, hk0, hk, rfl, rfl, hx64, HX, rfl⟩ := hrel
        by_cases hlt : k < n
        · have hcn : (k : Int) < (n : Int) := by omega
          obtain ⟨b, hb, hba⟩ := HB.out k hlt
          by_cases hd : isDg b
          · have hd1 : ¬ (b.toNat : Int) < 48 := by have := hd.1; omega
            have hd2 : ¬ (57 : Int) < (b.toNat : Int) := by have := hd.2; omega
            have HX' : Hid (stepN false x b = valN false ((l.drop 0).take (k + 1 - 0))) := Lib.hid (by rw [← take_snoc_of hb hk0, valN_snoc, ← HX.out])
            have HI : Hid (I64s (stepN false x b)) := Lib.hid (by rw [HX'.out]; exact valN_i64 _ _)
            have HSN : Hid (∀ y, y = stepN false x b → y = stepN false x b) := Lib.hid fun _ h => h
            have hbb : b.toNat < 256 := b.toNat_lt
            clear HB HE HP hb
            go_wp2_with fail
            go_roundw
            case rel => exact ⟨k + 1, stepN false x b, by omega, by omega, by go_num, congrArg (Value.int .i64) (step_pos hd), HI.out, HX', trivial⟩
            case measure => simp [intOf] <;> omega
          · have HN := Lib.hid (HP.out k b hk0 hb hd)
            by_cases hd1 : (b.toNat : Int) < 48
            · clear HB HE HP hb
              go_wp2_with fail
              go_ret2
              exact ⟨0, false, rfl, HN.out, Chg.refl _ _⟩
            · have hd2 : (57 : Int) < (b.toNat : Int) := by unfold isDg at hd; omega
              clear HB HE HP hb
              go_wp2_with fail
              go_ret2
              exact ⟨0, false, rfl, HN.out, Chg.refl _ _⟩
        · obtain rfl : k = n := by omega
          have HX2 : Hid (x = valN false (l.drop 0)) := Lib.hid (by rw [HX.out, List.take_of_length_le (by rw [List.length_drop, HNL.out]; omega)])
          have HE2 : Hid (numP l = if Lib.itoa x = l then some x else none) := Lib.hid (by
            have h5 := HE.out
            change numP l = if Lib.itoa (valN false (l.drop 0)) = l then some (valN false (l.drop 0)) else none at h5
            rw [h5, ← HX2.out])
          have FD := Lib.hid (Digits_any x hx64 w)
          clear HB HE HP HX HX2
          go_wp2_with fail
          refine FD.out.mono ?_
          rintro e w1 ⟨rfl, hc1⟩
          have HC := Lib.hid hc1
          clear hc1 FD
          go_wp2_with fail
          go_ret2
          refine ⟨_, _, rfl, ?_, HC.out⟩
          rw [HE2.out, eqS]
          by_cases h : Lib.itoa x = l <;> simp [h]
end Go.Proofs.YtljgemknccodeaaDoor
