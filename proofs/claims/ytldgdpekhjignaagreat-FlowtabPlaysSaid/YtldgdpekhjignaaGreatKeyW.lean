/-
  WALKS over package keyed: the state of four words. No condition beyond the state's block.
-/
import Derived.Test.YtldgdpekhjignaaGreatKeyP
import Derived.Test.YtldgdpekhjignaaGreatReg
import Derived.Deep.DeepCutAuto
import Derived.Deep.CutBlock
set_option linter.unusedVariables false
set_option linter.unusedSimpArgs false
namespace Go.Proofs.YtldgdpekhjignaaGreat
open Go.RowKit

theorem and63 {k : Nat} (hk : k < 64) : bits .and .u64 (k : Int) 63 = (k : Int) := by
  unfold bits
  show IntKind.u64.wrap ((BitVec.ofInt 64 (k : Int) &&& BitVec.ofInt 64 63).toNat : Int) = (k : Int)
  have h1 : (BitVec.ofInt 64 (k : Int)) = BitVec.ofNat 64 k := by simp
  have h2 : (BitVec.ofInt 64 63) = BitVec.ofNat 64 63 := by decide
  rw [h1, h2, BitVec.toNat_and, BitVec.toNat_ofNat, BitVec.toNat_ofNat, Nat.mod_eq_of_lt (by omega : k < 2 ^ 64), Nat.mod_eq_of_lt (by omega : 63 < 2 ^ 64), show (63 : Nat) = 2 ^ 6 - 1 by rfl, Nat.and_two_pow_sub_one_eq_mod, Nat.mod_eq_of_lt (by omega)]
  exact wrap_nat (by omega)
set_option maxHeartbeats 400000 in
theorem rotl_any (x : Int) (k : Nat) (hk : k < 64) (w : World) : Calls Tryz.prog 112 #[.int .u64 x, .int .i64 k] w fun e w' => e = .returned (.int .u64 (rotS x k)) ∧ w = w' := by
  have hA := and63 hk
  have hw := wrap_nat (x := k) (by omega)
  have hw2 : IntKind.u64.wrap (64 - (k : Int)) = ((64 - k : Nat) : Int) := by rw [← wrap_nat (x := 64 - k) (by omega)]; congr 1; omega
  have h1 : min k 64 = k := by omega
  have h2 : min (64 - k) 64 = 64 - k := by omega
  have hs1 : (k : Int).toNat = k := by simp
  go_enter Tryz.func112, Tryz.ntmps112
  go_wp2_with fail
  go_ret
  exact ⟨rfl, rfl⟩
/-- Four words as a function. -/
def arrQ (v : W4) : Array Value := #[.int .u64 v.a, .int .u64 v.b, .int .u64 v.c, .int .u64 v.d]
def getQ (v : W4) : Nat → Int
  | 0 => v.a
  | 1 => v.b
  | 2 => v.c
  | _ => v.d
def setQ (v : W4) : Nat → Int → W4
  | 0, x => { v with a := x }
  | 1, x => { v with b := x }
  | 2, x => { v with c := x }
  | _, x => { v with d := x }
theorem arrQ_at (v : W4) {i : Nat} (h : i < 4) : (arrQ v)[i]? = some (.int .u64 (getQ v i)) := by
  have : i = 0 ∨ i = 1 ∨ i = 2 ∨ i = 3 := by omega
  rcases this with rfl | rfl | rfl | rfl <;> rfl
theorem arrQ_set (v : W4) {i : Nat} (h : i < 4) (x : Int) : (arrQ v).setIfInBounds i (.int .u64 x) = arrQ (setQ v i x) := by
  have : i = 0 ∨ i = 1 ∨ i = 2 ∨ i = 3 := by omega
  rcases this with rfl | rfl | rfl | rfl <;> rfl
theorem blk_setQ {w : World} {g : Nat} {ty : TypeId} {v : W4} (h : Blk w g ty (arrQ v)) {i : Nat} (hi : i < 4) (x : Int) : Blk (w.setCell ⟨g, i, none⟩ (.int .u64 x)) g ty (arrQ (setQ v i x)) := by
  have := h.set_ i (.int .u64 x)
  rwa [arrQ_set v hi] at this
def halfQ (v : W4) (ti from_ : Nat) (by_ : Nat) : W4 :=
  let u := setQ v ti (addS (getQ v ti) (getQ v from_))
  setQ u from_ (xorS (rotS (getQ u from_) by_) (getQ u ti))

set_option maxRecDepth 100000 in
set_option maxHeartbeats 1000000 in
theorem half_any {w : World} {g : Nat} {v : W4} (h : Blk w g 119 (arrQ v)) (ti from_ by_ : Nat) (ht : ti < 4) (hf : from_ < 4) (hb : by_ < 64) :
    Calls Tryz.prog 91 #[.pointer (some ⟨g, 0, none⟩), .int .i64 ti, .int .i64 from_, .int .i64 by_] w fun e w' => e = .returned (.tuple #[]) ∧ Blk w' g 119 (arrQ (halfQ v ti from_ by_)) ∧ Chg [g] w w' := by
  have c1 : w.cell? ⟨g, ti, none⟩ = some (.int .u64 (getQ v ti)) := by rw [h.cell, arrQ_at v ht]
  have c2 : w.cell? ⟨g, from_, none⟩ = some (.int .u64 (getQ v from_)) := by rw [h.cell, arrQ_at v hf]
  have f1 := h.frozen ti
  go_enter Tryz.func91, Tryz.ntmps91
  have hti : (ti : Int) < 4 := by omega
  have hfi : (from_ : Int) < 4 := by omega
  go_upto_region 0 with fail
  go_region
  have hB1 : Blk (w.setCell ⟨g, ti, none⟩ (.int .u64 (IntKind.u64.wrap (getQ v ti + getQ v from_)))).drew g 119 (arrQ (setQ v ti (addS (getQ v ti) (getQ v from_)))) := (blk_setQ h ht _).drew
  have hC1 : Chg [g] w (w.setCell ⟨g, ti, none⟩ (.int .u64 (IntKind.u64.wrap (getQ v ti + getQ v from_)))).drew := ((Chg.refl [g] w).setCell (p := ⟨g, ti, none⟩) (.inl (by simp)) _).drew
  generalize (w.setCell ⟨g, ti, none⟩ (.int .u64 (IntKind.u64.wrap (getQ v ti + getQ v from_)))).drew = w1 at *
  clear c1 c2 f1
  generalize hu : setQ v ti (addS (getQ v ti) (getQ v from_)) = u at *
  have HQ : Hid (halfQ v ti from_ by_ = setQ u from_ (xorS (rotS (getQ u from_) by_) (getQ u ti))) := Lib.hid (by subst hu; rfl)
  clear hu
  have c1 : w1.cell? ⟨g, ti, none⟩ = some (.int .u64 (getQ u ti)) := by rw [hB1.cell, arrQ_at u ht]
  have c2 : w1.cell? ⟨g, from_, none⟩ = some (.int .u64 (getQ u from_)) := by rw [hB1.cell, arrQ_at u hf]
  have f1 := hB1.frozen from_
  have HR := Lib.hid (fun W => rotl_any (getQ u from_) by_ hb W)
  go_wp2_with fail
  go_region_with (refine (HR.out _).mono ?_; rintro e w' ⟨rfl, rfl⟩)
  all_goals go_wp2_with fail
  all_goals
    go_end0
    rw [HQ.out]
    exact ⟨rfl, (blk_setQ hB1 hf _).drew, hC1.trans ((Chg.refl [g] w1).setCell (p := ⟨g, from_, none⟩) (.inl (by simp)) _).drew⟩

set_option maxRecDepth 100000 in
set_option maxHeartbeats 1000000 in
theorem kturn_any {w : World} {g : Nat} {v : W4} (h : Blk w g 119 (arrQ v)) (i : Nat) (hi : i < 4) :
    Calls Tryz.prog 92 #[.pointer (some ⟨g, 0, none⟩), .int .i64 i] w fun e w' => e = .returned (.tuple #[]) ∧ Blk w' g 119 (arrQ (setQ v i (rotS (getQ v i) 32))) ∧ Chg [g] w w' := by
  have c1 : w.cell? ⟨g, i, none⟩ = some (.int .u64 (getQ v i)) := by rw [h.cell, arrQ_at v hi]
  have f1 := h.frozen i
  have hii : (i : Int) < 4 := by omega
  have HR := Lib.hid (fun W => rotl_any (getQ v i) 32 (by omega) W)
  go_enter Tryz.func92, Tryz.ntmps92
  go_upto_region 0 with fail
  go_region_with (refine (HR.out _).mono ?_; rintro e w' ⟨rfl, rfl⟩)
  all_goals
    go_wp2_with fail
    go_end0
    exact ⟨rfl, (blk_setQ h hi _).drew, ((Chg.refl [g] w).setCell (p := ⟨g, i, none⟩) (.inl (by simp)) _).drew⟩

theorem round_eq (v : W4) : setQ (halfQ (halfQ (halfQ (setQ (halfQ v 0 1 13) 0 (rotS (getQ (halfQ v 0 1 13) 0) 32)) 2 3 16) 0 3 21) 2 1 17) 2 (rotS (getQ (halfQ (halfQ (halfQ (setQ (halfQ v 0 1 13) 0 (rotS (getQ (halfQ v 0 1 13) 0) 32)) 2 3 16) 0 3 21) 2 1 17) 2) 32) = roundW v := rfl

set_option maxRecDepth 100000 in
set_option maxHeartbeats 1000000 in
theorem rounds_any {w : World} {g : Nat} {v : W4} (h : Blk w g 119 (arrQ v)) (n : Nat) (hn : n < 100) :
    Calls Tryz.prog 71 #[.pointer (some ⟨g, 0, none⟩), .int .i64 n] w fun e w' => e = .returned (.tuple #[]) ∧ Blk w' g 119 (arrQ (roundsW n v)) ∧ Chg [g] w w' := by
  have HB := Lib.hid h
  clear h
  go_enter Tryz.func71, Tryz.ntmps71
  go_wp2_with fail
  go_loopw [5] (fun iv wr => ∃ k : Nat, k ≤ n ∧ iv = .int .i64 k ∧ Hid (Blk wr g 119 (arrQ (roundsW k v))) ∧ Hid (Chg [g] w wr)) (fun iv _ => n - (intOf iv).toNat)
  case atStart => exact ⟨0, by omega, rfl, HB, Lib.hid (Chg.refl _ _)⟩
  case round =>
    obtain ⟨k, hk, rfl, HBr, HCr⟩ := hrel
    by_cases hlt : k < n
    · have HE := Lib.hid (round_eq (roundsW k v))
      have HS := Lib.hid (roundsW_succ k v)
      have hcn : (k : Int) < (n : Int) := by omega
      generalize roundsW k v = u at *
      have F1 := Lib.hid (half_any HBr.out 0 1 13 (by omega) (by omega) (by omega))
      go_wp2_with fail
      refine F1.out.mono ?_
      rintro e w1 ⟨rfl, hB1, hC1⟩
      clear F1
      have F2 := Lib.hid (kturn_any hB1 0 (by omega))
      generalize halfQ u 0 1 13 = u1 at *
      clear hB1
      go_wp2_with fail
      refine F2.out.mono ?_
      rintro e w2 ⟨rfl, hB2, hC2⟩
      clear F2
      generalize setQ u1 0 (rotS (getQ u1 0) 32) = u2 at *
      have F3 := Lib.hid (half_any hB2 2 3 16 (by omega) (by omega) (by omega))
      clear hB2
      go_wp2_with fail
      refine F3.out.mono ?_
      rintro e w3 ⟨rfl, hB3, hC3⟩
      clear F3
      generalize halfQ u2 2 3 16 = u3 at *
      have F4 := Lib.hid (half_any hB3 0 3 21 (by omega) (by omega) (by omega))
      clear hB3
      go_wp2_with fail
      refine F4.out.mono ?_
      rintro e w4 ⟨rfl, hB4, hC4⟩
      clear F4
      generalize halfQ u3 0 3 21 = u4 at *
      have F5 := Lib.hid (half_any hB4 2 1 17 (by omega) (by omega) (by omega))
      clear hB4
      go_wp2_with fail
      refine F5.out.mono ?_
      rintro e w5 ⟨rfl, hB5, hC5⟩
      clear F5
      generalize halfQ u4 2 1 17 = u5 at *
      have F6 := Lib.hid (kturn_any hB5 2 (by omega))
      clear hB5
      go_wp2_with fail
      refine F6.out.mono ?_
      rintro e w6 ⟨rfl, hB6, hC6⟩
      clear F6
      have HBn : Hid (Blk w6 g 119 (arrQ (roundsW (k + 1) v))) := Lib.hid (by rw [HS.out, ← HE.out]; exact hB6)
      have HCn := Lib.hid (((((HCr.out.trans hC1).trans hC2).trans hC3).trans hC4).trans hC5 |>.trans hC6)
      clear hB6 hC1 hC2 hC3 hC4 hC5 hC6 HE HS HBr HCr
      go_wp2_with fail
      go_roundw
      case rel => exact ⟨k + 1, by omega, by go_num, HBn, HCn⟩
      case measure => simp [intOf]; omega
    · obtain rfl : k = n := by omega
      go_wp2_with fail
      go_end0
      exact ⟨rfl, HBr.out, HCr.out⟩
end Go.Proofs.YtldgdpekhjignaaGreat
