/-
  WALKS over package pick: the slots of a table from one on, and round. (After the kit's worked iterator over a slice.) Condition: the table reads as integers.
-/
import Derived.RangeFuncBox
import Derived.RangeFuncLeaves
import Derived.RangeFuncFrom
import Derived.Shelf.Abstract
import Derived.Shelf.RegionOpen
import Derived.WalkKit
import Derived.OwnWalkIn
import Derived.TacticsInMore
import Derived.LoopNIn
import Derived.LoopIn
import Derived.Test.YtecblclpchndiaaGreatMem
import Derived.Test.YtecblclpchndiaaGreatPickPlain
import Derived.Test.YtecblclpchndiaaGreatStillIn
set_option linter.unusedVariables false
set_option linter.unusedSimpArgs false
namespace Go.Proofs.YtecblclpchndiaaGreat
open Go.RowKit Go.Shelf

attribute [local go_sem] Oper.semAt_some

set_option maxRecDepth 100000 in
set_option maxHeartbeats 2000000 in
theorem round1_in (n : Nat) (hn : 1 ≤ n) (l Bt Bf n₀ b off len cap st : Nat) (zs : List Int) (hreach : len * 8 ≤ 140737488351232) (hst : st < len) (hb : b < n₀) (J Jx : List Int → World → Prop) (hJd : ∀ pre W, J pre W → J pre W.drew)
    (hY : ∀ pre x W, J pre W → pre.length < len → YieldAt Fence.wide (n - 1) Tryz.prog l #[.int .i64 x] W fun e W' =>
      (e = .returned (.bool true) ∧ J (pre ++ [x]) W' ∧ Below n₀ W W') ∨ (e = .returned (.bool false) ∧ Jx (pre ++ [x]) W'))
    (W : World) (hBt' : Bt < n₀) (hBf' : Bf < n₀) (hBt : W.cell? ⟨Bt, 0, none⟩ = some (.slice (some ⟨b, off, none⟩) len cap)) (hBf : W.cell? ⟨Bf, 0, none⟩ = some (.int .i64 st)) (hc : ∀ j, j < len → W.cell? ⟨b, off + j, none⟩ = some (.int .i64 (zs[j]?.getD 0))) (h0 : J [] W) :
    CallsIn Fence.wide n Tryz.prog 97 #[.func (.yield l) #[] #[], .pointer (some ⟨Bt, 0, none⟩), .pointer (some ⟨Bf, 0, none⟩)] W fun e W' => (∃ v, e = .returned v) ∧
      ((∃ ys, ys = upto (fun j => zs[(st + j) % len]?.getD 0) len ∧ J ys W') ∨ (∃ pre, (∃ k, k ≤ len ∧ pre = upto (fun j => zs[(st + j) % len]?.getD 0) k) ∧ Jx pre W')) := by
  have hmix : Tryz.prog.follows Departure.mixedOrders = true := by kernel_rfl
  refine callsIn_of_wp Tryz.func97 rfl trivial ?_ rfl
  simp only [Tryz.ntmps97, List.size_toArray, List.length_cons, List.length_nil, Nat.reduceAdd, Nat.reduceSub, Array.replicate_succ, Array.replicate_zero, List.push_toArray, List.append_toArray, List.nil_append, List.cons_append]
  gi_wp2
  gi_loopw [7] (fun i wr => ∃ k : Nat, k ≤ len ∧ i = .int .i64 k ∧ J (upto (fun j => zs[(st + j) % len]?.getD 0) k) wr ∧ Below n₀ W wr)
    (fun i _ => len - (intOf i).toNat)
  case atStart => exact ⟨0, Nat.zero_le _, rfl, h0, Below.refl _ _⟩
  case round =>
    obtain ⟨k, hk, rfl, hJs, hnx⟩ := hrel
    have hbt := (hnx.cell (p := ⟨Bt, 0, none⟩) hBt').trans hBt
    have hbf := (hnx.cell (p := ⟨Bf, 0, none⟩) hBf').trans hBf
    by_cases hlt : k < len
    · obtain ⟨fn, tmps, assign, body, hy, hR⟩ := hY _ (zs[(st + k) % len]?.getD 0) wr.drew (hJd _ _ hJs) (by rw [upto_length]; exact hlt)
      have hm : (st + k) % len < len := Nat.mod_lt _ (by omega)
      have hcx := (hnx.cell (p := ⟨b, off + (st + k) % len, none⟩) hb).trans (hc _ hm)
      have hmi : ((st : Int) + (k : Int)) % (len : Int) = (((st + k) % len : Nat) : Int) := by push_cast; rfl
      have hw1 : IntKind.i64.wrap ((st : Int) + (k : Int)) = (st : Int) + (k : Int) := by rw [IntKind.wrap_i64]; omega
      have hdm : ((st : Int) + (k : Int)).tmod (len : Int) = (((st + k) % len : Nat) : Int) := by rw [Int.tmod_eq_emod_of_nonneg (by omega)]; exact hmi
      have hne : ¬ len = 0 := by omega
      have hmI : (((st + k) % len : Nat) : Int) < (len : Int) := by omega
      have hup := upto_succ (fun j => zs[(st + j) % len]?.getD 0) k
      have HR := Lib.hid hR
      have HU := Lib.hid hup
      have HJ := Lib.hid hJs
      clear hR hup hJs hY hc h0 hBt hBf hJd
      generalize zs[(st + k) % len]?.getD 0 = x at *
      generalize (st + k) % len = m at *
      gi_wp2
      refine wpIn_region_still_tail 10 (by kernel_rfl) (by kernel_rfl) ?_
      simp only [List.take_succ_cons, List.take_zero, List.drop_succ_cons, List.drop_zero]
      repeat still_step
      refine wpStill_nil ?_
      gi_wp2
      refine HR.out.mono ?_
      rintro e W3 (⟨rfl, hJ3, hk3⟩ | ⟨rfl, hJx3⟩)
      · gi_wp2
        go_roundw
        case rel => exact ⟨k + 1, by omega, by simp, by rw [HU.out]; exact hJ3, hnx.drew.trans hk3⟩
        case measure => simp [intOf]; omega
      · gi_wp2
        refine bodyPost_ret (results_none rfl _ _ _) rfl ?_
        exact ⟨⟨_, rfl⟩, .inr ⟨_, ⟨k + 1, by omega, HU.out.symm⟩, hJx3⟩⟩
    · obtain rfl : k = len := by omega
      gi_wp2
      go_end0
      exact ⟨⟨_, rfl⟩, .inl ⟨_, rfl, hJs⟩⟩

set_option maxHeartbeats 1000000 in
/-- The maker of the row's iterator. -/
theorem round_any (a : Option Addr) (len cap : Nat) (st : Int) (w : World) :
    Calls Tryz.prog 87 #[.slice a len cap, .int .i64 st] w fun e w' => e = .returned (.func (.func 97) #[] #[.pointer (some ⟨w.heap.size, 0, none⟩), .pointer (some ⟨w.heap.size + 1, 0, none⟩)]) ∧
      w' = (w.alloc (.cells #[.slice a len cap] 38)).alloc (.cells #[.int .i64 st] 3) := by
  go_enter Tryz.func87, Tryz.ntmps87
  go_wp2
  go_ret
  exact ⟨rfl, rfl⟩

theorem round_stops (n : Nat) (hn : 1 ≤ n) (Bt Bf n₀ b off cap st : Nat) (zs : List Int) (hreach : zs.length * 8 ≤ 140737488351232) (hst : st < zs.length) (hb : b < n₀) (w : World) (hBt' : Bt < n₀) (hBf' : Bf < n₀) (hn₀ : n₀ ≤ w.heap.size)
    (hBt : w.cell? ⟨Bt, 0, none⟩ = some (.slice (some ⟨b, off, none⟩) zs.length cap)) (hBf : w.cell? ⟨Bf, 0, none⟩ = some (.int .i64 st)) (hc : ∀ j, j < zs.length → w.cell? ⟨b, off + j, none⟩ = some (.int .i64 (zs[j]?.getD 0))) :
    SeqStopsK Fence.wide n Tryz.prog 97 #[.pointer (some ⟨Bt, 0, none⟩), .pointer (some ⟨Bf, 0, none⟩)] (fun x : Int => #[Value.int .i64 x]) (Below n₀) (fun ys => ys = upto (rot zs st) zs.length) (fun pre => pre <+: upto (rot zs st) zs.length) zs.length w := fun l J Jx W hW hJ _ hY h0 => by
  refine (round1_in n hn l Bt Bf n₀ b off zs.length cap st zs hreach hst hb J Jx (fun pre W h => hJ pre W W.drew none h ⟨rfl, rfl, rfl, Nat.le_refl _, fun _ _ _ => rfl⟩ (by simp)) hY W hBt' hBf'
    ((hW.cell (p := ⟨Bt, 0, none⟩) (Nat.lt_of_lt_of_le hBt' hn₀)).trans hBt) ((hW.cell (p := ⟨Bf, 0, none⟩) (Nat.lt_of_lt_of_le hBf' hn₀)).trans hBf) (fun j hj => (hW.cell (p := ⟨b, off + j, none⟩) (Nat.lt_of_lt_of_le hb hn₀)).trans (hc j hj)) h0).mono ?_
  rintro e W' ⟨he, ⟨ys, rfl, hj⟩ | ⟨pre, ⟨k, hk, rfl⟩, hj⟩⟩
  · exact ⟨he, .inl ⟨_, rfl, hj⟩⟩
  · exact ⟨he, .inr ⟨_, upto_prefix _ hk, hj⟩⟩
end Go.Proofs.YtecblclpchndiaaGreat
