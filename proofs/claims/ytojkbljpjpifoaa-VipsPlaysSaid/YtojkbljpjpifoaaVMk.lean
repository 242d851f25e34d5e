/-
  WALKS: a segment's address made out of its parts. Condition: the parts are in range.
-/
import Derived.Test.YtojkbljpjpifoaaVMake
import Derived.Test.YtojkbljpjpifoaaRow
import Derived.Deep.RegionHeld3
set_option linter.unusedVariables false
set_option linter.unusedSimpArgs false
namespace Go.Proofs.Ytojkbljpjpifoaa
open Go.RowKit Go.Maps

/-- Bytes of the call's own, that began at w. -/
def RB (w wk : World) (v : Value) (l : List Int) : Prop := Row8 wk w.heap.size v l ∧ Chg [] w wk
theorem RB.nil (w : World) {wk : World} (h : Chg [] w wk) : RB w wk (.slice none 0 0) [] := ⟨World.ownsRow_nil .., h⟩
theorem RB.to {w wk w' : World} {v : Value} {l : List Int} (h : RB w wk v l) (hc : Chg [] wk w') : RB w w' v l := ⟨own_chg h.1 hc (by simp), h.2.trans hc⟩
theorem RB.alloc {w wk : World} {v : Value} {l : List Int} (h : RB w wk v l) (o : Obj) : RB w (wk.alloc o) v l := h.to ((Chg.refl _ _).alloc o)
theorem RB.drew {w wk : World} {v : Value} {l : List Int} (h : RB w wk v l) : RB w wk.drew v l := h.to ((Chg.refl _ _).drew)
theorem RB.next {w wk w' : World} {v v' : Value} {l l' : List Int} (h : RB w wk v l) (hr : Row8 w' w.heap.size v' l') (hc : Chg v.ownBlock.toList wk w') : RB w w' v' l' :=
  ⟨hr, h.2.trans' hc fun x hx => .inr (own_lt h.1 x hx).1⟩

theorem put16_n {w wk : World} {v : Value} {l : List Int} {n : Int} (x y : Int) (hn : n = x * 256 + y) (h : RB w wk v l) (hl : l.length ≤ 100) (hx0 : 0 ≤ x) (hx1 : x ≤ 255) (hy0 : 0 ≤ y) (hy1 : y ≤ 255) :
    Calls Try.prog 69 #[v, .int .i64 n] wk fun e w' => ∃ v', e = .returned v' ∧ RB w w' v' (l ++ [x, y]) ∧ Chg v.ownBlock.toList wk w' := by
  subst hn
  refine (put16_any h.1 hl h.2.size hx0 hx1 hy0 hy1).mono ?_
  rintro e w' ⟨v', rfl, hr, hc⟩
  exact ⟨v', rfl, h.next hr hc, hc⟩
theorem put32_n {w wk : World} {v : Value} {l : List Int} {n : Int} (x y z u : Int) (hn : n = ((x * 256 + y) * 256 + z) * 256 + u) (h : RB w wk v l) (hl : l.length ≤ 100) (hx0 : 0 ≤ x) (hx1 : x ≤ 255) (hy0 : 0 ≤ y) (hy1 : y ≤ 255) (hz0 : 0 ≤ z) (hz1 : z ≤ 255) (hu0 : 0 ≤ u) (hu1 : u ≤ 255) :
    Calls Try.prog 70 #[v, .int .u32 n] wk fun e w' => ∃ v', e = .returned v' ∧ RB w w' v' (l ++ [x, y, z, u]) ∧ Chg v.ownBlock.toList wk w' := by
  subst hn
  refine (put32_any h.1 hl h.2.size hx0 hx1 hy0 hy1 hz0 hz1 hu0 hu1).mono ?_
  rintro e w' ⟨v', rfl, hr, hc⟩
  exact ⟨v', rfl, h.next hr hc, hc⟩

@[reducible] def mkA (p q d x y z u : Int) : Ad := ⟨253, 108, 0, 98, 0, 0, 0, 0, p, q, d, 0, x, y, z, u⟩
@[reducible] def adZ : Ad := ⟨0, 0, 0, 0, 0, 0, 0, 0, 0, 0, 0, 0, 0, 0, 0, 0⟩

theorem one_arrA (A : Ad) : (arrA A).toList.all (·.oneCell') = true := rfl
theorem infA {A : Ad} : (Try.prog.info? 55).map (·.size) = some (arrA A).size := by
  show _ = some 16
  kernel_rfl
set_option maxRecDepth 100000 in
set_option maxHeartbeats 2000000 in
theorem make_any {node d arg p q x y z u : Int} (w : World) (hn : node = p * 256 + q) (ha : arg = ((x * 256 + y) * 256 + z) * 256 + u) (hp0 : 0 ≤ p) (hp1 : p ≤ 255) (hq0 : 0 ≤ q) (hq1 : q ≤ 255) (hd0 : 0 ≤ d) (hd1 : d ≤ 255)
    (hx0 : 0 ≤ x) (hx1 : x ≤ 255) (hy0 : 0 ≤ y) (hy1 : y ≤ 255) (hz0 : 0 ≤ z) (hz1 : z ≤ 255) (hu0 : 0 ≤ u) (hu1 : u ≤ 255) :
    Calls Try.prog 51 #[.agg #[.int .i64 node, .int .i64 d, .int .u32 arg]] w fun e w' => e = .returned (.tuple #[(mkA p q d x y z u).v, .int .i64 0]) ∧ Chg [] w w' := by
  have n0 : 0 ≤ node := by omega
  have n1 : node ≤ 65535 := by omega
  have hwd : IntKind.u8.wrap d = d := by rw [IntKind.wrap_u8']; omega
  have FB := Lib.hid (fun W => block_any W)
  have FN := Lib.hid (fun (W wk : World) (v : Value) (h : RB W wk v ([] ++ [253, 108] ++ [0, 98] ++ [0, 0] ++ [0, 0])) => put16_n p q hn h (by simp) hp0 hp1 hq0 hq1)
  have FA := Lib.hid (fun (W wk : World) (v : Value) (h : RB W wk v (([] ++ [253, 108] ++ [0, 98] ++ [0, 0] ++ [0, 0] ++ [p, q]) ++ [d, 0])) => put32_n x y z u ha h (by simp) hx0 hx1 hy0 hy1 hz0 hz1 hu0 hu1)
  have i0 : ∀ w, (Instr.index 118 (.agg #[.int .i64 64876, .int .i64 98, .int .i64 0, .int .i64 0]) (.int .i64 0)).run Try.prog w = .ok (.int .i64 64876) w := fun _ => by kernel_rfl
  have i1 : ∀ w, (Instr.index 118 (.agg #[.int .i64 64876, .int .i64 98, .int .i64 0, .int .i64 0]) (.int .i64 1)).run Try.prog w = .ok (.int .i64 98) w := fun _ => by kernel_rfl
  have i2 : ∀ w, (Instr.index 118 (.agg #[.int .i64 64876, .int .i64 98, .int .i64 0, .int .i64 0]) (.int .i64 2)).run Try.prog w = .ok (.int .i64 0) w := fun _ => by kernel_rfl
  have i3 : ∀ w, (Instr.index 118 (.agg #[.int .i64 64876, .int .i64 98, .int .i64 0, .int .i64 0]) (.int .i64 3)).run Try.prog w = .ok (.int .i64 0) w := fun _ => by kernel_rfl
  clear hn ha hp0 hp1 hq0 hq1 hx0 hx1 hy0 hy1 hz0 hz1 hu0 hu1
  go_enter Try.func51, Try.ntmps51
  go_wp2_with fail
  refine (FB.out _).mono ?_
  rintro e w1 ⟨rfl, hc1⟩
  go_wp2_with fail
  have hr1 := RB.nil w1 (Chg.refl [] w1)
  have hW1 := Lib.hid (((Chg.refl [] w).alloc (.cells #[.int .i64 node, .int .i64 d, .int .u32 arg] 86)).alloc (.cells (arrA adZ) 55) |>.trans hc1)
  have hS1 : Blk w1 w.heap.size 86 #[.int .i64 node, .int .i64 d, .int .u32 arg] := ((Blk.new w 86 _).alloc (.cells (arrA adZ) 55)).chg hc1 (by simp)
  have hR1 : Blk w1 (w.heap.size + 1) 55 (arrA adZ) := Blk.chg (Blk.new' (by simp)) hc1 (by simp)
  clear hc1 FB
  refine wp_loop_rounds 5 ?_
  rw [rounds_succ]
  go_wp2_with fail
  refine (put16_n 253 108 (by omega) hr1 (by simp) (by omega) (by omega) (by omega) (by omega)).mono ?_
  rintro e w2 ⟨v2, rfl, hr2, hc2⟩
  clear hc2 hr1
  go_wp2_with fail
  rw [rounds_succ]
  go_wp2_with fail
  refine (put16_n 0 98 (by omega) hr2 (by simp) (by omega) (by omega) (by omega) (by omega)).mono ?_
  rintro e w3 ⟨v3, rfl, hr3, hc3⟩
  clear hc3 hr2
  go_wp2_with fail
  rw [rounds_succ]
  go_wp2_with fail
  refine (put16_n 0 0 (by omega) hr3 (by simp) (by omega) (by omega) (by omega) (by omega)).mono ?_
  rintro e w4 ⟨v4, rfl, hr4, hc4⟩
  clear hc4 hr3
  go_wp2_with fail
  rw [rounds_succ]
  go_wp2_with fail
  refine (put16_n 0 0 (by omega) hr4 (by simp) (by omega) (by omega) (by omega) (by omega)).mono ?_
  rintro e w5 ⟨v5, rfl, hr5, hc5⟩
  clear hc5 hr4
  go_wp2_with fail
  rw [rounds_succ]
  go_wp2_with fail
  clear i0 i1 i2 i3
  have hS5 := hS1.chg hr5.2 (by simp)
  have k0 := hS5.cell 0
  have k1 := hS5.cell 1
  simp only [List.getElem?_toArray, List.getElem?_cons_succ, List.getElem?_cons_zero] at k0 k1
  have HLit := Lib.hid (fun W => lit8 (w := W) [d, 0] (by simp))
  have hA5 := hr5.drew
  have hB5 := (hr5.alloc (.cells #[.int .u8 d, .int .u8 0] 5)).drew
  have hlb : Hid (∀ W, Chg v5.ownBlock.toList (w5.alloc (.cells #[.int .u8 d, .int .u8 0] 5)).drew W → Sl W 0 1 (.slice (some ⟨w5.heap.size, 0, none⟩) 2 2) 2 [.int .u8 d, .int .u8 0]) := Lib.hid fun W hc => by
    have hb : Blk W w5.heap.size 5 #[.int .u8 d, .int .u8 0] := Blk.chg (Blk.new w5 _ _).drew hc (fun hm => by have := own_lt hA5.1 _ hm; simp at this)
    exact ⟨by simp, _, 2, rfl, Nat.le_refl _, fun _ => ⟨w5.heap.size, 0, rfl, Nat.zero_le _, fun j u hu => by rw [Nat.zero_add, hb.cell]; simpa using hu⟩⟩
  have hS6 : Hid (∀ W, Chg [] w1 W → W.cell? ⟨w.heap.size, 0, none⟩ = some (.int .i64 node) ∧ W.cell? ⟨w.heap.size, 1, none⟩ = some (.int .i64 d)) := Lib.hid fun W hc => ⟨(hS1.chg hc (by simp)).cell 0, (hS1.chg hc (by simp)).cell 1⟩
  have c5 := hA5.2
  have c5' := hr5.2
  clear hS5 hr5
  go_region_held3 (fun w' => w'.cell? ⟨w.heap.size, 0, none⟩ = some (.int .i64 node) ∧ w'.cell? ⟨w.heap.size, 1, none⟩ = some (.int .i64 d)) ((exact hS6.out _ (by repeat (first | with_reducible assumption | with_reducible refine Chg.alloc ?_ _ | with_reducible refine Chg.drew ?_)))) (first
    | (go_at_call 69; (with_reducible refine (FN.out _ _ _ hA5).mono ?_); rintro e w6 ⟨v6, rfl, hr6, hc6⟩; have c6 := hr6.2)
    | (go_at_call 69; (with_reducible refine (FN.out _ _ _ hB5).mono ?_); rintro e w6 ⟨v6, rfl, hr6, hc6⟩; have c6 := hr6.2; have hl6 := hlb.out _ hc6)
    | (refine step_app elB rfl (.tmp 38) (.tmp 42) rfl w1.heap.size rfl hr6.1 rfl hl6 (by intro u hu; simp at hu; rcases hu with rfl | rfl <;> rfl) (by unfold maxLen; simp) (by simp) hr6.2.size ?_; intro v7 w7 hown7 hc7 hb7; have hr7 := (hr6.next (l' := [] ++ [253, 108] ++ [0, 98] ++ [0, 0] ++ [0, 0] ++ [p, q] ++ [d, 0]) (by unfold Row8; rw [List.map_append]; exact hown7) hc7); have c7 := hr7.2)
    | (refine step_app elB rfl (.tmp 38) (.tmp 42) rfl w1.heap.size rfl (hr6.alloc _).1 rfl (HLit.out _) (by intro u hu; simp at hu; rcases hu with rfl | rfl <;> rfl) (by unfold maxLen; simp) (by simp) (hr6.alloc _).2.size ?_; intro v7 w7 hown7 hc7 hb7; have hr7 := ((hr6.alloc _).next (l' := [] ++ [253, 108] ++ [0, 98] ++ [0, 0] ++ [0, 0] ++ [p, q] ++ [d, 0]) (by unfold Row8; rw [List.map_append]; exact hown7) hc7); have c7 := hr7.2))
  all_goals
    clear hA5 hB5 hlb hS6 c5 c5' k0 k1 HLit c6 c7 FN
    have k2 := (hS1.chg hr7.2 (by simp)).cell 2
    simp only [List.getElem?_toArray, List.getElem?_cons_succ, List.getElem?_cons_zero] at k2
    go_wp2_with fail
    refine (FA.out _ _ _ hr7).mono ?_
    rintro e w8 ⟨v8, rfl, hr8, hc8⟩
    clear FA hc8 hr7
    have hn8 : Blk (w8.alloc (.cells (arrA adZ) 55)) w8.heap.size 55 (arrA adZ) := Blk.new _ _ _
    have hs8 : Sl (w8.alloc (.cells (arrA adZ) 55)) w1.heap.size 1 v8 16 (encA (mkA p q d x y z u)) := Sl.of_own (hr8.alloc _).1
    have hR8 := hR1.chg (hr8.alloc (.cells (arrA adZ) 55)).2 (by simp)
    have HC8 := Lib.hid (hW1.out.trans (hr8.alloc (.cells (arrA adZ) 55)).2)
    obtain ⟨A8, c8, rfl⟩ := Sl.form hs8
    have hrl : w.heap.size + 1 < w8.heap.size := by have := hR8.lt; have h2 := hr8.2.size; have h3 := hR1.lt; omega
    have HE : Hid (encA (mkA p q d x y z u) = (arrA (mkA p q d x y z u)).toList) := Lib.hid rfl
    have hone : ∀ u' ∈ encA (mkA p q d x y z u), u'.oneCell' = true := by intro u' hu'; simp [encA, Ad.l] at hu'; rcases hu' with rfl | rfl | rfl | rfl | rfl | rfl | rfl | rfl | rfl | rfl | rfl | rfl | rfl <;> rfl
    have HO := Lib.hid hone
    clear hone hr8
    go_wp2_with (first
      | (refine wpList_copy_blk rfl (.tmp 48) (.tmp 49) 100 100 rfl 5 Try.underlying100 (by kernel_rfl) hn8 rfl rfl hs8 (by omega) HO.out (by simp) ?_; intro w9 hb9 hc9; rw [splice_all (by rw [encA_len]; rfl)] at hb9; have hb9' : Blk w9 w8.heap.size 55 (arrA (mkA p q d x y z u)) := hb9; have hR9 := hR8.chg hc9 (by simp; omega))
      | (refine wpList_load_blk rfl 55 (.tmp 7) rfl hb9' rfl _ Try.underlying55 rfl infA ?_)
      | (refine wpList_store_blk rfl 55 (.tmp 2) (.tmp 51) rfl rfl hR9 rfl rfl rfl infA (one_arrA _) ?_; intro w10 hR10 hc10)
      | fail)
    exact bodyPost_ret (results_blk2 rfl rfl hR10 _ Try.underlying55 rfl infA) rfl ⟨rfl, HC8.out.trans' ((hc9.more (T := [w8.heap.size, w.heap.size + 1]) (by simp)).trans (hc10.more (by simp))) (by intro x hx; simp at hx; rcases hx with rfl | rfl <;> (right; omega))⟩
end Go.Proofs.Ytojkbljpjpifoaa
