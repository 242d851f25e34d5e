/-
  WALKS: a segment's address made, and read. Condition: each is sixteen bytes.
-/
import Derived.Test.YtojkbljpjpifoaaVSid
set_option linter.unusedVariables false
set_option linter.unusedSimpArgs false
namespace Go.Proofs.Ytojkbljpjpifoaa
open Go.RowKit Go.Maps

theorem elB : El Try.prog 100 5 (.int .u8 0) 1 1 := ⟨Try.underlying100, by kernel_rfl, rfl, by omega⟩
def Row8 (w : World) (B : Nat) (v : Value) (l : List Int) : Prop := w.ownsRow B 5 1 v l.length (l.map (Value.int .u8))
theorem lit8 {w : World} (l : List Int) (hl : l.length ≤ 600) : Sl (w.alloc (.cells (l.map (Value.int .u8)).toArray 5)) 0 1 (.slice (some ⟨w.heap.size, 0, none⟩) l.length l.length) l.length (l.map (Value.int .u8)) := by
  have := own_lit (base := 0) w 5 1 l.length (l.map (Value.int .u8)).toArray (Nat.zero_le _) (by simp only [maxLen]; omega) (by simp)
  exact Sl.of_own (by simpa using this)
set_option maxHeartbeats 1000000 in
theorem two_any {x y : Int} (w : World) (hx0 : 0 ≤ x) (hx1 : x ≤ 255) (hy0 : 0 ≤ y) (hy1 : y ≤ 255) :
    Calls Try.prog 85 #[.int .i64 (x * 256 + y)] w fun e w' => e = .returned (.agg #[.int .u8 x, .int .u8 y]) ∧ Chg [] w w' := by
  have h1 : (x * 256 + y) / 256 = x := by omega
  have h2 : IntKind.u8.wrap x = x := by rw [IntKind.wrap_u8']; omega
  have h3 : IntKind.u8.wrap (x * 256 + y) = y := by rw [IntKind.wrap_u8']; omega
  have hb : Blk (w.alloc (.cells #[.int .u8 0, .int .u8 0] 133)) w.heap.size 133 #[.int .u8 0, .int .u8 0] := Blk.new _ _ _
  have hA := (Chg.refl [] w).alloc (.cells #[.int .u8 0, .int .u8 0] 133)
  clear hx0 hx1 hy0 hy1
  go_enter Try.func85, Try.ntmps85
  go_wp2_with (first | (refine wpList_store_blk rfl 133 _ _ rfl rfl hb rfl rfl rfl (by kernel_rfl) (by decide) ?_; intro w5 hb5 hc5) | fail)
  exact bodyPost_ret (results_blk rfl rfl (Blk.new _ _ _) _ Try.underlying133 rfl (by kernel_rfl)) rfl ⟨rfl, (Chg.refl _ _).alloc _⟩

set_option maxRecDepth 100000 in
set_option maxHeartbeats 1000000 in
theorem put16_any {w : World} {B : Nat} {v : Value} {l : List Int} {x y : Int} (h : Row8 w B v l) (hl : l.length ≤ 100) (hB : B ≤ w.heap.size) (hx0 : 0 ≤ x) (hx1 : x ≤ 255) (hy0 : 0 ≤ y) (hy1 : y ≤ 255) :
    Calls Try.prog 69 #[v, .int .i64 (x * 256 + y)] w fun e w' => ∃ v', e = .returned v' ∧ Row8 w' B v' (l ++ [x, y]) ∧ Chg v.ownBlock.toList w w' := by
  have F1 := Lib.hid (two_any w hx0 hx1 hy0 hy1)
  have HR := Lib.hid h
  generalize hn : x * 256 + y = n at *
  clear h hx0 hx1 hy0 hy1 hn
  go_enter Try.func69, Try.ntmps69
  go_wp2_with fail
  refine F1.out.mono ?_
  rintro e w1 ⟨rfl, hc1⟩
  clear F1
  have hr2 : Row8 ((w1.alloc (.cells #[.int .u8 x, .int .u8 y] 133)).alloc (.cells #[.int .u8 x, .int .u8 y] 5)) B v l := own_chg HR.out ((hc1.alloc _).alloc _) (by simp)
  have hlit : Sl ((w1.alloc (.cells #[.int .u8 x, .int .u8 y] 133)).alloc (.cells #[.int .u8 x, .int .u8 y] 5)) 0 1 (.slice (some ⟨w1.heap.size + 1, 0, none⟩) 2 2) 2 [.int .u8 x, .int .u8 y] := by simpa using lit8 (w := w1.alloc (.cells #[.int .u8 x, .int .u8 y] 133)) [x, y] (by simp)
  have hws := hc1.size
  generalize hnl : l.length = nl at *
  unfold Row8 at hr2
  rw [hnl] at hr2
  clear HR
  go_wp2_with (first | (at_builtin; refine wpList_app elB rfl (.tmp 8) (.tmp 13) rfl B rfl hr2 rfl hlit (by intro u hu; simp at hu; rcases hu with rfl | rfl <;> rfl) (by unfold maxLen; simp; omega) (by simp; omega) (by simp; omega) ?_; intro v5 w5 hown5 hc5 hb5) | fail)
  go_ret
  refine ⟨_, rfl, ?_, (((hc1.alloc _).alloc _).more (T := v.ownBlock.toList) (by simp)).trans hc5⟩
  unfold Row8
  rw [List.length_append, hnl, List.map_append]
  simpa using hown5

set_option maxRecDepth 100000 in
set_option maxHeartbeats 1000000 in
theorem put32_any {w : World} {B : Nat} {v : Value} {l : List Int} {x y z u : Int} (h : Row8 w B v l) (hl : l.length ≤ 100) (hB : B ≤ w.heap.size) (hx0 : 0 ≤ x) (hx1 : x ≤ 255) (hy0 : 0 ≤ y) (hy1 : y ≤ 255) (hz0 : 0 ≤ z) (hz1 : z ≤ 255) (hu0 : 0 ≤ u) (hu1 : u ≤ 255) :
    Calls Try.prog 70 #[v, .int .u32 (((x * 256 + y) * 256 + z) * 256 + u)] w fun e w' => ∃ v', e = .returned v' ∧ Row8 w' B v' (l ++ [x, y, z, u]) ∧ Chg v.ownBlock.toList w w' := by
  have h1 : (((x * 256 + y) * 256 + z) * 256 + u) / 16777216 = x := by omega
  have h2 : IntKind.u8.wrap ((((x * 256 + y) * 256 + z) * 256 + u) / 65536) = y := by rw [IntKind.wrap_u8']; omega
  have h3 : IntKind.u8.wrap ((((x * 256 + y) * 256 + z) * 256 + u) / 256) = z := by rw [IntKind.wrap_u8']; omega
  have h4 : IntKind.u8.wrap (((x * 256 + y) * 256 + z) * 256 + u) = u := by rw [IntKind.wrap_u8']; omega
  have h5 : IntKind.u8.wrap x = x := by rw [IntKind.wrap_u8']; omega
  clear hx0 hx1 hy0 hy1 hz0 hz1 hu0 hu1
  generalize ((x * 256 + y) * 256 + z) * 256 + u = n at *
  have hr2 : Row8 (w.alloc (.cells #[.int .u8 x, .int .u8 y, .int .u8 z, .int .u8 u] 5)) B v l := own_chg (S := []) h ((Chg.refl _ _).alloc _) (by simp)
  have hlit : Sl (w.alloc (.cells #[.int .u8 x, .int .u8 y, .int .u8 z, .int .u8 u] 5)) 0 1 (.slice (some ⟨w.heap.size, 0, none⟩) 4 4) 4 [.int .u8 x, .int .u8 y, .int .u8 z, .int .u8 u] := lit8 (w := w) [x, y, z, u] (by simp)
  generalize hnl : l.length = nl at *
  unfold Row8 at hr2
  rw [hnl] at hr2
  clear h
  go_enter Try.func70, Try.ntmps70
  go_wp2_with (first | (at_builtin; refine wpList_app elB rfl (.tmp 5) (.tmp 17) rfl B rfl hr2 rfl hlit (by intro u hu; simp at hu; rcases hu with rfl | rfl | rfl | rfl <;> rfl) (by unfold maxLen; simp; omega) (by simp; omega) (by simp; omega) ?_; intro v5 w5 hown5 hc5 hb5) | fail)
  go_ret
  refine ⟨_, rfl, ?_, (((Chg.refl [] w).alloc _).more (T := v.ownBlock.toList) (by simp)).trans hc5⟩
  unfold Row8
  rw [List.length_append, hnl, List.map_append]
  simpa using hown5

theorem block_any (w : World) : Calls Try.prog 68 #[] w fun e w' => e = .returned (.agg #[.int .i64 64876, .int .i64 98, .int .i64 0, .int .i64 0]) ∧ Chg [] w w' := by
  go_enter Try.func68, Try.ntmps68
  go_wp2
  exact bodyPost_ret (results_blk rfl rfl (Blk.new _ _ _) _ Try.underlying118 rfl (by kernel_rfl)) rfl ⟨rfl, (Chg.refl _ _).alloc _⟩
end Go.Proofs.Ytojkbljpjpifoaa
