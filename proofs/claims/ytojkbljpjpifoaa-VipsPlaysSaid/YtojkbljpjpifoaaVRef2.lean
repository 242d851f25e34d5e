/-
  WALKS: the document's answers of chapters 1 and 12. Condition: an address is sixteen bytes.
-/
import Derived.Test.YtojkbljpjpifoaaVSplit
set_option linter.unusedVariables false
set_option linter.unusedSimpArgs false
namespace Go.Proofs.Ytojkbljpjpifoaa
open Go.RowKit Go.Maps

set_option maxHeartbeats 1000000 in
theorem ru16 {g k : Nat} {x y : Int} {w : World} (hk : k ≤ 14) (hx : w.cell? ⟨g, k, none⟩ = some (.int .u8 x)) (hy : w.cell? ⟨g, k + 1, none⟩ = some (.int .u8 y)) (hx0 : 0 ≤ x ∧ x ≤ 255) (hy0 : 0 ≤ y ∧ y ≤ 255) :
    Calls Try.prog 65 #[.slice (some ⟨g, 0, none⟩) 16 16, .int .i64 k] w fun e w' => e = .returned (.tuple #[.int .i64 (x * 256 + y), .bool true]) ∧ ∃ q, w' = w.drewN q := by
  obtain ⟨a1, a2⟩ := hx0
  obtain ⟨b1, b2⟩ := hy0
  have h0 : (0 : Int) ≤ (k : Int) := by omega
  have h1 : (k : Int) < 15 := by omega
  have h2 : (k : Int) < 16 := by omega
  have h3 : (k : Int) + 1 < 16 := by omega
  have h4 : (0 : Int) ≤ (k : Int) + 1 := by omega
  have h5 : ((k : Int) + 1).toNat = k + 1 := by omega
  have w1 : IntKind.i64.wrap ((k : Int) + 1) = (k : Int) + 1 := by rw [IntKind.wrap_i64]; omega
  have w2 : IntKind.i64.wrap (x * 256) = x * 256 := by rw [IntKind.wrap_i64]; omega
  have w3 : IntKind.i64.wrap (x * 256 + y) = x * 256 + y := by rw [IntKind.wrap_i64]; omega
  clear hk
  go_enter Try.func65, Try.ntmps65
  go_wp2_with fail
  go_quiet (fail)
  go_wp2_with fail
  go_ret2
  exact ⟨rfl, _, rfl⟩
set_option maxHeartbeats 1000000 in
theorem ru32 {g : Nat} {x y z u : Int} {w : World} (h0 : w.cell? ⟨g, 12, none⟩ = some (.int .u8 x)) (h1 : w.cell? ⟨g, 13, none⟩ = some (.int .u8 y)) (h2 : w.cell? ⟨g, 14, none⟩ = some (.int .u8 z)) (h3 : w.cell? ⟨g, 15, none⟩ = some (.int .u8 u))
    (hx : 0 ≤ x ∧ x ≤ 255) (hy : 0 ≤ y ∧ y ≤ 255) (hz : 0 ≤ z ∧ z ≤ 255) (hu : 0 ≤ u ∧ u ≤ 255) :
    Calls Try.prog 48 #[.slice (some ⟨g, 0, none⟩) 16 16, .int .i64 12] w fun e w' => e = .returned (.tuple #[.int .u32 (val32 [x, y, z, u]), .bool true]) ∧ ∃ q, w' = w.drewN q := by
  have F1 := Lib.hid (ru16 (k := 12) (by omega) h0 h1 hx hy)
  have F2 := Lib.hid (fun q => ru16 (k := 14) (w := w.drewN q) (by omega) (((Chg.refl [] w).drewN q).cell h2 (by simp)) (((Chg.refl [] w).drewN q).cell h3 (by simp)) hz hu)
  have w1 : IntKind.u32.wrap (x * 256 + y) = x * 256 + y := by rw [IntKind.wrap_u32']; omega
  have w2 : IntKind.u32.wrap ((x * 256 + y) * 65536) = (x * 256 + y) * 65536 := by rw [IntKind.wrap_u32']; omega
  have w3 : IntKind.u32.wrap (z * 256 + u) = z * 256 + u := by rw [IntKind.wrap_u32']; omega
  have w4 : IntKind.u32.wrap ((x * 256 + y) * 65536 + (z * 256 + u)) = (x * 256 + y) * 65536 + (z * 256 + u) := by rw [IntKind.wrap_u32']; omega
  have HV : Hid (val32 [x, y, z, u] = (x * 256 + y) * 65536 + (z * 256 + u)) := Lib.hid (by simp [val32]; omega)
  clear hx hy hz hu h0 h1 h2 h3
  go_enter Try.func48, Try.ntmps48
  go_wp2_with fail
  refine F1.out.mono ?_
  rintro e w1 ⟨rfl, q, rfl⟩
  go_wp2_with fail
  refine (F2.out _).mono ?_
  rintro e w1 ⟨rfl, q2, rfl⟩
  go_wp2_with fail
  go_ret2
  rw [HV.out]
  exact ⟨rfl, q + q2, rfl⟩

theorem own_iff (A : Ad) : likeA A = A ↔ A.a0 = 253 ∧ A.a1 = 108 ∧ A.a2 = 0 ∧ A.a3 = 98 ∧ A.a4 = 0 ∧ A.a5 = 0 ∧ A.a6 = 0 ∧ A.a7 = 0 ∧ A.a11 = 0 := by
  cases A
  simp [likeA, mkA]
  constructor
  · rintro ⟨h0, h1, h2, h3, h4, h5, h6, h7, h11⟩; exact ⟨h0.symm, h1.symm, h2.symm, h3.symm, h4.symm, h5.symm, h6.symm, h7.symm, h11.symm⟩
  · rintro ⟨h0, h1, h2, h3, h4, h5, h6, h7, h11⟩; exact ⟨h0.symm, h1.symm, h2.symm, h3.symm, h4.symm, h5.symm, h6.symm, h7.symm, h11.symm⟩
theorem splitV_own {A : Ad} (h : likeA A = A) : splitV A = .tuple #[sidV (A.a8 * 256 + A.a9) A.a10 (argA A), .bool true] := by unfold splitV; rw [if_pos (by simp [ownA, h])]
theorem splitV_not {A : Ad} (h : ¬ likeA A = A) : splitV A = .tuple #[sidV 0 0 0, .bool false] := by unfold splitV; rw [if_neg (by simp [ownA, h])]

set_option maxRecDepth 100000 in
set_option maxHeartbeats 4000000 in
theorem rsplit_any {A : Ad} (hA : okA A) (w : World) : Calls Try.prog 36 #[A.v] w fun e w' => e = .returned (splitV A) ∧ Chg [] w w' := by
  have b := hA.bd
  have HB : Blk ((w.alloc (.cells (arrA A) 55)).alloc (.cells #[.int .i64 0, .int .i64 0, .int .u32 0] 86)) w.heap.size 55 (arrA A) := (Blk.new _ _ _).alloc _
  have HS : Blk ((w.alloc (.cells (arrA A) 55)).alloc (.cells #[.int .i64 0, .int .i64 0, .int .u32 0] 86)) (w.heap.size + 1) 86 #[.int .i64 0, .int .i64 0, .int .u32 0] := Blk.new' (by simp)
  have HC := ((Chg.refl [] w).alloc (.cells (arrA A) 55)).alloc (.cells #[.int .i64 0, .int .i64 0, .int .u32 0] 86)
  by_cases ho : likeA A = A
  · have hv := splitV_own ho
    obtain ⟨e0, e1, e2, e3, e4, e5, e6, e7, e11⟩ := (own_iff A).1 ho
    have FU := Lib.hid (fun (W : World) (h : Blk W w.heap.size 55 (arrA A)) => ru32 (h.cell 12) (h.cell 13) (h.cell 14) (h.cell 15) b.h12 b.h13 b.h14 b.h15)
    have HV := Lib.hid hv
    obtain ⟨b80, b81⟩ := b.h8
    obtain ⟨b90, b91⟩ := b.h9
    obtain ⟨ba0, ba1⟩ := b.h10
    obtain ⟨a0, a1, a2, a3, a4, a5, a6, a7, a8, a9, a10, a11, a12, a13, a14, a15⟩ := A
    simp only at e0 e1 e2 e3 e4 e5 e6 e7 e11 b80 b81 b90 b91 ba0 ba1
    subst e0 e1 e2 e3 e4 e5 e6 e7 e11
    have w2 : IntKind.i64.wrap (a8 * 256) = a8 * 256 := by rw [IntKind.wrap_i64]; omega
    have w3 : IntKind.i64.wrap (a8 * 256 + a9) = a8 * 256 + a9 := by rw [IntKind.wrap_i64]; omega
    clear hv ho b hA w2 w3
    go_enter Try.func36, Try.ntmps36
    go_wp2_with fail
    refine (FU.out _ HB).mono ?_
    rintro e w1 ⟨rfl, q, rfl⟩
    have HB1 := HB.chg ((Chg.refl [] _).drewN q) (by simp)
    have HS1 := HS.chg ((Chg.refl [] _).drewN q) (by simp)
    have HC1 := HC.drewN q
    clear HB HS HC FU
    generalize World.drewN _ q = w1 at *
    obtain ⟨_, _, _, _, _, _, _, _, k8, k9, k10, _⟩ := cellsA HB1
    simp only at k8 k9 k10
    go_wp2_with (first
      | (refine wpList_store_blk rfl 86 _ _ rfl rfl HS1 rfl rfl rfl (by kernel_rfl) rfl ?_; intro w5 hS5 hc5)
      | fail)
    exact bodyPost_ret (results_blk2 rfl rfl hS5 _ Try.underlying86 rfl (by kernel_rfl)) rfl ⟨by rw [HV.out]; rfl, HC1.trans' hc5 (by simp)⟩
  · have hv := Lib.hid (splitV_not ho)
    have hcase : (¬ A.a0 = 253) ∨ (A.a0 = 253 ∧ ¬ A.a1 = 108) ∨ (A.a0 = 253 ∧ A.a1 = 108 ∧ ¬ A.a2 = 0) ∨ (A.a0 = 253 ∧ A.a1 = 108 ∧ A.a2 = 0 ∧ ¬ A.a3 = 98) ∨ (A.a0 = 253 ∧ A.a1 = 108 ∧ A.a2 = 0 ∧ A.a3 = 98 ∧ ¬ A.a4 = 0) ∨ (A.a0 = 253 ∧ A.a1 = 108 ∧ A.a2 = 0 ∧ A.a3 = 98 ∧ A.a4 = 0 ∧ ¬ A.a5 = 0) ∨
        (A.a0 = 253 ∧ A.a1 = 108 ∧ A.a2 = 0 ∧ A.a3 = 98 ∧ A.a4 = 0 ∧ A.a5 = 0 ∧ ¬ A.a6 = 0) ∨ (A.a0 = 253 ∧ A.a1 = 108 ∧ A.a2 = 0 ∧ A.a3 = 98 ∧ A.a4 = 0 ∧ A.a5 = 0 ∧ A.a6 = 0 ∧ ¬ A.a7 = 0) ∨ (A.a0 = 253 ∧ A.a1 = 108 ∧ A.a2 = 0 ∧ A.a3 = 98 ∧ A.a4 = 0 ∧ A.a5 = 0 ∧ A.a6 = 0 ∧ A.a7 = 0 ∧ ¬ A.a11 = 0) := by
      by_cases e0 : A.a0 = 253
      rotate_left
      · exact .inl (e0)
      by_cases e1 : A.a1 = 108
      rotate_left
      · exact .inr (.inl ⟨e0, e1⟩)
      by_cases e2 : A.a2 = 0
      rotate_left
      · exact .inr (.inr (.inl ⟨e0, e1, e2⟩))
      by_cases e3 : A.a3 = 98
      rotate_left
      · exact .inr (.inr (.inr (.inl ⟨e0, e1, e2, e3⟩)))
      by_cases e4 : A.a4 = 0
      rotate_left
      · exact .inr (.inr (.inr (.inr (.inl ⟨e0, e1, e2, e3, e4⟩))))
      by_cases e5 : A.a5 = 0
      rotate_left
      · exact .inr (.inr (.inr (.inr (.inr (.inl ⟨e0, e1, e2, e3, e4, e5⟩)))))
      by_cases e6 : A.a6 = 0
      rotate_left
      · exact .inr (.inr (.inr (.inr (.inr (.inr (.inl ⟨e0, e1, e2, e3, e4, e5, e6⟩))))))
      by_cases e7 : A.a7 = 0
      rotate_left
      · exact .inr (.inr (.inr (.inr (.inr (.inr (.inr (.inl ⟨e0, e1, e2, e3, e4, e5, e6, e7⟩)))))))
      by_cases e8 : A.a11 = 0
      rotate_left
      · exact .inr (.inr (.inr (.inr (.inr (.inr (.inr (.inr ⟨e0, e1, e2, e3, e4, e5, e6, e7, e8⟩)))))))
      exact absurd ((own_iff A).2 ⟨e0, e1, e2, e3, e4, e5, e6, e7, e8⟩) ho
    obtain ⟨a0, a1, a2, a3, a4, a5, a6, a7, a8, a9, a10, a11, a12, a13, a14, a15⟩ := A
    simp only at hcase
    clear ho b hA
    rcases hcase with n | ⟨rfl, n⟩ | ⟨rfl, rfl, n⟩ | ⟨rfl, rfl, rfl, n⟩ | ⟨rfl, rfl, rfl, rfl, n⟩ | ⟨rfl, rfl, rfl, rfl, rfl, n⟩ | ⟨rfl, rfl, rfl, rfl, rfl, rfl, n⟩ | ⟨rfl, rfl, rfl, rfl, rfl, rfl, rfl, n⟩ | ⟨rfl, rfl, rfl, rfl, rfl, rfl, rfl, rfl, n⟩
    all_goals
      have hb1 := bne_iff_ne.2 n
      have hb2 := beq_eq_false_iff_ne.2 n
      clear n HB HS
      go_enter Try.func36, Try.ntmps36
      go_wp2_with fail
      exact bodyPost_ret (results_blk2 rfl rfl (Blk.new' (by simp)) _ Try.underlying86 rfl (by kernel_rfl)) rfl ⟨by rw [hv.out]; rfl, HC⟩
end Go.Proofs.Ytojkbljpjpifoaa
