/-
  WALKS: which addresses are segments of our own: package sid's answer and the document's. Condition: each is sixteen bytes.
-/
import Derived.Test.YtojkbljpjpifoaaVMk
set_option linter.unusedVariables false
set_option linter.unusedSimpArgs false
namespace Go.Proofs.Ytojkbljpjpifoaa
open Go.RowKit Go.Maps

/-- The segment's address that has an address's parts. -/
@[reducible] def likeA (A : Ad) : Ad := mkA A.a8 A.a9 A.a10 A.a12 A.a13 A.a14 A.a15
def ownA (A : Ad) : Bool := decide (likeA A = A)
def argA (A : Ad) : Int := val32 [A.a12, A.a13, A.a14, A.a15]
@[reducible] def sidV (n d r : Int) : Value := .agg #[.int .i64 n, .int .i64 d, .int .u32 r]
/-- What Split hands back. -/
def splitV (A : Ad) : Value := if ownA A = true then .tuple #[sidV (A.a8 * 256 + A.a9) A.a10 (argA A), .bool true] else .tuple #[sidV 0 0 0, .bool false]
structure BdA (A : Ad) : Prop where
  h0 : 0 ≤ A.a0 ∧ A.a0 ≤ 255
  h1 : 0 ≤ A.a1 ∧ A.a1 ≤ 255
  h2 : 0 ≤ A.a2 ∧ A.a2 ≤ 255
  h3 : 0 ≤ A.a3 ∧ A.a3 ≤ 255
  h4 : 0 ≤ A.a4 ∧ A.a4 ≤ 255
  h5 : 0 ≤ A.a5 ∧ A.a5 ≤ 255
  h6 : 0 ≤ A.a6 ∧ A.a6 ≤ 255
  h7 : 0 ≤ A.a7 ∧ A.a7 ≤ 255
  h8 : 0 ≤ A.a8 ∧ A.a8 ≤ 255
  h9 : 0 ≤ A.a9 ∧ A.a9 ≤ 255
  h10 : 0 ≤ A.a10 ∧ A.a10 ≤ 255
  h11 : 0 ≤ A.a11 ∧ A.a11 ≤ 255
  h12 : 0 ≤ A.a12 ∧ A.a12 ≤ 255
  h13 : 0 ≤ A.a13 ∧ A.a13 ≤ 255
  h14 : 0 ≤ A.a14 ∧ A.a14 ≤ 255
  h15 : 0 ≤ A.a15 ∧ A.a15 ≤ 255
theorem okA.bd {A : Ad} (h : okA A) : BdA A :=
  ⟨h.at 0 (by omega), h.at 1 (by omega), h.at 2 (by omega), h.at 3 (by omega), h.at 4 (by omega), h.at 5 (by omega), h.at 6 (by omega), h.at 7 (by omega), h.at 8 (by omega), h.at 9 (by omega), h.at 10 (by omega), h.at 11 (by omega), h.at 12 (by omega), h.at 13 (by omega), h.at 14 (by omega), h.at 15 (by omega)⟩
theorem u8wf {x : Int} (h : 0 ≤ x ∧ x ≤ 255) : (Lit.int .u8 x).wf = true := by simp [Lit.wf, IntKind.min, IntKind.max, IntKind.signed, IntKind.bits]; omega
theorem BdA.ok {A : Ad} (h : BdA A) : okA A := by
  intro x hx
  simp [Ad.l] at hx
  rcases hx with rfl | rfl | rfl | rfl | rfl | rfl | rfl | rfl | rfl | rfl | rfl | rfl | rfl | rfl | rfl | rfl
  all_goals first | exact u8wf h.h0 | exact u8wf h.h1 | exact u8wf h.h2 | exact u8wf h.h3 | exact u8wf h.h4 | exact u8wf h.h5 | exact u8wf h.h6 | exact u8wf h.h7 | exact u8wf h.h8 | exact u8wf h.h9 | exact u8wf h.h10 | exact u8wf h.h11 | exact u8wf h.h12 | exact u8wf h.h13 | exact u8wf h.h14 | exact u8wf h.h15
theorem likeA_ok {A : Ad} (h : okA A) : okA (likeA A) := by
  have b := h.bd
  exact BdA.ok ⟨by simp, by simp, by simp, by simp, by simp, by simp, by simp, by simp, b.h8, b.h9, b.h10, by simp, b.h12, b.h13, b.h14, b.h15⟩

set_option maxRecDepth 100000 in
set_option maxHeartbeats 2000000 in
theorem split_any {A : Ad} (hA : okA A) (w : World) : Calls Try.prog 39 #[A.v] w fun e w' => e = .returned (splitV A) ∧ Chg [] w w' := by
  have b := hA.bd
  have HB : Blk ((w.alloc (.cells (arrA A) 55)).alloc (.cells #[.int .i64 0, .int .i64 0, .int .u32 0] 86)) w.heap.size 55 (arrA A) := (Blk.new _ _ _).alloc _
  have HS : Blk ((w.alloc (.cells (arrA A) 55)).alloc (.cells #[.int .i64 0, .int .i64 0, .int .u32 0] 86)) (w.heap.size + 1) 86 #[.int .i64 0, .int .i64 0, .int .u32 0] := Blk.new' (by simp)
  have HC := ((Chg.refl [] w).alloc (.cells (arrA A) 55)).alloc (.cells #[.int .i64 0, .int .i64 0, .int .u32 0] 86)
  have hl : ∀ x ∈ [A.a12, A.a13, A.a14, A.a15], 0 ≤ x ∧ x ≤ 255 := by intro x hx; simp at hx; rcases hx with rfl | rfl | rfl | rfl <;> first | exact b.h12 | exact b.h13 | exact b.h14 | exact b.h15
  have FU := Lib.hid (fun (W : World) (h : Blk W w.heap.size 55 (arrA A)) => u16_at (h.cell 8) (h.cell 9) b.h8.1 b.h8.2 b.h9.1 b.h9.2)
  have FV := Lib.hid (fun (W : World) (h : Blk W w.heap.size 55 (arrA A)) => u32_at (l := [A.a12, A.a13, A.a14, A.a15]) rfl (fun i hi => by
    have : i = 0 ∨ i = 1 ∨ i = 2 ∨ i = 3 := by omega
    rcases this with rfl | rfl | rfl | rfl
    · exact h.cell 12
    · exact h.cell 13
    · exact h.cell 14
    · exact h.cell 15) hl)
  have FM := Lib.hid (fun W => make_any (node := A.a8 * 256 + A.a9) (arg := argA A) W rfl (by simp [argA, val32]) b.h8.1 b.h8.2 b.h9.1 b.h9.2 b.h10.1 b.h10.2 b.h12.1 b.h12.2 b.h13.1 b.h13.2 b.h14.1 b.h14.2 b.h15.1 b.h15.2)
  have HE := Lib.hid (fun W => eq_ad W (likeA_ok hA) hA)
  have HV : Hid (splitV A = if ownA A = true then .tuple #[sidV (A.a8 * 256 + A.a9) A.a10 (argA A), .bool true] else .tuple #[sidV 0 0 0, .bool false]) := Lib.hid rfl
  have HAr : Hid (val32 [A.a12, A.a13, A.a14, A.a15] = argA A) := Lib.hid rfl
  have hd0 := b.h10.1
  have hd1 := b.h10.2
  clear b hl hA
  go_enter Try.func39, Try.ntmps39
  go_wp2_with fail
  refine (FU.out _ HB).mono ?_
  rintro e w1 ⟨rfl, q, rfl⟩
  have HB1 := HB.chg ((Chg.refl [] _).drewN q) (by simp)
  have HS1 := HS.chg ((Chg.refl [] _).drewN q) (by simp)
  have HC1 := HC.drewN q
  clear HB HS HC FU
  generalize World.drewN ((w.alloc (.cells (arrA A) 55)).alloc (.cells #[.int .i64 0, .int .i64 0, .int .u32 0] 86)) q = w1 at *
  go_wp2_with fail
  refine (FV.out _ HB1).mono ?_
  rintro e w2 ⟨rfl, rfl⟩
  rw [HAr.out]
  have hb := cellsA HB1
  clear FV
  obtain ⟨_, _, _, _, _, _, _, _, _, _, k10, _⟩ := hb
  go_wp2_with fail
  refine (FM.out _).mono ?_
  rintro e w3 ⟨rfl, hc3⟩
  have hn : Blk (w1.alloc (.cells #[.int .i64 (A.a8 * 256 + A.a9), .int .i64 A.a10, .int .u32 (argA A)] 86)) w1.heap.size 86 #[.int .i64 (A.a8 * 256 + A.a9), .int .i64 A.a10, .int .u32 (argA A)] := Blk.new _ _ _
  have HN3 := hn.chg hc3 (by simp)
  have HC3 := ((Chg.refl [] w1).alloc (.cells #[.int .i64 (A.a8 * 256 + A.a9), .int .i64 A.a10, .int .u32 (argA A)] 86)).trans hc3
  have HB3 := HB1.chg HC3 (by simp)
  have HS3 := HS1.chg HC3 (by simp)
  have HC3 := HC1.trans HC3
  have hz3 := HS3.lt
  clear hc3 hn HB1 HS1 HC1 FM k10
  have HB4 := HB3.alloc (.cells (arrA (likeA A)) 55)
  have HS4 := HS3.alloc (.cells (arrA (likeA A)) 55)
  have HN4 := HN3.alloc (.cells (arrA (likeA A)) 55)
  have HL4 : Blk (w3.alloc (.cells (arrA (likeA A)) 55)) w3.heap.size 55 (arrA (likeA A)) := Blk.new _ _ _
  have HC4 := HC3.alloc (.cells (arrA (likeA A)) 55)
  obtain ⟨c0, c1, c2, c3, c4, c5, c6, c7, c8, c9, c10, c11, c12, c13, c14, c15⟩ := cellsA HB3
  have hz4 : w.heap.size < w3.heap.size := by omega
  clear HB3 HS3 HC3 HN3
  by_cases ho : likeA A = A
  · have he := HE.out (w3.alloc (.cells (arrA (likeA A)) 55))
    rw [decide_eq_true ho] at he
    have HV2 : Hid (splitV A = .tuple #[sidV (A.a8 * 256 + A.a9) A.a10 (argA A), .bool true]) := Lib.hid (by rw [HV.out, if_pos (by simp [ownA, ho])])
    clear HV HE ho
    go_wp2_with (first
      | (refine wpList_load_blk rfl 55 _ rfl HL4 rfl _ Try.underlying55 rfl infA ?_)
      | (refine wpList_load_blk rfl 55 _ rfl HB4 rfl _ Try.underlying55 rfl infA ?_)
      | (refine wpList_load_blk rfl 86 _ rfl HN4 rfl _ Try.underlying86 rfl (by kernel_rfl) ?_)
      | (refine wpList_store_blk rfl 86 _ _ rfl rfl HS4 rfl rfl rfl (by kernel_rfl) rfl ?_; intro w5 hS5 hc5)
      | fail)
    exact bodyPost_ret (results_blk2 rfl rfl hS5 _ Try.underlying86 rfl (by kernel_rfl)) rfl ⟨by rw [HV2.out]; rfl, HC4.trans' hc5 (by simp)⟩
  · have he := HE.out (w3.alloc (.cells (arrA (likeA A)) 55))
    rw [decide_eq_false ho] at he
    have HV2 : Hid (splitV A = .tuple #[sidV 0 0 0, .bool false]) := Lib.hid (by rw [HV.out, if_neg (by simp [ownA, ho])])
    clear HV HE ho
    go_wp2_with (first
      | (refine wpList_load_blk rfl 55 _ rfl HL4 rfl _ Try.underlying55 rfl infA ?_)
      | (refine wpList_load_blk rfl 55 _ rfl HB4 rfl _ Try.underlying55 rfl infA ?_)
      | (refine wpList_store_blk rfl 86 _ _ rfl rfl HS4 rfl rfl rfl (by kernel_rfl) rfl ?_; intro w5 hS5 hc5)
      | fail)
    exact bodyPost_ret (results_blk2 rfl rfl hS5 _ Try.underlying86 rfl (by kernel_rfl)) rfl ⟨by rw [HV2.out]; rfl, HC4.trans' hc5 (by simp)⟩
end Go.Proofs.Ytojkbljpjpifoaa
