/-
  WALKS over package keyed: Sum, Pair, Mod; octets.Put32. Conditions: bytes that read as such, fewer than 2^40 of them.
-/
import Derived.Test.YtecblclpchndiaaGreatKeyW
import Derived.Test.YtecblclpchndiaaGreatCut
set_option linter.unusedVariables false
set_option linter.unusedSimpArgs false
namespace Go.Proofs.YtecblclpchndiaaGreat
open Go.RowKit

theorem elY : El Tryz.prog 126 5 (.int .u8 0) 1 1 := ⟨Tryz.underlying126, by kernel_rfl, rfl, by omega⟩
def byV (b : Nat) : Value := .int .u8 (b : Int)
/-- The slice v reads as the bytes l. -/
def SlY (w : World) (B : Nat) (v : Value) (l : List Nat) : Prop := Sl w B 1 v l.length (l.map byV)
theorem SlY.chg0 {w w' : World} {B : Nat} {v : Value} {l : List Nat} (h : SlY w B v l) (hc : Chg [] w w') : SlY w' B v l := Sl.chg0 h hc
theorem byV_one (l : List Nat) : ∀ u ∈ l.map byV, u.oneCell' = true := by
  intro u hu
  obtain ⟨x, _, rfl⟩ := List.mem_map.1 hu
  rfl

set_option maxRecDepth 100000 in
set_option maxHeartbeats 1000000 in
theorem take_any {w : World} {g : Nat} {v : W4} (h : Blk w g 171 (arrQ v)) (x : Int) :
    Calls Tryz.prog 129 #[.pointer (some ⟨g, 0, none⟩), .int .u64 x] w fun e w' => e = .returned (.tuple #[]) ∧ Blk w' g 171 (arrQ (takeW v x)) ∧ Chg [g] w w' := by
  have c1 : w.cell? ⟨g, 3, none⟩ = some (.int .u64 v.d) := h.cell 3
  have f1 := h.frozen 3
  have hB1 : Blk (w.setCell ⟨g, 3, none⟩ (.int .u64 (xorS v.d x))).drew g 171 (arrQ ⟨v.a, v.b, v.c, xorS v.d x⟩) := (blk_setQ h (by omega) _).drew
  have hC1 : Chg [g] w (w.setCell ⟨g, 3, none⟩ (.int .u64 (xorS v.d x))).drew := ((Chg.refl [g] w).setCell (p := ⟨g, 3, none⟩) (.inl (by simp)) _).drew
  have HI := Lib.hid (And.intro hB1 hC1)
  clear hB1 hC1 h
  go_enter Tryz.func129, Tryz.ntmps129
  go_upto_region 0 with fail
  go_region
  obtain ⟨hB1, hC1⟩ := HI.out
  change Exit.then _ _ _ _ (w.setCell ⟨g, 3, none⟩ (.int .u64 (xorS v.d x))).drew
  generalize (w.setCell ⟨g, 3, none⟩ (.int .u64 (xorS v.d x))).drew = w1 at *
  clear HI c1 f1
  have F1 := Lib.hid (rounds_any hB1 2 (by omega))
  generalize hu : roundsW 2 ⟨v.a, v.b, v.c, xorS v.d x⟩ = u at *
  have HQ : Hid (takeW v x = ⟨xorS u.a x, u.b, u.c, u.d⟩) := Lib.hid (by subst hu; rfl)
  clear hu hB1
  go_wp2_with fail
  refine F1.out.mono ?_
  rintro e w2 ⟨rfl, hB2, hC2⟩
  clear F1
  have c2 : w2.cell? ⟨g, 0, none⟩ = some (.int .u64 u.a) := hB2.cell 0
  have f2 := hB2.frozen 0
  have HI := Lib.hid (And.intro hB2 (hC1.trans hC2))
  clear hB2 hC1 hC2
  go_upto_region 2 with fail
  go_region
  go_wp2_with fail
  go_end0
  rw [HQ.out]
  exact ⟨rfl, (blk_setQ HI.out.1 (by omega) _).drew, HI.out.2.trans ((Chg.refl [g] w2).setCell (p := ⟨g, 0, none⟩) (.inl (by simp)) _).drew⟩

set_option maxRecDepth 100000 in
set_option maxHeartbeats 1000000 in
theorem kbegin_any (ka kb : Int) (w : World) :
    Calls Tryz.prog 128 #[.agg #[.int .u64 ka, .int .u64 kb]] w fun e w' => e = .returned (.agg (arrQ (beginW ka kb))) ∧ Chg [] w w' := by
  have hA := ((Chg.refl [] w).alloc (.cells #[.int .u64 ka, .int .u64 kb] 24)).alloc (.cells #[.int .u64 0, .int .u64 0, .int .u64 0, .int .u64 0] 171)
  have hB1 : Blk ((w.alloc (.cells #[.int .u64 ka, .int .u64 kb] 24)).alloc (.cells #[.int .u64 0, .int .u64 0, .int .u64 0, .int .u64 0] 171)) w.heap.size 24 #[.int .u64 ka, .int .u64 kb] := (Blk.new _ _ _).alloc _
  have hB2 : Blk ((w.alloc (.cells #[.int .u64 ka, .int .u64 kb] 24)).alloc (.cells #[.int .u64 0, .int .u64 0, .int .u64 0, .int .u64 0] 171)) (w.heap.size + 1) 171 #[.int .u64 0, .int .u64 0, .int .u64 0, .int .u64 0] := Blk.new' (by simp)
  have HI := Lib.hid (And.intro hA (And.intro hB1 hB2))
  clear hA hB1 hB2
  go_enter Tryz.func128, Tryz.ntmps128
  go_upto_region 1 with fail
  obtain ⟨hA, hB1, hB2⟩ := HI.out
  generalize (w.alloc (.cells #[.int .u64 ka, .int .u64 kb] 24)).alloc (.cells #[.int .u64 0, .int .u64 0, .int .u64 0, .int .u64 0] 171) = w1 at *
  have c0 : w1.cell? ⟨w.heap.size, 0, none⟩ = some (.int .u64 ka) := hB1.cell 0
  have c1 : w1.cell? ⟨w.heap.size, 1, none⟩ = some (.int .u64 kb) := hB1.cell 1
  clear hB1 HI
  go_wp2_with (first
    | (refine wpList_store_blk rfl 171 _ _ rfl rfl hB2 rfl (vs := arrQ (beginW ka kb)) rfl rfl (by kernel_rfl) rfl ?_; intro w2 hB3 hc3)
    | fail)
  exact bodyPost_ret (results_blk rfl rfl hB3 _ Tryz.underlying171 rfl (by kernel_rfl)) rfl ⟨rfl, hA.trans' hc3 (by intro y hy; simp at hy; subst hy; exact .inr (by omega))⟩

set_option maxRecDepth 100000 in
set_option maxHeartbeats 1000000 in
theorem word_any {w : World} {B : Nat} {v : Value} {l : List Nat} (h : SlY w B v l) (hl : l.length ≤ 8) (hb : ∀ x ∈ l, x < 256) :
    Calls Tryz.prog 130 #[v] w fun e w' => e = .returned (.int .u64 (wordS l : Nat)) ∧ w = w' := by
  obtain ⟨A, c, rfl⟩ := Sl.form h
  have HS := Lib.hid (fun i (hi : i < l.length) => Sl.at_ h hi (by omega))
  have HX : Hid (∀ i, i < l.length → ∃ x, l[i]? = some x ∧ x < 256 ∧ orS ((wordS (l.take i) : Nat) : Int) (IntKind.u64.wrap ((x : Int) * 2 ^ (8 * i))) = ((wordS (l.take (i + 1)) : Nat) : Int)) := Lib.hid fun i hi => by
    refine ⟨_, List.getElem?_eq_getElem hi, hb _ (List.getElem_mem hi), ?_⟩
    rw [List.take_add_one, List.getElem?_eq_getElem hi]
    show _ = ((wordS (l.take i ++ [l[i]]) : Nat) : Int)
    have hlt := wordS_lt (l := l.take i) fun x hx => hb x (List.mem_of_mem_take hx)
    have e : (l.take i).length = i := by rw [List.length_take]; omega
    rw [wordS_snoc]
    rw [e] at hlt ⊢
    exact orS_add hlt (hb _ (List.getElem_mem hi)) (by omega)
  have HN : Hid (l.take l.length = l) := Lib.hid (List.take_length ..)
  clear h hb
  generalize hn : l.length = n at *
  go_enter Tryz.func130, Tryz.ntmps130
  go_wp2_with fail
  go_loopw [3, 7] (fun u iv wr => ∃ k : Nat, k ≤ n ∧ iv = .int .i64 k ∧ u = .int .u64 ((wordS (l.take k) : Nat) : Int) ∧ wr = w) (fun _ iv _ => n - (intOf iv).toNat)
  case atStart => exact ⟨0, by omega, rfl, rfl, rfl⟩
  case round =>
    obtain ⟨k, hk, rfl, rfl, rfl⟩ := hrel
    by_cases hlt : k < n
    · obtain ⟨x, hx, hx2, hor⟩ := HX.out k hlt
      obtain ⟨b, o, c', hv, _, _, hc⟩ := HS.out k hlt
      simp only [Value.slice.injEq, true_and] at hv
      obtain ⟨rfl, rfl⟩ := hv
      have c0 := hc 0 (by omega)
      simp only [Nat.mul_one, Nat.add_zero, List.getElem?_map, hx, Option.map_some, byV] at c0
      have hw8 : IntKind.i64.wrap (8 * (k : Int)) = ((8 * k : Nat) : Int) := by rw [IntKind.wrap_i64]; omega
      have hwx := wrap_nat (x := x) (by omega)
      have hmn : min (8 * k) 64 = 8 * k := by omega
      have hkn : ((8 * k : Nat) : Int).toNat = 8 * k := Int.toNat_natCast _
      have hcn : (k : Int) < (n : Int) := by omega
      have HOR := Lib.hid hor
      generalize wordS (l.take k) = p at *
      clear HS HX hx hc hor HN
      go_wp2_with fail
      go_roundw
      case rel => exact ⟨k + 1, by omega, by go_num, by rw [← HOR.out]; rfl, trivial⟩
      case measure => simp [intOf]; omega
    · obtain rfl : k = n := by omega
      clear HS HX
      go_wp2_with fail
      go_ret
      rw [HN.out]
      exact ⟨rfl, rfl⟩

theorem long_eq {p n : Nat} (hp : p < 72057594037927936) : orS (p : Int) (IntKind.u64.wrap ((n : Int) * 72057594037927936)) = ((p + n % 256 * 72057594037927936 : Nat) : Int) := by
  have e : IntKind.u64.wrap ((n : Int) * 72057594037927936) = IntKind.u64.wrap (((n % 256 : Nat) : Int) * 2 ^ (8 * 7)) := by
    simp [IntKind.wrap, IntKind.signed, IntKind.bits]; omega
  rw [e, orS_add (i := 7) (by simpa using hp) (Nat.mod_lt _ (by omega)) (by omega)]
  congr 1
  rw [Nat.mul_comm]
theorem bytesAt_last {l : List Nat} {k : Nat} (hk : k = l.length / 8) : bytesAt l k = l.drop (8 * k) := by
  unfold bytesAt
  rw [List.take_of_length_le]
  rw [List.length_drop]; omega

set_option maxRecDepth 100000 in
set_option maxHeartbeats 1000000 in
theorem sum_any {w : World} {B : Nat} {v : Value} {l : List Nat} (h : SlY w B v l) (hl : l.length ≤ 1000000) (hb : ∀ x ∈ l, x < 256) (ka kb : Int) :
    Calls Tryz.prog 125 #[.agg #[.int .u64 ka, .int .u64 kb], v] w fun e w' => e = .returned (.int .u64 (sumS ka kb l)) ∧ Chg [] w w' := by
  obtain ⟨A, c, rfl⟩ := Sl.form h
  have hA := (Chg.refl [] w).alloc (.cells #[.int .u64 ka, .int .u64 kb] 24)
  have hB1 : Blk (w.alloc (.cells #[.int .u64 ka, .int .u64 kb] 24)) w.heap.size 24 #[.int .u64 ka, .int .u64 kb] := Blk.new _ _ _
  have HI := Lib.hid (And.intro hA (And.intro h hb))
  have R1 := Lib.hid hB1.rangeQ
  have HF := Lib.hid (fun W => kbegin_any ka kb W)
  clear hA hB1 h hb
  generalize hn : l.length = n at *
  go_enter Tryz.func125, Tryz.ntmps125
  go_wp2_with (first
    | (refine wpList_row 24 (.tmp 2) rfl rfl w.heap.size 0 rfl _ _ R1.out Tryz.underlying24 rfl (by kernel_rfl) ?_)
    | fail)
  refine (HF.out _).mono ?_
  rintro e w1 ⟨rfl, hc1⟩
  have hC1 := HI.out.1.trans hc1
  have hA2 := hC1.alloc (.cells #[.int .u64 0, .int .u64 0, .int .u64 0, .int .u64 0] 171)
  have hB2 : Blk (w1.alloc (.cells #[.int .u64 0, .int .u64 0, .int .u64 0, .int .u64 0] 171)) w1.heap.size 171 #[.int .u64 0, .int .u64 0, .int .u64 0, .int .u64 0] := Blk.new _ _ _
  have hz1 := hC1.size
  have HJ := Lib.hid (And.intro hA2 (And.intro hB2 (And.intro hz1 HI.out.2)))
  clear hA2 hB2 hz1 hc1 hC1 HI R1 HF
  go_upto_region 2 with (first
    | (refine wpList_store_blk rfl 171 _ _ rfl rfl HJ.out.2.1 rfl (vs := arrQ (beginW ka kb)) rfl rfl (by kernel_rfl) rfl ?_; intro w2 hB3 hc3)
    | fail)
  have hS3 : Chg [] w w2 ∧ w.heap.size ≤ w1.heap.size := ⟨HJ.out.1.trans' hc3 (by intro y hy; simp at hy; subst hy; exact .inr HJ.out.2.2.1), HJ.out.2.2.1⟩
  have HSL := Lib.hid HJ.out.2.2.2
  have H2 := Lib.hid hS3
  have H0 := Lib.hid hB3
  generalize w1.heap.size = g at *
  clear HJ hc3 hS3 hB3
  go_wp2_with fail
  go_loopw [1] (fun sv wr => ∃ (k m : Nat) (X : Option Addr), 8 * k + m = n ∧ sv = .slice X m (c - 8 * k) ∧ Hid (SlY w B (.slice X m (c - 8 * k)) (l.drop (8 * k))) ∧ Hid (Blk wr g 171 (arrQ (stateS ka kb l k))) ∧ Hid (Chg [] w wr)) (fun sv _ => match sv with | .slice _ m _ => m | _ => 0)
  case atStart => exact ⟨0, n, A, by omega, rfl, Lib.hid HSL.out.1, Lib.hid H0.out, Lib.hid H2.out.1⟩
  case round =>
    obtain ⟨k, m, X, hkm, rfl, HS, HB, HC⟩ := hrel
    have hll : (l.drop (8 * k)).length = m := by rw [List.length_drop]; omega
    by_cases hlt : 8 ≤ m
    · have hm8 : (8 : Int) ≤ (m : Int) := by omega
      have hk8 : k < l.length / 8 := by omega
      have hst := stateS_succ (ka := ka) (kb := kb) (wordsS_at hk8)
      have hb8 : ∀ x ∈ bytesAt l k, x < 256 := fun x hx => HSL.out.2 x (List.mem_of_mem_drop (List.mem_of_mem_take hx))
      have h8 : (bytesAt l k).length = 8 := by unfold bytesAt; rw [List.length_take]; omega
      have hsl := HS.out
      unfold SlY at hsl
      rw [hll] at hsl
      obtain ⟨q0, q2⟩ := cut_to elY hsl hlt
      obtain ⟨Y, r0, r2⟩ := cut_from elY hsl hlt
      have hcc : c - 8 * k - 8 = c - 8 * (k + 1) := by omega
      rw [hcc] at r0
      have q1 : ∀ W : World, (Instr.slice 126 (.slice X m (c - 8 * k)) none (some (.int .i64 8)) none).run Tryz.prog W = .ok (.slice X 8 (c - 8 * k)) W := q0
      have r1 : ∀ W : World, (Instr.slice 126 (.slice X m (c - 8 * k)) (some (.int .i64 8)) none none).run Tryz.prog W = .ok (.slice Y (m - 8) (c - 8 * (k + 1))) W := r0
      have hgz := H2.out.2
      clear q0 r0
      have q2' : ∀ W, Chg [] w W → SlY W B (.slice X 8 (c - 8 * k)) (bytesAt l k) := fun W hW => by
        have : SlY w B (.slice X 8 (c - 8 * k)) (bytesAt l k) := by
          unfold SlY
          rw [h8]
          rw [Nat.mul_one, ← List.map_take] at q2
          exact q2
        exact this.chg0 hW
      have r2' : SlY w B (.slice Y (m - 8) (c - 8 * (k + 1))) (l.drop (8 * (k + 1))) := by
        unfold SlY
        rw [show (l.drop (8 * (k + 1))).length = m - 8 by rw [List.length_drop]; omega]
        rw [Nat.mul_one, ← List.map_drop, List.drop_drop, show 8 * k + 8 = 8 * (k + 1) by omega, show c - 8 * k - 8 = c - 8 * (k + 1) by omega] at r2
        exact r2
      have F1 := Lib.hid (fun W hW => word_any (q2' W hW) (by omega) hb8)
      have HST := Lib.hid hst
      have HR2 := Lib.hid r2'
      clear hsl q2 q2' r2 r2' hb8 h8 hst HS H0 H2
      go_wp2_with fail
      refine (F1.out _ HC.out).mono ?_
      rintro e w3 ⟨rfl, rfl⟩
      have F2 := Lib.hid (take_any HB.out ((wordS (bytesAt l k) : Nat) : Int))
      clear F1
      generalize ((wordS (bytesAt l k) : Nat) : Int) = x at *
      go_wp2_with fail
      refine F2.out.mono ?_
      rintro e w4 ⟨rfl, hB4, hc4⟩
      have HB4 : Hid (Blk w4 g 171 (arrQ (stateS ka kb l (k + 1)))) := Lib.hid (by rw [HST.out]; exact hB4)
      have HC4 : Hid (Chg [] w w4) := Lib.hid (HC.out.trans' hc4 (by intro y hy; simp at hy; subst hy; exact .inr (by omega)))
      clear F2 hB4 hc4 HST HB HC
      go_wp2_with fail
      go_roundw
      case rel => exact ⟨k + 1, m - 8, Y, by omega, rfl, HR2, HB4, HC4⟩
      case measure => simp; omega
    · have hm8 : ¬ (8 : Int) ≤ (m : Int) := by omega
      have hk8 : k = l.length / 8 := by omega
      have hst := stateS_succ (ka := ka) (kb := kb) (wordsS_last l)
      have hbl := bytesAt_last hk8
      rw [← hk8, hbl] at hst
      have hb8 : ∀ x ∈ l.drop (8 * k), x < 256 := fun x hx => HSL.out.2 x (List.mem_of_mem_drop hx)
      have HSA : Hid (endW (stateS ka kb l (k + 1)) = sumS ka kb l) := Lib.hid (by rw [hk8]; exact stateS_all ka kb l)
      have hpl : wordS (l.drop (8 * k)) < 72057594037927936 := by
        have h1 := wordS_lt hb8
        rw [hll] at h1
        exact Nat.lt_of_lt_of_le h1 (Nat.le_trans (Nat.pow_le_pow_right (n := 2) (by omega) (show 8 * m ≤ 56 by omega)) (by omega))
      have hlong := long_eq (n := n) hpl
      have F1 := Lib.hid (fun W (hW : Chg [] w W) => word_any (HS.out.chg0 hW) (by omega) hb8)
      have hgz := H2.out.2
      obtain ⟨y, hy⟩ : ∃ y : Nat, y = wordS (l.drop (8 * k)) + n % 256 * 72057594037927936 := ⟨_, rfl⟩
      rw [hn, ← hy] at hst
      rw [← hy] at hlong
      have HST := Lib.hid hst
      clear hy
      have HLG := Lib.hid hlong
      clear hb8 hst HS H0 H2 hpl hbl hlong hk8 hll
      go_wp2_with fail
      refine (F1.out _ HC.out).mono ?_
      rintro e w3 ⟨rfl, rfl⟩
      clear F1
      have F2 := Lib.hid (take_any HB.out (y : Int))
      rw [← HLG.out] at F2
      unfold orS at F2
      generalize ((wordS (l.drop (8 * k)) : Nat) : Int) = x at *
      go_wp2_with fail
      refine F2.out.mono ?_
      rintro e w4 ⟨rfl, hB4, hc4⟩
      have HC4 : Hid (Chg [] w w4) := Lib.hid (HC.out.trans' hc4 (by intro y hy; simp at hy; subst hy; exact .inr (by omega)))
      have hB4' : Blk w4 g 171 (arrQ (stateS ka kb l (k + 1))) := by
        rw [HST.out, ← HLG.out]; exact hB4
      clear F2 hB4 hc4 HST HB HC HLG
      generalize stateS ka kb l (k + 1) = u at *
      have c2 : w4.cell? ⟨g, 2, none⟩ = some (.int .u64 u.c) := hB4'.cell 2
      have f2 := hB4'.frozen 2
      have HB5 : Hid (Blk (w4.setCell ⟨g, 2, none⟩ (.int .u64 (bits .xor .u64 u.c 255))) g 171 (arrQ ⟨u.a, u.b, xorS u.c 255, u.d⟩)) := Lib.hid (blk_setQ hB4' (by omega) _)
      have HC5 : Hid (Chg [] w (w4.setCell ⟨g, 2, none⟩ (.int .u64 (bits .xor .u64 u.c 255)))) := Lib.hid (HC4.out.trans' ((Chg.refl [g] w4).setCell (p := ⟨g, 2, none⟩) (.inl (by simp)) _) (by intro y hy; simp at hy; subst hy; exact .inr (by omega)))
      clear hB4' HC4
      go_upto_region 8 with fail
      generalize w4.setCell ⟨g, 2, none⟩ (.int .u64 (bits .xor .u64 u.c 255)) = w5 at *
      have F3 := Lib.hid (rounds_any HB5.out 4 (by omega))
      clear c2 f2
      go_wp2_with fail
      refine F3.out.mono ?_
      rintro e w6 ⟨rfl, hB6, hc6⟩
      generalize hz : roundsW 4 ⟨u.a, u.b, xorS u.c 255, u.d⟩ = z at *
      have HE : Hid (endW u = xorS (xorS (xorS z.a z.b) z.c) z.d) := Lib.hid (by subst hz; rfl)
      have c0 : w6.cell? ⟨g, 0, none⟩ = some (.int .u64 z.a) := hB6.cell 0
      have c1 : w6.cell? ⟨g, 1, none⟩ = some (.int .u64 z.b) := hB6.cell 1
      have c2 : w6.cell? ⟨g, 2, none⟩ = some (.int .u64 z.c) := hB6.cell 2
      have c3 : w6.cell? ⟨g, 3, none⟩ = some (.int .u64 z.d) := hB6.cell 3
      have HC6 := Lib.hid (HC5.out.trans' hc6 (by intro y hy; simp at hy; subst hy; exact .inr (by omega)))
      clear F3 hB6 hc6 HB5 HC5 hz
      go_wp2_with fail
      go_ret
      rw [← HSA.out, HE.out]
      exact ⟨rfl, HC6.out⟩

/-- A number's four bytes, the highest first. -/
def fourS (n : Nat) : List Nat := [n / 16777216 % 256, n / 65536 % 256, n / 256 % 256, n % 256]
theorem fourS_lt {n : Nat} : ∀ x ∈ fourS n, x < 256 := by
  intro x hx
  simp [fourS] at hx
  omega
theorem wrap8 (x : Nat) : IntKind.u8.wrap (x : Int) = ((x % 256 : Nat) : Int) := by
  simp [IntKind.wrap, IntKind.signed, IntKind.bits]
set_option maxRecDepth 100000 in
set_option maxHeartbeats 1000000 in
theorem put32_any {w : World} {base : Nat} {v : Value} {l : List Nat} (h : w.ownsRow base 5 1 v l.length (l.map byV)) (hl : l.length ≤ 1000000) (hbase : base ≤ w.heap.size) (n : Nat) :
    Calls Tryz.prog 126 #[v, .int .u32 n] w fun e w' => ∃ v', e = .returned v' ∧ w'.ownsRow base 5 1 v' (l ++ fourS n).length ((l ++ fourS n).map byV) ∧ Chg v.ownBlock.toList w w' := by
  have e1 : IntKind.u8.wrap ((n : Int) / 16777216) = ((n / 16777216 % 256 : Nat) : Int) := by rw [← wrap8]; rfl
  have e2 : IntKind.u8.wrap ((n : Int) / 65536) = ((n / 65536 % 256 : Nat) : Int) := by rw [← wrap8]; rfl
  have e3 : IntKind.u8.wrap ((n : Int) / 256) = ((n / 256 % 256 : Nat) : Int) := by rw [← wrap8]; rfl
  have e4 : IntKind.u8.wrap (n : Int) = ((n % 256 : Nat) : Int) := wrap8 n
  have hA := (Chg.refl [] w).alloc (.cells #[byV (n / 16777216 % 256), byV (n / 65536 % 256), byV (n / 256 % 256), byV (n % 256)] 5)
  have hown := own_chg h hA (by simp)
  have hcat : Sl (w.alloc (.cells #[byV (n / 16777216 % 256), byV (n / 65536 % 256), byV (n / 256 % 256), byV (n % 256)] 5)) 0 1 (.slice (some ⟨w.heap.size, 0, none⟩) 4 4) 4 ((fourS n).map byV) :=
    Sl.of_own (own_lit (base := 0) w 5 1 4 #[byV (n / 16777216 % 256), byV (n / 65536 % 256), byV (n / 256 % 256), byV (n % 256)] (Nat.zero_le _) (by simp [maxLen]) rfl)
  have hlt := own_lt h
  have HI := Lib.hid (And.intro hA (And.intro hown (And.intro hcat hlt)))
  have hbs : base ≤ w.heap.size + 1 := by omega
  clear hA hown hcat hlt h
  go_enter Tryz.func126, Tryz.ntmps126
  go_wp2_with (first
    | (at_builtin; refine wpList_app elY rfl (.tmp 5) (.tmp 17) rfl base rfl HI.out.2.1 rfl HI.out.2.2.1 (byV_one _) (by unfold maxLen; omega) (by omega) (by simp; omega) ?_; intro v1 w1 hown1 hc1 hb1)
    | fail)
  go_ret
  refine ⟨v1, rfl, ?_, (HI.out.1.more (by simp)).trans hc1⟩
  rw [List.map_append, List.length_append]
  exact hown1
def pairBytes (a b : Int) : List Nat := fourS (IntKind.u32.wrap a).toNat ++ fourS (IntKind.u32.wrap b).toNat
def pairS (ka kb a b : Int) : Int := sumS ka kb (pairBytes a b)
theorem wrap32_nat (a : Int) : IntKind.u32.wrap a = ((IntKind.u32.wrap a).toNat : Int) := by
  rw [Int.toNat_of_nonneg]
  simp [IntKind.wrap, IntKind.signed, IntKind.bits]
  omega

set_option maxRecDepth 100000 in
set_option maxHeartbeats 1000000 in
theorem pair_any (w : World) (ka kb a b : Int) :
    Calls Tryz.prog 119 #[.agg #[.int .u64 ka, .int .u64 kb], .int .i64 a, .int .i64 b] w fun e w' => e = .returned (.int .u64 (pairS ka kb a b)) ∧ Chg [] w w' := by
  have hA := (Chg.refl [] w).alloc (.cells #[.int .u64 ka, .int .u64 kb] 24)
  have hB1 : Blk (w.alloc (.cells #[.int .u64 ka, .int .u64 kb] 24)) w.heap.size 24 #[.int .u64 ka, .int .u64 kb] := Blk.new _ _ _
  have HI := Lib.hid (And.intro hA hB1)
  have ea := wrap32_nat a
  have eb := wrap32_nat b
  have HP : Hid (pairS ka kb a b = sumS ka kb (fourS (IntKind.u32.wrap a).toNat ++ fourS (IntKind.u32.wrap b).toNat)) := Lib.hid rfl
  generalize (IntKind.u32.wrap a).toNat = na at *
  generalize (IntKind.u32.wrap b).toNat = nb at *
  clear hA hB1
  go_enter Tryz.func119, Tryz.ntmps119
  go_upto_region 1 with fail
  obtain ⟨hA, hB1⟩ := HI.out
  generalize (w.alloc (.cells #[.int .u64 ka, .int .u64 kb] 24)) = w1 at *
  have HSR : ∀ W : World, Blk W w.heap.size 24 #[.int .u64 ka, .int .u64 kb] → W.rangeAt w.heap.size 0 (#[.int .u64 ka, .int .u64 kb] : Array Value).toList := fun W h => h.rangeQ
  have hS0 := hB1.drew
  refine wp_region_noPanic ?_
  refine wp_region_held_drew (S := fun W : World => Blk W w.heap.size 24 #[.int .u64 ka, .int .u64 kb]) (by kernel_rfl) hS0 (fun _ => ?_)
  refine wpAnyH_take (i := 0) rfl (by kernel_rfl) (by kernel_rfl) (by kernel_rfl) (fun _ _ _ h => h) (yields_row (by rfl) 24 (.tmp 3) rfl w.heap.size 0 rfl (#[.int .u64 ka, .int .u64 kb]) _ HSR Tryz.underlying24 rfl (by kernel_rfl)) (by with_reducible assumption) ?_
  try simp only [List.getElem_toArray, List.getElem_cons_succ, List.getElem_cons_zero, Act.put, List.setIfInBounds_toArray, List.set_cons_zero, List.set_cons_succ]
  refine wpAnyH_take (i := 1) (v := ?_) rfl (by kernel_rfl) (by kernel_rfl) (by kernel_rfl) (fun _ _ _ h => h) (yields_pure (by rfl) (fun w => ?_)) (by with_reducible assumption) ?_
  rotate_left
  · (go_simp <;> with_reducible rfl)
  try simp only [List.getElem_toArray, List.getElem_cons_succ, List.getElem_cons_zero, Act.put, List.setIfInBounds_toArray, List.set_cons_zero, List.set_cons_succ]
  refine wpAnyH_take (i := 2) (v := ?_) rfl (by kernel_rfl) (by kernel_rfl) (by kernel_rfl) (fun _ _ _ h => h) (yields_pure (by rfl) (fun w => ?_)) (by with_reducible assumption) ?_
  rotate_left
  · (go_simp <;> with_reducible rfl)
  try simp only [List.getElem_toArray, List.getElem_cons_succ, List.getElem_cons_zero, Act.put, List.setIfInBounds_toArray, List.set_cons_zero, List.set_cons_succ]
  refine wpAnyH_take (i := 4) (v := ?_) rfl (by kernel_rfl) (by kernel_rfl) (by kernel_rfl) (fun _ _ _ h => h) (yields_pure (by rfl) (fun w => ?_)) (by with_reducible assumption) ?_
  rotate_left
  · (go_simp <;> with_reducible rfl)
  try simp only [List.getElem_toArray, List.getElem_cons_succ, List.getElem_cons_zero, Act.put, List.setIfInBounds_toArray, List.set_cons_zero, List.set_cons_succ]
  refine wpAnyH_take (i := 5) (v := ?_) rfl (by kernel_rfl) (by kernel_rfl) (by kernel_rfl) (fun _ _ _ h => h) (yields_pure (by rfl) (fun w => ?_)) (by with_reducible assumption) ?_
  rotate_left
  · (go_simp <;> with_reducible rfl)
  try simp only [List.getElem_toArray, List.getElem_cons_succ, List.getElem_cons_zero, Act.put, List.setIfInBounds_toArray, List.set_cons_zero, List.set_cons_succ]
  refine wpAnyH_ready (rs := [3]) (by kernel_rfl) (by simp) (AllReadyH.cons rfl (fun K hK => ?_) AllReadyH.nil)
  have hn0 : w1.drew.ownsRow w1.heap.size 5 1 (.slice none 0 0) ([] : List Nat).length (([] : List Nat).map byV) := World.ownsRow_nil ..
  have F1 := Lib.hid (put32_any hn0 (by simp) (by simp) na)
  go_simp
  refine F1.out.mono ?_
  rintro e w2 ⟨v2, rfl, hown2, hc2⟩
  have hC2 : Chg [] w1 w2 := (Chg.refl [] w1).drew.trans (hc2.more (by simp [Value.ownBlock]))
  have hS2 : (fun W : World => Blk W w.heap.size 24 #[.int .u64 ka, .int .u64 kb]) w2 := hB1.chg hC2 (by simp)
  refine hK.out _ _ (by with_reducible assumption) (fun _ => ?_)
  clear hK K
  try simp only [List.getElem_toArray, List.getElem_cons_succ, List.getElem_cons_zero, Act.put, List.setIfInBounds_toArray, List.set_cons_zero, List.set_cons_succ]
  refine wpAnyH_ready (rs := [6]) (by kernel_rfl) (by simp) (AllReadyH.cons rfl (fun K hK => ?_) AllReadyH.nil)
  rw [List.nil_append] at hown2
  have F2 := Lib.hid (put32_any hown2 (by simp [fourS]) hC2.size nb)
  go_simp
  refine F2.out.mono ?_
  rintro e w3 ⟨v3, rfl, hown3, hc3⟩
  have hC3 : Chg [] w1 w3 := hC2.trans' hc3 (fun x hx => .inr (own_lt hown2 x hx).1)
  have hS3 : (fun W : World => Blk W w.heap.size 24 #[.int .u64 ka, .int .u64 kb]) w3 := hB1.chg hC3 (by simp)
  refine hK.out _ _ (by with_reducible assumption) (fun _ => ?_)
  clear hK K
  try simp only [List.getElem_toArray, List.getElem_cons_succ, List.getElem_cons_zero, Act.put, List.setIfInBounds_toArray, List.set_cons_zero, List.set_cons_succ]
  refine wpAnyH_ready (rs := [7]) (by kernel_rfl) (by simp) (AllReadyH.cons rfl (fun K hK => ?_) AllReadyH.nil)
  have hs3 : SlY w3 w1.heap.size v3 (fourS na ++ fourS nb) := Sl.of_own hown3
  have F3 := Lib.hid (sum_any hs3 (by simp [fourS]) (by intro x hx; rcases List.mem_append.1 hx with hx | hx <;> exact fourS_lt x hx) ka kb)
  go_simp
  refine F3.out.mono ?_
  rintro e w4 ⟨rfl, hc4⟩
  have hS4 : (fun W : World => Blk W w.heap.size 24 #[.int .u64 ka, .int .u64 kb]) w4 := hB1.chg (hC3.trans hc4) (by simp)
  refine hK.out _ _ (by with_reducible assumption) (fun _ => ?_)
  clear hK K
  try simp only [List.getElem_toArray, List.getElem_cons_succ, List.getElem_cons_zero, Act.put, List.setIfInBounds_toArray, List.set_cons_zero, List.set_cons_succ]
  refine wpAnyH_take (i := 8) (v := ?_) rfl (by kernel_rfl) (by kernel_rfl) (by kernel_rfl) (fun _ _ _ h => h) (yields_pure (by rfl) (fun w => ?_)) (by with_reducible assumption) ?_
  rotate_left
  · (go_simp <;> with_reducible rfl)
  try simp only [List.getElem_toArray, List.getElem_cons_succ, List.getElem_cons_zero, Act.put, List.setIfInBounds_toArray, List.set_cons_zero, List.set_cons_succ]
  refine wpAnyH_done (by kernel_rfl) ?_ _
  refine NoPanic.normal ?_
  have HC := Lib.hid (hA.trans (hC3.trans hc4))
  clear F1 F2 F3 hS0 hS2 hS3 hS4 hc4 hC3 hC2 hown2 hown3 hs3 hc3 hc2 hn0 HSR
  go_wp2_with fail
  go_ret
  rw [HP.out]
  exact ⟨rfl, HC.out⟩
/-- A hash as a number below another one. -/
def modS (u : Int) (n : Int) : Int := if n < 1 then 0 else u % n
set_option maxHeartbeats 1000000 in
theorem mod_any (w : World) (u n : Int) (hu : 0 ≤ u) (hn : n ≤ 1000000000) :
    Calls Tryz.prog 118 #[.int .u64 u, .int .i64 n] w fun e w' => e = .returned (.int .i64 (modS u n)) ∧ w = w' := by
  by_cases h1 : n < 1
  · have HM : Hid (modS u n = 0) := Lib.hid (by unfold modS; rw [if_pos h1])
    go_enter Tryz.func118, Tryz.ntmps118
    go_wp2_with fail
    go_ret
    rw [HM.out]
    exact ⟨rfl, rfl⟩
  · have HM : Hid (modS u n = u % n) := Lib.hid (by unfold modS; rw [if_neg h1])
    have e1 : IntKind.u64.wrap n = n := by simp [IntKind.wrap, IntKind.signed, IntKind.bits]; omega
    have e2 : u.tmod n = u % n := Int.tmod_eq_emod_of_nonneg hu
    have hlt := Int.emod_lt_of_pos u (show 0 < n by omega)
    have hge := Int.emod_nonneg u (show n ≠ 0 by omega)
    have hne : ¬ n = 0 := by omega
    generalize u % n = r at *
    have e3 : IntKind.i64.wrap r = r := by rw [IntKind.wrap_i64]; omega
    go_enter Tryz.func118, Tryz.ntmps118
    go_wp2_with fail
    go_ret
    rw [HM.out]
    exact ⟨rfl, rfl⟩
end Go.Proofs.YtecblclpchndiaaGreat
