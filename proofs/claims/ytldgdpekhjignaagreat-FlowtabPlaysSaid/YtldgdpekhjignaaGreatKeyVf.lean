/-
  WALKS over package keyed: Sum, Pair, Mod; octets.Put32. Conditions: bytes that read as such, fewer than 2^40 of them.
-/
import Derived.Test.YtldgdpekhjignaaGreatKeyW
import Derived.Test.YtldgdpekhjignaaGreatCut
set_option linter.unusedVariables false
set_option linter.unusedSimpArgs false
namespace Go.Proofs.YtldgdpekhjignaaGreat
open Go.RowKit

theorem elY : El Tryz.prog 90 5 (.int .u8 0) 1 1 := ⟨Tryz.underlying90, by kernel_rfl, rfl, by omega⟩
def byV (b : Nat) : Value := .int .u8 (b : Int)
/-- The slice v reads as the bytes l. -/
def SlY (w : World) (B : Nat) (v : Value) (l : List Nat) : Prop := Sl w B 1 v l.length (l.map byV)
theorem SlY.chg0 {w w' : World} {B : Nat} {v : Value} {l : List Nat} (h : SlY w B v l) (hc : Chg [] w w') : SlY w' B v l := Sl.chg0 h hc
theorem byV_one (l : List Nat) : ∀ u ∈ l.map byV, u.oneCell' = true := by
  intro u hu
  obtain ⟨x, _, rfl⟩ := List.mem_map.1 hu
  rfl

set_option maxRecDepth 100000 in
set_option maxHeartbeats 1000000 in
theorem take_any {w : World} {g : Nat} {v : W4} (h : Blk w g 119 (arrQ v)) (x : Int) :
    Calls Tryz.prog 69 #[.pointer (some ⟨g, 0, none⟩), .int .u64 x] w fun e w' => e = .returned (.tuple #[]) ∧ Blk w' g 119 (arrQ (takeW v x)) ∧ Chg [g] w w' := by
  have c1 : w.cell? ⟨g, 3, none⟩ = some (.int .u64 v.d) := h.cell 3
  have f1 := h.frozen 3
  have hB1 : Blk (w.setCell ⟨g, 3, none⟩ (.int .u64 (xorS v.d x))).drew g 119 (arrQ ⟨v.a, v.b, v.c, xorS v.d x⟩) := (blk_setQ h (by omega) _).drew
  have hC1 : Chg [g] w (w.setCell ⟨g, 3, none⟩ (.int .u64 (xorS v.d x))).drew := ((Chg.refl [g] w).setCell (p := ⟨g, 3, none⟩) (.inl (by simp)) _).drew
  have HI := Lib.hid (And.intro hB1 hC1)
  clear hB1 hC1 h
  go_enter Tryz.func69, Tryz.ntmps69
  go_upto_region 0 with fail
  go_region
  obtain ⟨hB1, hC1⟩ := HI.out
  change Exit.then _ _ _ _ (w.setCell ⟨g, 3, none⟩ (.int .u64 (xorS v.d x))).drew
  generalize (w.setCell ⟨g, 3, none⟩ (.int .u64 (xorS v.d x))).drew = w1 at *
  clear HI c1 f1
  have F1 := Lib.hid (rounds_any hB1 2 (by omega))
  generalize hu : roundsW 2 ⟨v.a, v.b, v.c, xorS v.d x⟩ = u at *
  have HQ : Hid (takeW v x = ⟨xorS u.a x, u.b, u.c, u.d⟩) := Lib.hid (by subst hu; rfl)
  clear hu hB1
  go_wp2_with fail
  refine F1.out.mono ?_
  rintro e w2 ⟨rfl, hB2, hC2⟩
  clear F1
  have c2 : w2.cell? ⟨g, 0, none⟩ = some (.int .u64 u.a) := hB2.cell 0
  have f2 := hB2.frozen 0
  have HI := Lib.hid (And.intro hB2 (hC1.trans hC2))
  clear hB2 hC1 hC2
  go_upto_region 2 with fail
  go_region
  go_wp2_with fail
  go_end0
  rw [HQ.out]
  exact ⟨rfl, (blk_setQ HI.out.1 (by omega) _).drew, HI.out.2.trans ((Chg.refl [g] w2).setCell (p := ⟨g, 0, none⟩) (.inl (by simp)) _).drew⟩

set_option maxRecDepth 100000 in
set_option maxHeartbeats 1000000 in
theorem kbegin_any (ka kb : Int) (w : World) :
    Calls Tryz.prog 68 #[.agg #[.int .u64 ka, .int .u64 kb]] w fun e w' => e = .returned (.agg (arrQ (beginW ka kb))) ∧ Chg [] w w' := by
  have hA := ((Chg.refl [] w).alloc (.cells #[.int .u64 ka, .int .u64 kb] 24)).alloc (.cells #[.int .u64 0, .int .u64 0, .int .u64 0, .int .u64 0] 119)
  have hB1 : Blk ((w.alloc (.cells #[.int .u64 ka, .int .u64 kb] 24)).alloc (.cells #[.int .u64 0, .int .u64 0, .int .u64 0, .int .u64 0] 119)) w.heap.size 24 #[.int .u64 ka, .int .u64 kb] := (Blk.new _ _ _).alloc _
  have hB2 : Blk ((w.alloc (.cells #[.int .u64 ka, .int .u64 kb] 24)).alloc (.cells #[.int .u64 0, .int .u64 0, .int .u64 0, .int .u64 0] 119)) (w.heap.size + 1) 119 #[.int .u64 0, .int .u64 0, .int .u64 0, .int .u64 0] := Blk.new' (by simp)
  have HI := Lib.hid (And.intro hA (And.intro hB1 hB2))
  clear hA hB1 hB2
  go_enter Tryz.func68, Tryz.ntmps68
  go_upto_region 1 with fail
  obtain ⟨hA, hB1, hB2⟩ := HI.out
  generalize (w.alloc (.cells #[.int .u64 ka, .int .u64 kb] 24)).alloc (.cells #[.int .u64 0, .int .u64 0, .int .u64 0, .int .u64 0] 119) = w1 at *
  have c0 : w1.cell? ⟨w.heap.size, 0, none⟩ = some (.int .u64 ka) := hB1.cell 0
  have c1 : w1.cell? ⟨w.heap.size, 1, none⟩ = some (.int .u64 kb) := hB1.cell 1
  clear hB1 HI
  go_wp2_with (first
    | (refine wpList_store_blk rfl 119 _ _ rfl rfl hB2 rfl (vs := arrQ (beginW ka kb)) rfl rfl (by kernel_rfl) rfl ?_; intro w2 hB3 hc3)
    | fail)
  exact bodyPost_ret (results_blk rfl rfl hB3 _ Tryz.underlying119 rfl (by kernel_rfl)) rfl ⟨rfl, hA.trans' hc3 (by intro y hy; simp at hy; subst hy; exact .inr (by omega))⟩

set_option maxRecDepth 100000 in
set_option maxHeartbeats 1000000 in
theorem word_any {w : World} {B : Nat} {v : Value} {l : List Nat} (h : SlY w B v l) (hl : l.length ≤ 8) (hb : ∀ x ∈ l, x < 256) :
    Calls Tryz.prog 70 #[v] w fun e w' => e = .returned (.int .u64 (wordS l : Nat)) ∧ w = w' := by
  obtain ⟨A, c, rfl⟩ := Sl.form h
  have HS := Lib.hid (fun i (hi : i < l.length) => Sl.at_ h hi (by omega))
  have HX : Hid (∀ i, i < l.length → ∃ x, l[i]? = some x ∧ x < 256 ∧ orS ((wordS (l.take i) : Nat) : Int) (IntKind.u64.wrap ((x : Int) * 2 ^ (8 * i))) = ((wordS (l.take (i + 1)) : Nat) : Int)) := Lib.hid fun i hi => by
    refine ⟨_, List.getElem?_eq_getElem hi, hb _ (List.getElem_mem hi), ?_⟩
    rw [List.take_add_one, List.getElem?_eq_getElem hi]
    show _ = ((wordS (l.take i ++ [l[i]]) : Nat) : Int)
    have hlt := wordS_lt (l := l.take i) fun x hx => hb x (List.mem_of_mem_take hx)
    have e : (l.take i).length = i := by rw [List.length_take]; omega
    rw [wordS_snoc]
    rw [e] at hlt ⊢
    exact orS_add hlt (hb _ (List.getElem_mem hi)) (by omega)
  have HN : Hid (l.take l.length = l) := Lib.hid (List.take_length ..)
  clear h hb
  generalize hn : l.length = n at *
  go_enter Tryz.func70, Tryz.ntmps70
  go_wp2_with fail
  go_loopw [3, 7] (fun u iv wr => ∃ k : Nat, k ≤ n ∧ iv = .int .i64 k ∧ u = .int .u64 ((wordS (l.take k) : Nat) : Int) ∧ wr = w) (fun _ iv _ => n - (intOf iv).toNat)
  case atStart => exact ⟨0, by omega, rfl, rfl, rfl⟩
  case round =>
    obtain ⟨k, hk, rfl, rfl, rfl⟩ := hrel
    by_cases hlt : k < n
    · obtain ⟨x, hx, hx2, hor⟩ := HX.out k hlt
      obtain ⟨b, o, c', hv, _, _, hc⟩ := HS.out k hlt
      simp only [Value.slice.injEq, true_and] at hv
      obtain ⟨rfl, rfl⟩ := hv
      have c0 := hc 0 (by omega)
      simp only [Nat.mul_one, Nat.add_zero, List.getElem?_map, hx, Option.map_some, byV] at c0
      have hw8 : IntKind.i64.wrap (8 * (k : Int)) = ((8 * k : Nat) : Int) := by rw [IntKind.wrap_i64]; omega
      have hwx := wrap_nat (x := x) (by omega)
      have hmn : min (8 * k) 64 = 8 * k := by omega
      have hkn : ((8 * k : Nat) : Int).toNat = 8 * k := Int.toNat_natCast _
      have hcn : (k : Int) < (n : Int) := by omega
      have HOR := Lib.hid hor
      generalize wordS (l.take k) = p at *
      clear HS HX hx hc hor HN
      go_wp2_with fail
      go_roundw
      case rel => exact ⟨k + 1, by omega, by go_num, by rw [← HOR.out]; rfl, trivial⟩
      case measure => simp [intOf]; omega
    · obtain rfl : k = n := by omega
      clear HS HX
      go_wp2_with fail
      go_ret
      rw [HN.out]
      exact ⟨rfl, rfl⟩

theorem long_eq {p n : Nat} (hp : p < 72057594037927936) : orS (p : Int) (IntKind.u64.wrap ((n : Int) * 72057594037927936)) = ((p + n % 256 * 72057594037927936 : Nat) : Int) := by
  have e : IntKind.u64.wrap ((n : Int) * 72057594037927936) = IntKind.u64.wrap (((n % 256 : Nat) : Int) * 2 ^ (8 * 7)) := by
    simp [IntKind.wrap, IntKind.signed, IntKind.bits]; omega
  rw [e, orS_add (i := 7) (by simpa using hp) (Nat.mod_lt _ (by omega)) (by omega)]
  congr 1
  rw [Nat.mul_comm]
theorem bytesAt_last {l : List Nat} {k : Nat} (hk : k = l.length / 8) : bytesAt l k = l.drop (8 * k) := by
  unfold bytesAt
  rw [List.take_of_length_le]
  rw [List.length_drop]; omega

set_option maxRecDepth 100000 in
set_option maxHeartbeats 1000000 in
theorem sum_any {w : World} {B : Nat} {v : Value} {l : List Nat} (h : SlY w B v l) (hl : l.length ≤ 1000000) (hb : ∀ x ∈ l, x < 256) (ka kb : Int) :
    Calls Tryz.prog 42 #[.agg #[.int .u64 ka, .int .u64 kb], v] w fun e w' => e = .returned (.int .u64 (sumS ka kb l)) ∧ Chg [] w w' := by
  obtain ⟨A, c, rfl⟩ := Sl.form h
  have hA := (Chg.refl [] w).alloc (.cells #[.int .u64 ka, .int .u64 kb] 24)
  have hB1 : Blk (w.alloc (.cells #[.int .u64 ka, .int .u64 kb] 24)) w.heap.size 24 #[.int .u64 ka, .int .u64 kb] := Blk.new _ _ _
  have HI := Lib.hid (And.intro hA (And.intro h hb))
  have R1 := Lib.hid hB1.rangeQ
  have HF := Lib.hid (fun W => kbegin_any ka kb W)
  clear hA hB1 h hb
  generalize hn : l.length = n at *
  go_enter Tryz.func42, Tryz.ntmps42
  go_wp2_with (first
    | (refine wpList_row 24 (.tmp 2) rfl rfl w.heap.size 0 rfl _ _ R1.out Tryz.underlying24 rfl (by kernel_rfl) ?_)
    | fail)
  refine (HF.out _).mono ?_
  rintro e w1 ⟨rfl, hc1⟩
  have hC1 := HI.out.1.trans hc1
  have hA2 := hC1.alloc (.cells #[.int .u64 0, .int .u64 0, .int .u64 0, .int .u64 0] 119)
  have hB2 : Blk (w1.alloc (.cells #[.int .u64 0, .int .u64 0, .int .u64 0, .int .u64 0] 119)) w1.heap.size 119 #[.int .u64 0, .int .u64 0, .int .u64 0, .int .u64 0] := Blk.new _ _ _
  have hz1 := hC1.size
  have HJ := Lib.hid (And.intro hA2 (And.intro hB2 (And.intro hz1 HI.out.2)))
  clear hA2 hB2 hz1 hc1 hC1 HI R1 HF
  go_upto_region 2 with (first
    | (refine wpList_store_blk rfl 119 _ _ rfl rfl HJ.out.2.1 rfl (vs := arrQ (beginW ka kb)) rfl rfl (by kernel_rfl) rfl ?_; intro w2 hB3 hc3)
    | fail)
  have hS3 : Chg [] w w2 ∧ w.heap.size ≤ w1.heap.size := ⟨HJ.out.1.trans' hc3 (by intro y hy; simp at hy; subst hy; exact .inr HJ.out.2.2.1), HJ.out.2.2.1⟩
  have HSL := Lib.hid HJ.out.2.2.2
  have H2 := Lib.hid hS3
  have H0 := Lib.hid hB3
  generalize w1.heap.size = g at *
  clear HJ hc3 hS3 hB3
  go_wp2_with fail
  go_loopw [1] (fun sv wr => ∃ (k m : Nat) (X : Option Addr), 8 * k + m = n ∧ sv = .slice X m (c - 8 * k) ∧ Hid (SlY w B (.slice X m (c - 8 * k)) (l.drop (8 * k))) ∧ Hid (Blk wr g 119 (arrQ (stateS ka kb l k))) ∧ Hid (Chg [] w wr)) (fun sv _ => match sv with | .slice _ m _ => m | _ => 0)
  case atStart => exact ⟨0, n, A, by omega, rfl, Lib.hid HSL.out.1, Lib.hid H0.out, Lib.hid H2.out.1⟩
  case round =>
    obtain ⟨k, m, X, hkm, rfl, HS, HB, HC⟩ := hrel
    have hll : (l.drop (8 * k)).length = m := by rw [List.length_drop]; omega
    by_cases hlt : 8 ≤ m
    · have hm8 : (8 : Int) ≤ (m : Int) := by omega
      have hk8 : k < l.length / 8 := by omega
      have hst := stateS_succ (ka := ka) (kb := kb) (wordsS_at hk8)
      have hb8 : ∀ x ∈ bytesAt l k, x < 256 := fun x hx => HSL.out.2 x (List.mem_of_mem_drop (List.mem_of_mem_take hx))
      have h8 : (bytesAt l k).length = 8 := by unfold bytesAt; rw [List.length_take]; omega
      have hsl := HS.out
      unfold SlY at hsl
      rw [hll] at hsl
      obtain ⟨q0, q2⟩ := cut_to elY hsl hlt
      obtain ⟨Y, r0, r2⟩ := cut_from elY hsl hlt
      have hcc : c - 8 * k - 8 = c - 8 * (k + 1) := by omega
      rw [hcc] at r0
      have q1 : ∀ W : World, (Instr.slice 90 (.slice X m (c - 8 * k)) none (some (.int .i64 8)) none).run Tryz.prog W = .ok (.slice X 8 (c - 8 * k)) W := q0
      have r1 : ∀ W : World, (Instr.slice 90 (.slice X m (c - 8 * k)) (some (.int .i64 8)) none none).run Tryz.prog W = .ok (.slice Y (m - 8) (c - 8 * (k + 1))) W := r0
      have hgz := H2.out.2
      clear q0 r0
      have q2' : ∀ W, Chg [] w W → SlY W B (.slice X 8 (c - 8 * k)) (bytesAt l k) := fun W hW => by
        have : SlY w B (.slice X 8 (c - 8 * k)) (bytesAt l k) := by
          unfold SlY
          rw [h8]
          rw [Nat.mul_one, ← List.map_take] at q2
          exact q2
        exact this.chg0 hW
      have r2' : SlY w B (.slice Y (m - 8) (c - 8 * (k + 1))) (l.drop (8 * (k + 1))) := by
        unfold SlY
        rw [show (l.drop (8 * (k + 1))).length = m - 8 by rw [List.length_drop]; omega]
        rw [Nat.mul_one, ← List.map_drop, List.drop_drop, show 8 * k + 8 = 8 * (k + 1) by omega, show c - 8 * k - 8 = c - 8 * (k + 1) by omega] at r2
        exact r2
      have F1 := Lib.hid (fun W hW => word_any (q2' W hW) (by omega) hb8)
      have HST := Lib.hid hst
      have HR2 := Lib.hid r2'
      clear hsl q2 q2' r2 r2' hb8 h8 hst HS H0 H2
      go_wp2_with fail
      refine (F1.out _ HC.out).mono ?_
      rintro e w3 ⟨rfl, rfl⟩
      have F2 := Lib.hid (take_any HB.out ((wordS (bytesAt l k) : Nat) : Int))
      clear F1
      generalize ((wordS (bytesAt l k) : Nat) : Int) = x at *
      go_wp2_with fail
      refine F2.out.mono ?_
      rintro e w4 ⟨rfl, hB4, hc4⟩
      have HB4 : Hid (Blk w4 g 119 (arrQ (stateS ka kb l (k + 1)))) := Lib.hid (by rw [HST.out]; exact hB4)
      have HC4 : Hid (Chg [] w w4) := Lib.hid (HC.out.trans' hc4 (by intro y hy; simp at hy; subst hy; exact .inr (by omega)))
      clear F2 hB4 hc4 HST HB HC
      go_wp2_with fail
      go_roundw
      case rel => exact ⟨k + 1, m - 8, Y, by omega, rfl, HR2, HB4, HC4⟩
      case measure => simp; omega
    · have hm8 : ¬ (8 : Int) ≤ (m : Int) := by omega
      have hk8 : k = l.length / 8 := by omega
      have hst := stateS_succ (ka := ka) (kb := kb) (wordsS_last l)
      have hbl := bytesAt_last hk8
      rw [← hk8, hbl] at hst
      have hb8 : ∀ x ∈ l.drop (8 * k), x < 256 := fun x hx => HSL.out.2 x (List.mem_of_mem_drop hx)
      have HSA : Hid (endW (stateS ka kb l (k + 1)) = sumS ka kb l) := Lib.hid (by rw [hk8]; exact stateS_all ka kb l)
      have hpl : wordS (l.drop (8 * k)) < 72057594037927936 := by
        have h1 := wordS_lt hb8
        rw [hll] at h1
        exact Nat.lt_of_lt_of_le h1 (Nat.le_trans (Nat.pow_le_pow_right (n := 2) (by omega) (show 8 * m ≤ 56 by omega)) (by omega))
      have hlong := long_eq (n := n) hpl
      have F1 := Lib.hid (fun W (hW : Chg [] w W) => word_any (HS.out.chg0 hW) (by omega) hb8)
      have hgz := H2.out.2
      obtain ⟨y, hy⟩ : ∃ y : Nat, y = wordS (l.drop (8 * k)) + n % 256 * 72057594037927936 := ⟨_, rfl⟩
      rw [hn, ← hy] at hst
      rw [← hy] at hlong
      have HST := Lib.hid hst
      clear hy
      have HLG := Lib.hid hlong
      clear hb8 hst HS H0 H2 hpl hbl hlong hk8 hll
      go_wp2_with fail
      refine (F1.out _ HC.out).mono ?_
      rintro e w3 ⟨rfl, rfl⟩
      clear F1
      have F2 := Lib.hid (take_any HB.out (y : Int))
      rw [← HLG.out] at F2
      unfold orS at F2
      generalize ((wordS (l.drop (8 * k)) : Nat) : Int) = x at *
      go_wp2_with fail
      refine F2.out.mono ?_
      rintro e w4 ⟨rfl, hB4, hc4⟩
      have HC4 : Hid (Chg [] w w4) := Lib.hid (HC.out.trans' hc4 (by intro y hy; simp at hy; subst hy; exact .inr (by omega)))
      have hB4' : Blk w4 g 119 (arrQ (stateS ka kb l (k + 1))) := by
        rw [HST.out, ← HLG.out]; exact hB4
      clear F2 hB4 hc4 HST HB HC HLG
      generalize stateS ka kb l (k + 1) = u at *
      have c2 : w4.cell? ⟨g, 2, none⟩ = some (.int .u64 u.c) := hB4'.cell 2
      have f2 := hB4'.frozen 2
      have HB5 : Hid (Blk (w4.setCell ⟨g, 2, none⟩ (.int .u64 (bits .xor .u64 u.c 255))) g 119 (arrQ ⟨u.a, u.b, xorS u.c 255, u.d⟩)) := Lib.hid (blk_setQ hB4' (by omega) _)
      have HC5 : Hid (Chg [] w (w4.setCell ⟨g, 2, none⟩ (.int .u64 (bits .xor .u64 u.c 255)))) := Lib.hid (HC4.out.trans' ((Chg.refl [g] w4).setCell (p := ⟨g, 2, none⟩) (.inl (by simp)) _) (by intro y hy; simp at hy; subst hy; exact .inr (by omega)))
      clear hB4' HC4
      go_upto_region 8 with fail
      generalize w4.setCell ⟨g, 2, none⟩ (.int .u64 (bits .xor .u64 u.c 255)) = w5 at *
      have F3 := Lib.hid (rounds_any HB5.out 4 (by omega))
      clear c2 f2
      go_wp2_with fail
      refine F3.out.mono ?_
      rintro e w6 ⟨rfl, hB6, hc6⟩
      generalize hz : roundsW 4 ⟨u.a, u.b, xorS u.c 255, u.d⟩ = z at *
      have HE : Hid (endW u = xorS (xorS (xorS z.a z.b) z.c) z.d) := Lib.hid (by subst hz; rfl)
      have c0 : w6.cell? ⟨g, 0, none⟩ = some (.int .u64 z.a) := hB6.cell 0
      have c1 : w6.cell? ⟨g, 1, none⟩ = some (.int .u64 z.b) := hB6.cell 1
      have c2 : w6.cell? ⟨g, 2, none⟩ = some (.int .u64 z.c) := hB6.cell 2
      have c3 : w6.cell? ⟨g, 3, none⟩ = some (.int .u64 z.d) := hB6.cell 3
      have HC6 := Lib.hid (HC5.out.trans' hc6 (by intro y hy; simp at hy; subst hy; exact .inr (by omega)))
      clear F3 hB6 hc6 HB5 HC5 hz
      go_wp2_with fail
      go_ret
      rw [← HSA.out, HE.out]
      exact ⟨rfl, HC6.out⟩

/-- A number's four bytes, the highest first. -/
def fourS (n : Nat) : List Nat := [n / 16777216 % 256, n / 65536 % 256, n / 256 % 256, n % 256]
theorem fourS_lt {n : Nat} : ∀ x ∈ fourS n, x < 256 := by
  intro x hx
  simp [fourS] at hx
  omega
theorem wrap8 (x : Nat) : IntKind.u8.wrap (x : Int) = ((x % 256 : Nat) : Int) := by
  simp [IntKind.wrap, IntKind.signed, IntKind.bits]
def pairBytes (a b : Int) : List Nat := fourS (IntKind.u32.wrap a).toNat ++ fourS (IntKind.u32.wrap b).toNat
def pairS (ka kb a b : Int) : Int := sumS ka kb (pairBytes a b)
theorem wrap32_nat (a : Int) : IntKind.u32.wrap a = ((IntKind.u32.wrap a).toNat : Int) := by
  rw [Int.toNat_of_nonneg]
  simp [IntKind.wrap, IntKind.signed, IntKind.bits]
  omega

/-- A hash as a number below another one. -/
def modS (u : Int) (n : Int) : Int := if n < 1 then 0 else u % n
end Go.Proofs.YtldgdpekhjignaaGreat
