/-
  WALK: PoolPlays. Condition: the arguments read as data.
-/
import Derived.Test.YtecblclpchndiaaGreatPrC
set_option linter.unusedVariables false
set_option linter.unusedSimpArgs false
namespace Go.Proofs.YtecblclpchndiaaGreat
open Go.RowKit

set_option maxHeartbeats 400000 in
theorem eq_pd (w : World) (d : Nat) (a b : Int) : (Op.equalIn (d + 2) 62 (.agg #[.int .i64 a, .int .i64 b]) (.agg #[.int .i64 a, .int .i64 b])).run Tryz.prog w = .ok true w := by
  unfold Op.equalIn
  simp [run_underlying Tryz.underlying62]
  have hr : List.range' 0 2 = [0, 1] := rfl
  simp [hr, List.forIn_cons, List.forIn_nil, part, sizeOf, typeInfo, Op.equalIn, run_underlying Tryz.underlying3, Sem.run_bind, Sem.run_pure, Result.andThen]
theorem RB.ext {w w' : World} {S : List Nat} {v : Value} {L : List Bk} (h : RB w S v L) (hc : Chg [] w w') {g : Nat} (hg : w.heap.size ≤ g) : RB w' (g :: S) v L :=
  h.chgS (hc.more (by simp)) (fun x hx => by
    rcases List.mem_cons.1 hx with rfl | hx
    · exact .inr hg
    · exact .inl hx)
theorem RV2.ext {w w' : World} {S : List Nat} {v : Value} {es : List Ve} {V : List Vs} (h : RV2 w S v es V) (hc : Chg [] w w') {g : Nat} (hg : w.heap.size ≤ g) : RV2 w' (g :: S) v es V :=
  h.chgS (hc.more (by simp)) (fun x hx => by
    rcases List.mem_cons.1 hx with rfl | hx
    · exact .inr hg
    · exact .inl hx)
/-- A state of both pools. -/
def StE (wb wr : World) (p hp Q : Nat) (ka kb : Int) (k : Nat) (now : Int) : Prop := ∃ s S lvR vvR esR, StQ wb wr p hp Q ka kb k now s S lvR vvR esR
/-- Both pools made. -/
def Made (wb wx : World) (ka kb : Int) (p7 p8 : Value) : Prop := ∃ p hp Q, p7 = .pointer (some ⟨p, 0, none⟩) ∧ p8 = .pointer (some ⟨Q, 0, none⟩) ∧ StE wb wx p hp Q ka kb 0 0
/-- The document's change made, in a block of its own. -/
def RefD (wr wx : World) (Q : Nat) (S : List Nat) (ka kb : Int) (r : Int × PS) (s11 s12 : Value) : Prop :=
  ∃ b lv vv es, s11 = .pointer (some ⟨b, 0, none⟩) ∧ s12 = .int .i64 r.1 ∧ Blk wx b 52 (arrP ka kb lv vv r.2.last) ∧ RB wx (Q :: S) lv r.2.L ∧ RV2 wx (Q :: S) vv es r.2.V ∧ Chg [] wr wx ∧ b ≠ Q
def Told (wr wx : World) (L : List Bk) (V : List Vs) (u : Nat) (a b c : Value) : Prop := SlB wx 0 a L ∧ Sl wx 0 2 b V.length ((prV V u).flatMap encP) ∧ Sl wx 0 2 c V.length ((prV V u).flatMap encP) ∧ Chg [] wr wx
theorem zeroP5 : (#[.int .u64 0, .int .u64 0, .slice none 0 0, .slice none 0 0, .int .i64 0] : Array Value).size = 5 := rfl

set_option maxRecDepth 100000 in
set_option maxHeartbeats 8000000 in
theorem plays35_any (ka kb : Int) (u : Nat) (hu : u < 18446744073709551616) {w : World} {B : Nat} {v : Value} {cl : List PO} (h : SlO w B v cl) (ho : ∀ o ∈ cl, I64 o.node ∧ I64 o.later) :
    Calls Tryz.prog 4 #[.agg #[.int .u64 ka, .int .u64 kb], v, .int .u64 u] w fun e w' => e = .returned (.bool true) ∧ Chg [] w w' := by
  obtain ⟨Ac, cc, ev⟩ := Sl.form h
  subst ev
  have HX : Hid (∀ i, i < cl.length → ∃ x, cl[i]? = some x ∧ I64 x.node ∧ I64 x.later) := Lib.hid fun i hi => ⟨_, List.getElem?_eq_getElem hi, ho _ (List.getElem_mem _)⟩
  have hA := (Chg.refl [] w).alloc (.cells #[.int .u64 ka, .int .u64 kb] 24)
  have hb := Blk.new w 24 #[.int .u64 ka, .int .u64 kb]
  have h := h.chg0 hA
  have HI := Lib.hid (And.intro hA (And.intro hb h))
  clear ho hA hb h
  go_enter Tryz.func4, Tryz.ntmps4
  go_upto_region 1 with fail
  obtain ⟨hA, hb, h⟩ := HI.out
  generalize w.alloc (.cells #[.int .u64 ka, .int .u64 kb] 24) = wb at *
  have HS := Lib.hid (fun W (hW : Chg [] wb W) i x hx => (h.chg0 hW).at_ (i := i) (x := x) hx)
  have HA := Lib.hid hA
  have HB := Lib.hid hb
  clear hA hb h HI
  go_cut [7, 8] (fun s7 s8 wx => Hid (Made wb wx ka kb s7 s8))
  case first =>
    have hS0 : (fun W : World => Blk W w.heap.size 24 #[.int .u64 ka, .int .u64 kb]) wb.drew := HB.out.drew
    have HSR : ∀ W : World, (fun W : World => Blk W w.heap.size 24 #[.int .u64 ka, .int .u64 kb]) W → W.rangeAt w.heap.size 0 (#[.int .u64 ka, .int .u64 kb] : Array Value).toList := fun W h => h.rangeQ
    have HSC0 : ∀ W : World, (fun W : World => Blk W w.heap.size 24 #[.int .u64 ka, .int .u64 kb]) W → W.cell? ⟨w.heap.size, 0, none⟩ = some (.int .u64 ka) := fun W h => h.cell 0
    have HSC1 : ∀ W : World, (fun W : World => Blk W w.heap.size 24 #[.int .u64 ka, .int .u64 kb]) W → W.cell? ⟨w.heap.size, 1, none⟩ = some (.int .u64 kb) := fun W h => h.cell 1
    have hwb : w.heap.size < wb.heap.size := HB.out.lt
    refine wp_region_noPanic ?_
    refine wp_region_held_drew (S := fun W : World => Blk W w.heap.size 24 #[.int .u64 ka, .int .u64 kb]) (by kernel_rfl) hS0 (fun _ => ?_)
    have hCd : Chg [] wb wb.drew := (Chg.refl [] wb).drew
    have hzd : wb.drew.heap.size = wb.heap.size := rfl
    generalize wb.drew = w1 at *
    refine wpAnyH_take (i := 0) rfl (by kernel_rfl) (by kernel_rfl) (by kernel_rfl) (fun _ _ _ h => h) (yields_row (by rfl) 24 (.tmp 3) rfl w.heap.size 0 rfl (#[.int .u64 ka, .int .u64 kb]) _ HSR Tryz.underlying24 rfl (by kernel_rfl)) (by with_reducible assumption) ?_
    try simp only [List.getElem_toArray, List.getElem_cons_succ, List.getElem_cons_zero, Act.put, List.setIfInBounds_toArray, List.set_cons_zero, List.set_cons_succ]
    refine wpAnyH_take (i := 2) (v := ?_) rfl (by kernel_rfl) (by kernel_rfl) (by kernel_rfl) (fun _ _ _ h => h) (yields_pure (by rfl) (fun w => ?_)) (by with_reducible assumption) ?_
    rotate_left
    · (go_simp <;> with_reducible rfl)
    try simp only [List.getElem_toArray, List.getElem_cons_succ, List.getElem_cons_zero, Act.put, List.setIfInBounds_toArray, List.set_cons_zero, List.set_cons_succ]
    refine wpAnyH_take (i := 3) rfl (by kernel_rfl) (by kernel_rfl) (by kernel_rfl) (fun _ _ _ h => h) (yields_cell (by rfl) 22 (.tmp 21) rfl w.heap.size 0 rfl (.int .u64 ka) _ HSC0 Tryz.underlying22 rfl) (by with_reducible assumption) ?_
    try simp only [List.getElem_toArray, List.getElem_cons_succ, List.getElem_cons_zero, Act.put, List.setIfInBounds_toArray, List.set_cons_zero, List.set_cons_succ]
    refine wpAnyH_take (i := 4) (v := ?_) rfl (by kernel_rfl) (by kernel_rfl) (by kernel_rfl) (fun _ _ _ h => h) (yields_pure (by rfl) (fun w => ?_)) (by with_reducible assumption) ?_
    rotate_left
    · (go_simp <;> with_reducible rfl)
    try simp only [List.getElem_toArray, List.getElem_cons_succ, List.getElem_cons_zero, Act.put, List.setIfInBounds_toArray, List.set_cons_zero, List.set_cons_succ]
    refine wpAnyH_take (i := 5) rfl (by kernel_rfl) (by kernel_rfl) (by kernel_rfl) (fun _ _ _ h => h) (yields_cell (by rfl) 22 (.tmp 23) rfl w.heap.size 1 rfl (.int .u64 kb) _ HSC1 Tryz.underlying22 rfl) (by with_reducible assumption) ?_
    try simp only [List.getElem_toArray, List.getElem_cons_succ, List.getElem_cons_zero, Act.put, List.setIfInBounds_toArray, List.set_cons_zero, List.set_cons_succ]
    refine wpAnyH_take (i := 6) (v := ?_) rfl (by kernel_rfl) (by kernel_rfl) (by kernel_rfl) (fun _ _ _ h => h) (yields_pure (by rfl) (fun w => ?_)) (by with_reducible assumption) ?_
    rotate_left
    · (go_simp <;> with_reducible rfl)
    try simp only [List.getElem_toArray, List.getElem_cons_succ, List.getElem_cons_zero, Act.put, List.setIfInBounds_toArray, List.set_cons_zero, List.set_cons_succ]
    refine wpAnyH_take (i := 7) (v := ?_) rfl (by kernel_rfl) (by kernel_rfl) (by kernel_rfl) (fun _ _ _ h => h) (yields_pure (by rfl) (fun w => ?_)) (by with_reducible assumption) ?_
    rotate_left
    · (go_simp <;> with_reducible rfl)
    try simp only [List.getElem_toArray, List.getElem_cons_succ, List.getElem_cons_zero, Act.put, List.setIfInBounds_toArray, List.set_cons_zero, List.set_cons_succ]
    refine wpAnyH_ready (rs := [1, 8]) (by kernel_rfl) (by simp) (AllReadyH.cons rfl (fun K hK => ?_) (AllReadyH.cons rfl (fun K hK => ?_) AllReadyH.nil))
    · go_simp
      refine (newP_any ka kb w1).mono ?_
      rintro e w2 ⟨p, hp, rfl, h1, h2, h3, h4⟩
      have hS2 : (fun W : World => Blk W w.heap.size 24 #[.int .u64 ka, .int .u64 kb]) w2 := hS0.chg h4 (by simp)
      refine hK.out _ _ (by with_reducible assumption) (fun _ => ?_)
      clear hK K
      try simp only [List.getElem_toArray, List.getElem_cons_succ, List.getElem_cons_zero, Act.put, List.setIfInBounds_toArray, List.set_cons_zero, List.set_cons_succ]
      have hA3 := (Chg.refl [] w2).alloc (.cells #[.int .u64 0, .int .u64 0, .slice none 0 0, .slice none 0 0, .int .i64 0] 52)
      have hb3 : Blk (w2.alloc (.cells #[.int .u64 0, .int .u64 0, .slice none 0 0, .slice none 0 0, .int .i64 0] 52)) w2.heap.size 52 #[.int .u64 0, .int .u64 0, .slice none 0 0, .slice none 0 0, .int .i64 0] := Blk.new _ _ _
      have hS3 : (fun W : World => Blk W w.heap.size 24 #[.int .u64 ka, .int .u64 kb]) (w2.alloc (.cells #[.int .u64 0, .int .u64 0, .slice none 0 0, .slice none 0 0, .int .i64 0] 52)) := hS2.chg hA3 (by simp)
      have hpl := h1.sl p (by simp)
      have hhl := h1.sl hp (by simp)
      have h42 := h4.size
      have h5 := (h1.less (N' := wb.heap.size) (by omega)).chg0 hA3
      have hc5 := (hCd.trans h4).trans hA3
      refine wpAnyH_ready (rs := [8]) (by kernel_rfl) (by simp) (AllReadyH.cons rfl (fun K hK => ?_) AllReadyH.nil)
      go_simp
      refine hK.out _ _ (by with_reducible assumption) (fun _ => ?_)
      clear hK K
      try simp only [List.getElem_toArray, List.getElem_cons_succ, List.getElem_cons_zero, Act.put, List.setIfInBounds_toArray, List.set_cons_zero, List.set_cons_succ]
      refine wpAnyH_take (i := 9) (v := ?_) rfl (by kernel_rfl) (by kernel_rfl) (by kernel_rfl) (fun _ _ _ h => h) (yields_pure (by rfl) (fun w => ?_)) (by with_reducible assumption) ?_
      rotate_left
      · (go_simp <;> with_reducible rfl)
      try simp only [List.getElem_toArray, List.getElem_cons_succ, List.getElem_cons_zero, Act.put, List.setIfInBounds_toArray, List.set_cons_zero, List.set_cons_succ]
      refine wpAnyH_ready (rs := [10]) (by kernel_rfl) (by simp) (AllReadyH.cons rfl (fun K hK => ?_) AllReadyH.nil)
      refine step_store_blk rfl 52 (.tmp 8) (.tmp 26) rfl hb3 rfl rfl rfl (by kernel_rfl) rfl ?_
      intro w4 hb4 hc4
      have hS4 : (fun W : World => Blk W w.heap.size 24 #[.int .u64 ka, .int .u64 kb]) w4 := hS3.chg hc4 (by simp; omega)
      refine hK.out _ _ (by with_reducible assumption) (fun _ => ?_)
      clear hK K
      try simp only [List.getElem_toArray, List.getElem_cons_succ, List.getElem_cons_zero, Act.put, List.setIfInBounds_toArray, List.set_cons_zero, List.set_cons_succ]
      refine wpAnyH_done (by kernel_rfl) ?_ _
      refine NoPanic.normal ?_
      have HM : Hid (Made wb w4 ka kb (.pointer (some ⟨p, 0, none⟩)) (.pointer (some ⟨w2.heap.size, 0, none⟩))) := Lib.hid ⟨p, hp, w2.heap.size, rfl, rfl, _, _, _, _, _, init_sq h5 (by omega) (by omega) hb3 rfl (by omega) (by omega) (by omega) hc5 hb4 hc4⟩
      clear hS0 hS2 hS3 hS4 HSR HSC0 HSC1 h1 h2 h3 h4 h5 hc5 hb3 hb4 hc4 hA3 hCd HS
      go_wp2_with fail
      go_meet
      exact HM
    · go_simp
      have hA3 := (Chg.refl [] w1).alloc (.cells #[.int .u64 0, .int .u64 0, .slice none 0 0, .slice none 0 0, .int .i64 0] 52)
      have hb3 : Blk (w1.alloc (.cells #[.int .u64 0, .int .u64 0, .slice none 0 0, .slice none 0 0, .int .i64 0] 52)) w1.heap.size 52 #[.int .u64 0, .int .u64 0, .slice none 0 0, .slice none 0 0, .int .i64 0] := Blk.new _ _ _
      have hS3 : (fun W : World => Blk W w.heap.size 24 #[.int .u64 ka, .int .u64 kb]) (w1.alloc (.cells #[.int .u64 0, .int .u64 0, .slice none 0 0, .slice none 0 0, .int .i64 0] 52)) := hS0.chg hA3 (by simp)
      have hz3 : (w1.alloc (.cells #[.int .u64 0, .int .u64 0, .slice none 0 0, .slice none 0 0, .int .i64 0] 52)).heap.size = w1.heap.size + 1 := by simp
      refine hK.out _ _ (by with_reducible assumption) (fun _ => ?_)
      clear hK K
      try simp only [List.getElem_toArray, List.getElem_cons_succ, List.getElem_cons_zero, Act.put, List.setIfInBounds_toArray, List.set_cons_zero, List.set_cons_succ]
      refine wpAnyH_ready (rs := [1]) (by kernel_rfl) (by simp) (AllReadyH.cons rfl (fun K hK => ?_) AllReadyH.nil)
      go_simp
      refine (newP_any ka kb _).mono ?_
      rintro e w2 ⟨p, hp, rfl, h1, h2, h3, h4⟩
      have hS2 : (fun W : World => Blk W w.heap.size 24 #[.int .u64 ka, .int .u64 kb]) w2 := hS3.chg h4 (by simp)
      refine hK.out _ _ (by with_reducible assumption) (fun _ => ?_)
      clear hK K
      try simp only [List.getElem_toArray, List.getElem_cons_succ, List.getElem_cons_zero, Act.put, List.setIfInBounds_toArray, List.set_cons_zero, List.set_cons_succ]
      have h5 := (h1.less (N' := wb.heap.size) (by omega))
      have hc5 := (hCd.trans hA3).trans h4
      have hb5 := hb3.chg h4 (by simp)
      rw [hzd] at hb5
      refine wpAnyH_take (i := 9) (v := ?_) rfl (by kernel_rfl) (by kernel_rfl) (by kernel_rfl) (fun _ _ _ h => h) (yields_pure (by rfl) (fun w => ?_)) (by with_reducible assumption) ?_
      rotate_left
      · (go_simp <;> with_reducible rfl)
      try simp only [List.getElem_toArray, List.getElem_cons_succ, List.getElem_cons_zero, Act.put, List.setIfInBounds_toArray, List.set_cons_zero, List.set_cons_succ]
      refine wpAnyH_ready (rs := [10]) (by kernel_rfl) (by simp) (AllReadyH.cons rfl (fun K hK => ?_) AllReadyH.nil)
      refine step_store_blk rfl 52 (.tmp 8) (.tmp 26) rfl hb5 rfl rfl rfl (by kernel_rfl) rfl ?_
      intro w4 hb4 hc4
      have hS4 : (fun W : World => Blk W w.heap.size 24 #[.int .u64 ka, .int .u64 kb]) w4 := hS2.chg hc4 (by simp; omega)
      refine hK.out _ _ (by with_reducible assumption) (fun _ => ?_)
      clear hK K
      try simp only [List.getElem_toArray, List.getElem_cons_succ, List.getElem_cons_zero, Act.put, List.setIfInBounds_toArray, List.set_cons_zero, List.set_cons_succ]
      refine wpAnyH_done (by kernel_rfl) ?_ _
      refine NoPanic.normal ?_
      have HM : Hid (Made wb w4 ka kb (.pointer (some ⟨p, 0, none⟩)) (.pointer (some ⟨wb.heap.size, 0, none⟩))) := Lib.hid ⟨p, hp, wb.heap.size, rfl, rfl, _, _, _, _, _, init_sq h5 (by omega) (by omega) hb5 rfl (by omega) (by omega) (by omega) hc5 hb4 hc4⟩
      clear hS0 hS2 hS3 hS4 HSR HSC0 HSC1 h1 h2 h3 h4 h5 hc5 hb3 hb4 hb5 hc4 hA3 hCd HS
      go_wp2_with fail
      go_meet
      exact HM
  case rest =>
    obtain ⟨p, hp, Q, rfl, rfl, hst⟩ := hcut.out
    have HST := Lib.hid hst
    clear hst hcut HB
    go_wp2_with fail
    go_loopw [9, 10] (fun nv iv wr => ∃ (k : Nat) (now : Int), k ≤ cl.length ∧ k ≤ 30 ∧ iv = .int .i64 k ∧ nv = .int .i64 now ∧ Hid (StE wb wr p hp Q ka kb k now)) (fun _ iv _ => 30 - (intOf iv).toNat)
    case atStart => exact ⟨0, 0, by omega, by omega, rfl, rfl, HST⟩
    case round =>
      obtain ⟨k, now, hkl, hk30, rfl, rfl, HT⟩ := hrel
      clear HST
      by_cases hlt : k < cl.length ∧ k < 30
      · obtain ⟨hlt, hlt30⟩ := hlt
        have hcn : (k : Int) < (cl.length : Int) := by omega
        have hcn30 : (k : Int) < 30 := by omega
        obtain ⟨s, S, lvR, vvR, esR, hs⟩ := HT.out
        obtain ⟨x, hx, hxn, hxl⟩ := HX.out k hlt
        obtain ⟨b, o, c', hv, hcap, c0, c1, c2, c3⟩ := HS.out wr hs.chg k x hx
        simp only [Value.slice.injEq, true_and] at hv
        obtain ⟨rfl, rfl⟩ := hv
        have hbw : b < wb.heap.size := by
          obtain ⟨b', o', cc', hv', _, e0, _⟩ := HS.out wb (Chg.refl _ _) k x hx
          simp only [Value.slice.injEq, Option.some.injEq, Addr.mk.injEq, and_true, true_and] at hv'
          have := World.block_lt_of_cell? wb _ e0
          simp only at this
          omega
        have HN2 : Hid (wb.cell? ⟨b, o + k * 4 + 2, none⟩ = some (.int .i64 x.node)) := Lib.hid (by
          obtain ⟨b', o', cc', hv', _, _, _, e2, _⟩ := HS.out wb (Chg.refl _ _) k x hx
          simp only [Value.slice.injEq, Option.some.injEq, Addr.mk.injEq, and_true, true_and] at hv'
          obtain ⟨⟨rfl, rfl⟩, _⟩ := hv'
          exact e2)
        obtain ⟨kd, lt, nd, wt⟩ := x
        simp only at c0 c1 c2 c3 hxn hxl HN2
        have hxl2 : -9223372036854775808 ≤ lt ∧ lt ≤ 9223372036854775807 := hxl
        have hnow := hs.tick
        have HSS := Lib.hid hs
        have HXN := Lib.hid hxn
        clear HS hx hs HT hxl hxn HX
        go_upto_region 8 with fail
        go_cut [9] (fun sv wx => sv = .int .i64 (now + laterF lt) ∧ wr = wx)
        case first =>
          have HL : Hid (laterF lt = min (max lt 0) 1000) := Lib.hid rfl
          have hw64 : ∀ y : Int, 0 ≤ y → y ≤ 1000 → IntKind.i64.wrap (now + y) = now + y := fun y h1 h2 => by rw [IntKind.wrap_i64]; omega
          have hlw := hw64 (laterF lt) (laterF_le lt).1 (laterF_le lt).2
          clear HSS hw64
          generalize laterF lt = q at *
          go_wp2_with fail
          go_meet
          exact ⟨by rw [HL.out], rfl⟩
        case rest =>
          obtain ⟨rfl, rfl⟩ := hcut
          have FR := Lib.hid (fun W (hW : Chg [] wr W) E hE => ref_st HSS.out hW (by omega) ⟨kd, lt, nd, wt⟩ E hE)
          have FD := Lib.hid (fun (w3 : World) (lv' vv' : Value) (es' : List Ve) hc hb hl' hv' => do_sq (w3 := w3) (lv' := lv') (vv' := vv') (es' := es') HSS.out (by omega) ⟨kd, lt, nd, wt⟩ HXN.out hc hb hl' hv')
          obtain ⟨r, hr⟩ : ∃ r, chP ka kb (now + laterF lt) s (howO ⟨kd, lt, nd, wt⟩ s.L) = r := ⟨_, rfl⟩
          simp only [hr] at FR FD
          obtain ⟨lq, hlq⟩ : ∃ q, laterF lt = q := ⟨_, rfl⟩
          simp only [hlq] at FR FD ⊢
          clear hr hlq
          obtain ⟨Al, cl2, el⟩ := Sl.form HSS.out.rl.1
          obtain ⟨Av, cv, ev⟩ := Sl.form HSS.out.rvs.1
          have hQb := HSS.out.blk
          have hQlt := hQb.lt
          rw [el, ev] at hQb
          simp only [el, ev] at FR
          go_upto_region 9 with fail
          go_cut [11, 12] (fun s11 s12 wx => Hid (RefD wr wx Q S ka kb r s11 s12))
          case first =>
            have hS0 : (fun W : World => Chg [] wr W) wr.drew := (Chg.refl [] wr).drew
            have HSP : ∀ W : World, (fun W : World => Chg [] wr W) W → W.rangeAt Q 0 (#[.int .u64 ka, .int .u64 kb, .slice Al s.L.length cl2, .slice Av esR.length cv, .int .i64 s.last] : Array Value).toList := fun W h => (hQb.chg h (by simp)).rangeQ
            have HSO : ∀ W : World, (fun W : World => Chg [] wr W) W → W.rangeAt b (o + k * 4) (#[.int .i64 kd, .int .i64 lt, .int .i64 nd, .int .i64 wt] : Array Value).toList := fun W h j y hj => by
              have d0 := h.cell c0 (by simp)
              have d1 := h.cell c1 (by simp)
              have d2 := h.cell c2 (by simp)
              have d3 := h.cell c3 (by simp)
              match j, hj with
              | 0, hj => simp at hj; subst hj; exact d0
              | 1, hj => simp at hj; subst hj; exact d1
              | 2, hj => simp at hj; subst hj; exact d2
              | 3, hj => simp at hj; subst hj; exact d3
            clear HSS FD HXN c0 c1 c2 c3
            refine wp_region_noPanic ?_
            refine wp_region_held_drew (S := fun W : World => Chg [] wr W) (by kernel_rfl) hS0 (fun _ => ?_)
            have hzd : wr.drew.heap.size = wr.heap.size := rfl
            refine wpAnyH_take (i := 1) (v := ?_) rfl (by kernel_rfl) (by kernel_rfl) (by kernel_rfl) (fun _ _ _ h => h) (yields_pure (by rfl) (fun w => ?_)) (by with_reducible assumption) ?_
            rotate_left
            · (go_simp <;> with_reducible rfl)
            try simp only [List.getElem_toArray, List.getElem_cons_succ, List.getElem_cons_zero, Act.put, List.setIfInBounds_toArray, List.set_cons_zero, List.set_cons_succ]
            refine wpAnyH_take (i := 2) (v := ?_) rfl (by kernel_rfl) (by kernel_rfl) (by kernel_rfl) (fun _ _ _ h => h) (yields_pure (by rfl) (fun w => ?_)) (by with_reducible assumption) ?_
            rotate_left
            · (go_simp <;> with_reducible rfl)
            try simp only [List.getElem_toArray, List.getElem_cons_succ, List.getElem_cons_zero, Act.put, List.setIfInBounds_toArray, List.set_cons_zero, List.set_cons_succ]
            refine wpAnyH_take (i := 3) (v := ?_) rfl (by kernel_rfl) (by kernel_rfl) (by kernel_rfl) (fun _ _ _ h => h) (yields_pure (by rfl) (fun w => ?_)) (by with_reducible assumption) ?_
            rotate_left
            · (go_simp <;> with_reducible rfl)
            try simp only [List.getElem_toArray, List.getElem_cons_succ, List.getElem_cons_zero, Act.put, List.setIfInBounds_toArray, List.set_cons_zero, List.set_cons_succ]
            refine wpAnyH_take (i := 4) (v := ?_) rfl (by kernel_rfl) (by kernel_rfl) (by kernel_rfl) (fun _ _ _ h => h) (yields_pure (by rfl) (fun w => ?_)) (by with_reducible assumption) ?_
            rotate_left
            · (go_simp <;> with_reducible rfl)
            try simp only [List.getElem_toArray, List.getElem_cons_succ, List.getElem_cons_zero, Act.put, List.setIfInBounds_toArray, List.set_cons_zero, List.set_cons_succ]
            refine wpAnyH_take (i := 0) rfl (by kernel_rfl) (by kernel_rfl) (by kernel_rfl) (fun _ _ _ h => h) (yields_row (by rfl) 52 (.tmp 8) rfl Q 0 rfl (#[.int .u64 ka, .int .u64 kb, .slice Al s.L.length cl2, .slice Av esR.length cv, .int .i64 s.last]) _ HSP Tryz.underlying52 rfl (by kernel_rfl)) (by with_reducible assumption) ?_
            try simp only [List.getElem_toArray, List.getElem_cons_succ, List.getElem_cons_zero, Act.put, List.setIfInBounds_toArray, List.set_cons_zero, List.set_cons_succ]
            refine wpAnyH_take (i := 5) rfl (by kernel_rfl) (by kernel_rfl) (by kernel_rfl) (fun _ _ _ h => h) (yields_row (by rfl) 29 (.tmp 53) rfl b (o + k * 4) rfl (#[.int .i64 kd, .int .i64 lt, .int .i64 nd, .int .i64 wt]) _ HSO Tryz.underlying29 rfl (by kernel_rfl)) (by with_reducible assumption) ?_
            try simp only [List.getElem_toArray, List.getElem_cons_succ, List.getElem_cons_zero, Act.put, List.setIfInBounds_toArray, List.set_cons_zero, List.set_cons_succ]
            refine wpAnyH_ready (rs := [6, 10]) (by kernel_rfl) (by simp) (AllReadyH.cons rfl (fun K hK => ?_) (AllReadyH.cons rfl (fun K hK => ?_) AllReadyH.nil))
            · go_simp
              refine (FR.out _ hS0 [] (by simp)).mono ?_
              rintro e w2 ⟨lv3, vv3, es3, rfl, h3a, h3b, hc2⟩
              obtain ⟨A3, n3, c3, rfl⟩ : ∃ A n c, lv3 = .slice A n c := ⟨_, _, _, (Sl.form h3a.1).choose_spec.choose_spec⟩
              obtain ⟨A4, n4, c4, rfl⟩ : ∃ A n c, vv3 = .slice A n c := ⟨_, _, _, (Sl.form h3b.1).choose_spec.choose_spec⟩
              have hS2 : (fun W : World => Chg [] wr W) w2 := hS0.trans hc2
              refine hK.out _ _ (by with_reducible assumption) (fun _ => ?_)
              clear hK K
              try simp only [List.getElem_toArray, List.getElem_cons_succ, List.getElem_cons_zero, Act.put, List.setIfInBounds_toArray, List.set_cons_zero, List.set_cons_succ]
              refine wpAnyH_take (i := 7) (v := ?_) rfl (by kernel_rfl) (by kernel_rfl) (by kernel_rfl) (fun _ _ _ h => h) (yields_pure (by rfl) (fun w => ?_)) (by with_reducible assumption) ?_
              rotate_left
              · (go_simp <;> with_reducible rfl)
              try simp only [List.getElem_toArray, List.getElem_cons_succ, List.getElem_cons_zero, Act.put, List.setIfInBounds_toArray, List.set_cons_zero, List.set_cons_succ]
              refine wpAnyH_take (i := 8) (v := ?_) rfl (by kernel_rfl) (by kernel_rfl) (by kernel_rfl) (fun _ _ _ h => h) (yields_pure (by rfl) (fun w => ?_)) (by with_reducible assumption) ?_
              rotate_left
              · (go_simp <;> with_reducible rfl)
              try simp only [List.getElem_toArray, List.getElem_cons_succ, List.getElem_cons_zero, Act.put, List.setIfInBounds_toArray, List.set_cons_zero, List.set_cons_succ]
              refine wpAnyH_take (i := 9) (v := ?_) rfl (by kernel_rfl) (by kernel_rfl) (by kernel_rfl) (fun _ _ _ h => h) (yields_pure (by rfl) (fun w => ?_)) (by with_reducible assumption) ?_
              rotate_left
              · (go_simp <;> with_reducible rfl)
              try simp only [List.getElem_toArray, List.getElem_cons_succ, List.getElem_cons_zero, Act.put, List.setIfInBounds_toArray, List.set_cons_zero, List.set_cons_succ]
              have hA3 := (Chg.refl [] w2).alloc (.cells #[.int .u64 0, .int .u64 0, .slice none 0 0, .slice none 0 0, .int .i64 0] 52)
              have hb3 : Blk (w2.alloc (.cells #[.int .u64 0, .int .u64 0, .slice none 0 0, .slice none 0 0, .int .i64 0] 52)) w2.heap.size 52 #[.int .u64 0, .int .u64 0, .slice none 0 0, .slice none 0 0, .int .i64 0] := Blk.new _ _ _
              have hS3 : (fun W : World => Chg [] wr W) (w2.alloc (.cells #[.int .u64 0, .int .u64 0, .slice none 0 0, .slice none 0 0, .int .i64 0] 52)) := hS2.trans hA3
              have hwz := hS2.size
              refine wpAnyH_ready (rs := [10]) (by kernel_rfl) (by simp) (AllReadyH.cons rfl (fun K hK => ?_) AllReadyH.nil)
              go_simp
              refine hK.out _ _ (by with_reducible assumption) (fun _ => ?_)
              clear hK K
              try simp only [List.getElem_toArray, List.getElem_cons_succ, List.getElem_cons_zero, Act.put, List.setIfInBounds_toArray, List.set_cons_zero, List.set_cons_succ]
              refine wpAnyH_ready (rs := [11]) (by kernel_rfl) (by simp) (AllReadyH.cons rfl (fun K hK => ?_) AllReadyH.nil)
              refine step_store_blk rfl 52 (.tmp 11) (.tmp 56) rfl hb3 rfl rfl rfl (by kernel_rfl) rfl ?_
              intro w4 hb4 hc4
              have hc04 : Chg [] wr w4 := hS3.trans' hc4 (fun x hx => .inr (by simp at hx; subst hx; omega))
              have hS4 : (fun W : World => Chg [] wr W) w4 := hc04
              refine hK.out _ _ (by with_reducible assumption) (fun _ => ?_)
              clear hK K
              try simp only [List.getElem_toArray, List.getElem_cons_succ, List.getElem_cons_zero, Act.put, List.setIfInBounds_toArray, List.set_cons_zero, List.set_cons_succ]
              refine wpAnyH_take (i := 12) (v := ?_) rfl (by kernel_rfl) (by kernel_rfl) (by kernel_rfl) (fun _ _ _ h => h) (yields_pure (by rfl) (fun w => ?_)) (by with_reducible assumption) ?_
              rotate_left
              · (go_simp <;> with_reducible rfl)
              try simp only [List.getElem_toArray, List.getElem_cons_succ, List.getElem_cons_zero, Act.put, List.setIfInBounds_toArray, List.set_cons_zero, List.set_cons_succ]
              refine wpAnyH_done (by kernel_rfl) ?_ _
              refine NoPanic.normal ?_
              have HRD : Hid (RefD wr w4 Q S ka kb r (.pointer (some ⟨w2.heap.size, 0, none⟩)) (.int .i64 r.1)) := Lib.hid ⟨w2.heap.size, _, _, es3, rfl, rfl, hb4, ((h3a.ext hA3 (Nat.le_refl _)).chgS (hc4.more (by simp)) (fun x hx => .inl (List.mem_cons_of_mem _ hx))), ((h3b.ext hA3 (Nat.le_refl _)).chgS (hc4.more (by simp)) (fun x hx => .inl (List.mem_cons_of_mem _ hx))), hc04, by omega⟩
              clear HSP HSO hQb hb4 hc4 h3a h3b hc04
              go_wp2_with fail
              go_meet
              exact HRD
            · go_simp
              have hS3 : (fun W : World => Chg [] wr W) (wr.alloc (.cells #[.int .u64 0, .int .u64 0, .slice none 0 0, .slice none 0 0, .int .i64 0] 52)).drew := ((Chg.refl [] wr).alloc _).drew
              have hb3 : Blk (wr.alloc (.cells #[.int .u64 0, .int .u64 0, .slice none 0 0, .slice none 0 0, .int .i64 0] 52)).drew wr.heap.size 52 #[.int .u64 0, .int .u64 0, .slice none 0 0, .slice none 0 0, .int .i64 0] := (Blk.new wr _ _).drew
              have hz3 : (wr.alloc (.cells #[.int .u64 0, .int .u64 0, .slice none 0 0, .slice none 0 0, .int .i64 0] 52)).drew.heap.size = wr.heap.size + 1 := by show (wr.alloc (.cells #[.int .u64 0, .int .u64 0, .slice none 0 0, .slice none 0 0, .int .i64 0] 52)).heap.size = _; simp
              refine hK.out _ _ (by with_reducible assumption) (fun _ => ?_)
              clear hK K
              try simp only [List.getElem_toArray, List.getElem_cons_succ, List.getElem_cons_zero, Act.put, List.setIfInBounds_toArray, List.set_cons_zero, List.set_cons_succ]
              refine wpAnyH_ready (rs := [6]) (by kernel_rfl) (by simp) (AllReadyH.cons rfl (fun K hK => ?_) AllReadyH.nil)
              go_simp
              refine (FR.out _ hS3 [wr.heap.size] (by intro x hx; simp at hx; subst hx; omega)).mono ?_
              rintro e w2 ⟨lv3, vv3, es3, rfl, h3a, h3b, hc2⟩
              obtain ⟨A3, n3, c3, rfl⟩ : ∃ A n c, lv3 = .slice A n c := ⟨_, _, _, (Sl.form h3a.1).choose_spec.choose_spec⟩
              obtain ⟨A4, n4, c4, rfl⟩ : ∃ A n c, vv3 = .slice A n c := ⟨_, _, _, (Sl.form h3b.1).choose_spec.choose_spec⟩
              have hS2 : (fun W : World => Chg [] wr W) w2 := hS3.trans hc2
              have hb5 := hb3.chg hc2 (by simp)
              refine hK.out _ _ (by with_reducible assumption) (fun _ => ?_)
              clear hK K
              try simp only [List.getElem_toArray, List.getElem_cons_succ, List.getElem_cons_zero, Act.put, List.setIfInBounds_toArray, List.set_cons_zero, List.set_cons_succ]
              refine wpAnyH_take (i := 7) (v := ?_) rfl (by kernel_rfl) (by kernel_rfl) (by kernel_rfl) (fun _ _ _ h => h) (yields_pure (by rfl) (fun w => ?_)) (by with_reducible assumption) ?_
              rotate_left
              · (go_simp <;> with_reducible rfl)
              try simp only [List.getElem_toArray, List.getElem_cons_succ, List.getElem_cons_zero, Act.put, List.setIfInBounds_toArray, List.set_cons_zero, List.set_cons_succ]
              refine wpAnyH_take (i := 8) (v := ?_) rfl (by kernel_rfl) (by kernel_rfl) (by kernel_rfl) (fun _ _ _ h => h) (yields_pure (by rfl) (fun w => ?_)) (by with_reducible assumption) ?_
              rotate_left
              · (go_simp <;> with_reducible rfl)
              try simp only [List.getElem_toArray, List.getElem_cons_succ, List.getElem_cons_zero, Act.put, List.setIfInBounds_toArray, List.set_cons_zero, List.set_cons_succ]
              refine wpAnyH_take (i := 9) (v := ?_) rfl (by kernel_rfl) (by kernel_rfl) (by kernel_rfl) (fun _ _ _ h => h) (yields_pure (by rfl) (fun w => ?_)) (by with_reducible assumption) ?_
              rotate_left
              · (go_simp <;> with_reducible rfl)
              try simp only [List.getElem_toArray, List.getElem_cons_succ, List.getElem_cons_zero, Act.put, List.setIfInBounds_toArray, List.set_cons_zero, List.set_cons_succ]
              refine wpAnyH_ready (rs := [11]) (by kernel_rfl) (by simp) (AllReadyH.cons rfl (fun K hK => ?_) AllReadyH.nil)
              refine step_store_blk rfl 52 (.tmp 11) (.tmp 56) rfl hb5 rfl rfl rfl (by kernel_rfl) rfl ?_
              intro w4 hb4 hc4
              have hc04 : Chg [] wr w4 := hS2.trans' hc4 (fun x hx => .inr (by simp at hx; subst hx; omega))
              have hS4 : (fun W : World => Chg [] wr W) w4 := hc04
              refine hK.out _ _ (by with_reducible assumption) (fun _ => ?_)
              clear hK K
              try simp only [List.getElem_toArray, List.getElem_cons_succ, List.getElem_cons_zero, Act.put, List.setIfInBounds_toArray, List.set_cons_zero, List.set_cons_succ]
              refine wpAnyH_take (i := 12) (v := ?_) rfl (by kernel_rfl) (by kernel_rfl) (by kernel_rfl) (fun _ _ _ h => h) (yields_pure (by rfl) (fun w => ?_)) (by with_reducible assumption) ?_
              rotate_left
              · (go_simp <;> with_reducible rfl)
              try simp only [List.getElem_toArray, List.getElem_cons_succ, List.getElem_cons_zero, Act.put, List.setIfInBounds_toArray, List.set_cons_zero, List.set_cons_succ]
              refine wpAnyH_done (by kernel_rfl) ?_ _
              refine NoPanic.normal ?_
              have HRD : Hid (RefD wr w4 Q S ka kb r (.pointer (some ⟨wr.heap.size, 0, none⟩)) (.int .i64 r.1)) := Lib.hid ⟨wr.heap.size, _, _, es3, rfl, rfl, hb4, (h3a.chgS (hc4.more (by simp)) (fun x hx => .inl (List.mem_append_right _ hx))), (h3b.chgS (hc4.more (by simp)) (fun x hx => .inl (List.mem_append_right _ hx))), hc04, by omega⟩
              clear HSP HSO hQb hb4 hc4 h3a h3b hc04
              go_wp2_with fail
              go_meet
              exact HRD
          case rest =>
            obtain ⟨b2, lv3, vv3, es3, rfl, rfl, hbB, hRB, hRV, hcw, hne⟩ := hcut.out
            have hQ2 := hQb.chg hcw (by simp)
            have hqb := HSS.out.qb
            have hRP := hbB.rangeQ
            obtain ⟨A3, n3, k3, e3⟩ : ∃ A n c, lv3 = .slice A n c := ⟨_, _, _, (Sl.form hRB.1).choose_spec.choose_spec⟩
            obtain ⟨A4, n4, k4, e4⟩ : ∃ A n c, vv3 = .slice A n c := ⟨_, _, _, (Sl.form hRV.1).choose_spec.choose_spec⟩
            subst e3 e4
            have HC0 := Lib.hid (And.intro hRB (And.intro hRV (And.intro hcw (And.intro c0 (And.intro c1 (And.intro c2 c3))))))
            clear hRB hRV hcw c0 c1 c2 c3 hcut FR hQb el ev
            go_upto_region 11 with (first
              | (refine wpList_row 52 (.tmp 11) rfl rfl b2 0 rfl (arrP ka kb (.slice A3 n3 k3) (.slice A4 n4 k4) r.2.last) _ hRP Tryz.underlying52 rfl (by kernel_rfl) ?_)
              | (refine wpList_store_blk rfl 52 _ _ rfl rfl hQ2 rfl rfl rfl (by kernel_rfl) rfl ?_; intro w5 hB5 hc5)
              | fail)
            obtain ⟨hRB, hRV, hcw, c0, c1, c2, c3⟩ := HC0.out
            have hcr5 : Chg [Q] wr w5 := (hcw.more (by simp)).trans hc5
            have hnb : b ∉ [Q] := by simp; omega
            have d0 := hcr5.cell c0 hnb
            have d1 := hcr5.cell c1 hnb
            have d2 := hcr5.cell c2 hnb
            have d3 := hcr5.cell c3 hnb
            have FD5 := Lib.hid (FD.out w5 _ _ es3 hcr5 hB5 (hRB.chgS (hc5.more (by simp)) (fun x hx => .inl hx)) (hRV.chgS (hc5.more (by simp)) (fun x hx => .inl hx)))
            have HD5 := Lib.hid (And.intro d0 (And.intro d1 (And.intro d2 d3)))
            have HCW := Lib.hid (HSS.out.chg.trans' hcr5 (fun x hx => .inr (by simp at hx; subst hx; exact hqb)))
            clear hRB hRV hcw c0 c1 c2 c3 HC0 FD HSS hc5 hB5 hRP hQ2 hbB hcr5
            go_wp2_with fail
            refine FD5.out.mono ?_
            rintro e w6 ⟨rfl, S', hs6⟩
            have HS6 := Lib.hid hs6
            have HFA := Lib.hid (fun W (hW : Chg [] w6 W) => all_st (hs6.chg0 hW).st)
            have HFP := Lib.hid (fun W (hW : Chg [] w6 W) => pairs_st (hs6.chg0 hW).st u hu)
            have HFQ := Lib.hid (fun W (hW : Chg [] w6 W) => pairs20_any (hs6.chg0 hW).rvs.1 (hs6.chg0 hW).rvs.2.2 hs6.ok.vs u hu)
            have hQ6 := hs6.blk
            clear hs6 FD5 d0 d1 d2 d3 HD5
            obtain ⟨er, s'⟩ := r
            simp only at HS6 HFA HFP HFQ hQ6 ⊢
            go_upto_region 12 with fail
            go_cut [14, 15, 16] (fun a14 a15 a16 wx => Hid (Told w6 wx s'.L s'.V u a14 a15 a16))
            case first =>
              have hS0 : (fun W : World => Chg [] w6 W) w6.drew := (Chg.refl [] w6).drew
              have HSQ : ∀ W : World, (fun W : World => Chg [] w6 W) W → W.cell? ⟨Q, 3, none⟩ = some (.slice A4 n4 k4) := fun W h => (hQ6.chg h (by simp)).cell 3
              clear HS6 HCW HXN HN2
              refine wp_region_noPanic ?_
              refine wp_region_held_drew (S := fun W : World => Chg [] w6 W) (by kernel_rfl) hS0 (fun _ => ?_)
              refine wpAnyH_take (i := 0) (v := ?_) rfl (by kernel_rfl) (by kernel_rfl) (by kernel_rfl) (fun _ _ _ h => h) (yields_pure (by rfl) (fun w => ?_)) (by with_reducible assumption) ?_
              rotate_left
              · (go_simp <;> with_reducible rfl)
              try simp only [List.getElem_toArray, List.getElem_cons_succ, List.getElem_cons_zero, Act.put, List.setIfInBounds_toArray, List.set_cons_zero, List.set_cons_succ]
              refine wpAnyH_take (i := 2) (v := ?_) rfl (by kernel_rfl) (by kernel_rfl) (by kernel_rfl) (fun _ _ _ h => h) (yields_pure (by rfl) (fun w => ?_)) (by with_reducible assumption) ?_
              rotate_left
              · (go_simp <;> with_reducible rfl)
              try simp only [List.getElem_toArray, List.getElem_cons_succ, List.getElem_cons_zero, Act.put, List.setIfInBounds_toArray, List.set_cons_zero, List.set_cons_succ]
              refine wpAnyH_take (i := 3) (v := ?_) rfl (by kernel_rfl) (by kernel_rfl) (by kernel_rfl) (fun _ _ _ h => h) (yields_pure (by rfl) (fun w => ?_)) (by with_reducible assumption) ?_
              rotate_left
              · (go_simp <;> with_reducible rfl)
              try simp only [List.getElem_toArray, List.getElem_cons_succ, List.getElem_cons_zero, Act.put, List.setIfInBounds_toArray, List.set_cons_zero, List.set_cons_succ]
              refine wpAnyH_take (i := 5) (v := ?_) rfl (by kernel_rfl) (by kernel_rfl) (by kernel_rfl) (fun _ _ _ h => h) (yields_pure (by rfl) (fun w => ?_)) (by with_reducible assumption) ?_
              rotate_left
              · (go_simp <;> with_reducible rfl)
              try simp only [List.getElem_toArray, List.getElem_cons_succ, List.getElem_cons_zero, Act.put, List.setIfInBounds_toArray, List.set_cons_zero, List.set_cons_succ]
              refine wpAnyH_take (i := 7) (v := ?_) rfl (by kernel_rfl) (by kernel_rfl) (by kernel_rfl) (fun _ _ _ h => h) (yields_pure (by rfl) (fun w => ?_)) (by with_reducible assumption) ?_
              rotate_left
              · (go_simp <;> with_reducible rfl)
              try simp only [List.getElem_toArray, List.getElem_cons_succ, List.getElem_cons_zero, Act.put, List.setIfInBounds_toArray, List.set_cons_zero, List.set_cons_succ]
              refine wpAnyH_take (i := 6) rfl (by kernel_rfl) (by kernel_rfl) (by kernel_rfl) (fun _ _ _ h => h) (yields_cell (by rfl) 50 (.tmp 71) rfl Q 3 rfl (.slice A4 n4 k4) _ HSQ Tryz.underlying50 rfl) (by with_reducible assumption) ?_
              try simp only [List.getElem_toArray, List.getElem_cons_succ, List.getElem_cons_zero, Act.put, List.setIfInBounds_toArray, List.set_cons_zero, List.set_cons_succ]
              refine wpAnyH_ready (rs := [1]) (by kernel_rfl) (by simp) (AllReadyH.cons rfl (fun K hK => ?_) AllReadyH.nil)
              go_simp
              refine (HFA.out _ hS0).mono ?_
              rintro e w7 ⟨va, rfl, hva, hc7⟩
              have hS7 : (fun W : World => Chg [] w6 W) w7 := hS0.trans hc7
              refine hK.out _ _ (by with_reducible assumption) (fun _ => ?_)
              clear hK K
              try simp only [List.getElem_toArray, List.getElem_cons_succ, List.getElem_cons_zero, Act.put, List.setIfInBounds_toArray, List.set_cons_zero, List.set_cons_succ]
              refine wpAnyH_ready (rs := [4]) (by kernel_rfl) (by simp) (AllReadyH.cons rfl (fun K hK => ?_) AllReadyH.nil)
              go_simp
              refine (HFP.out _ hS7).mono ?_
              rintro e w8 ⟨vp, rfl, hvp, hc8⟩
              have hS8 : (fun W : World => Chg [] w6 W) w8 := hS7.trans hc8
              refine hK.out _ _ (by with_reducible assumption) (fun _ => ?_)
              clear hK K
              try simp only [List.getElem_toArray, List.getElem_cons_succ, List.getElem_cons_zero, Act.put, List.setIfInBounds_toArray, List.set_cons_zero, List.set_cons_succ]
              refine wpAnyH_ready (rs := [8]) (by kernel_rfl) (by simp) (AllReadyH.cons rfl (fun K hK => ?_) AllReadyH.nil)
              go_simp
              refine (HFQ.out _ hS8).mono ?_
              rintro e w9 ⟨vq, rfl, hvq, hc9⟩
              have hS9 : (fun W : World => Chg [] w6 W) w9 := hS8.trans hc9
              refine hK.out _ _ (by with_reducible assumption) (fun _ => ?_)
              clear hK K
              try simp only [List.getElem_toArray, List.getElem_cons_succ, List.getElem_cons_zero, Act.put, List.setIfInBounds_toArray, List.set_cons_zero, List.set_cons_succ]
              refine wpAnyH_take (i := 9) (v := ?_) rfl (by kernel_rfl) (by kernel_rfl) (by kernel_rfl) (fun _ _ _ h => h) (yields_pure (by rfl) (fun w => ?_)) (by with_reducible assumption) ?_
              rotate_left
              · (go_simp <;> with_reducible rfl)
              try simp only [List.getElem_toArray, List.getElem_cons_succ, List.getElem_cons_zero, Act.put, List.setIfInBounds_toArray, List.set_cons_zero, List.set_cons_succ]
              refine wpAnyH_take (i := 10) (v := ?_) rfl (by kernel_rfl) (by kernel_rfl) (by kernel_rfl) (fun _ _ _ h => h) (yields_pure (by rfl) (fun w => ?_)) (by with_reducible assumption) ?_
              rotate_left
              · (go_simp <;> with_reducible rfl)
              try simp only [List.getElem_toArray, List.getElem_cons_succ, List.getElem_cons_zero, Act.put, List.setIfInBounds_toArray, List.set_cons_zero, List.set_cons_succ]
              refine wpAnyH_take (i := 11) (v := ?_) rfl (by kernel_rfl) (by kernel_rfl) (by kernel_rfl) (fun _ _ _ h => h) (yields_pure (by rfl) (fun w => ?_)) (by with_reducible assumption) ?_
              rotate_left
              · (go_simp <;> with_reducible rfl)
              try simp only [List.getElem_toArray, List.getElem_cons_succ, List.getElem_cons_zero, Act.put, List.setIfInBounds_toArray, List.set_cons_zero, List.set_cons_succ]
              refine wpAnyH_done (by kernel_rfl) ?_ _
              refine NoPanic.normal ?_
              have HTO : Hid (Told w6 w9 s'.L s'.V u va vp vq) := Lib.hid ⟨SlB.chg0 (Sl.less (B' := 0) hva (Nat.zero_le _)) (hc8.trans hc9), Sl.chg0 (Sl.less (B' := 0) hvp (Nat.zero_le _)) hc9, Sl.less (B' := 0) hvq (Nat.zero_le _), hS9⟩
              clear HFA HFP HFQ hva hvp hvq hS0 HSQ hQ6 hS7 hS8 hS9 hc7 hc8 hc9
              go_wp2_with fail
              go_meet
              exact HTO
            case rest =>
              obtain ⟨hva, hvp, hvq, hcw⟩ := hcut.out
              have hs7 := HS6.out.chg0 hcw
              have HN3 := hs7.chg.cell HN2.out (by simp)
              have hlL := hs7.ok.bk.len
              have hlV := hs7.ok.vs.len
              have HFV := Lib.hid (fun W (hW : Chg [] wc W) => versions_st (hs7.chg0 hW).st)
              have HFH := Lib.hid (fun W (hW : Chg [] wc W) => has_st (hs7.chg0 hW).st nd HXN.out)
              have HFF := Lib.hid (fun W (hW : Chg [] wc W) => find35_any (hs7.chg0 hW).rl.1 hs7.ok.bk nd)
              have HFC := Lib.hid (fun W (hW : Chg [] wc W) va' es' (h1 : Sl W 0 4 va' es'.length (es'.flatMap encV)) (h2 : VesR W [] es' s'.V) => vers35_any (va := va') ⟨es', h1, h2⟩ ⟨es3, (hs7.chg0 hW).rvs.1, (hs7.chg0 hW).rvs.2.2.step (Chg.refl _ _) (by simp)⟩ hs7.ok.vs)
              have hQ7 := hs7.blk
              have hfi : decide (0 ≤ findI s'.L nd) = decide (nd ∈ nodesB s'.L) := by
                unfold findI
                by_cases hm : nd ∈ nodesB s'.L
                · rw [if_pos hm]; simp [hm]
                · rw [if_neg hm]; simp [hm]
              obtain ⟨Aa, ca, ea⟩ := Sl.form hva
              obtain ⟨Ap, cp, ep⟩ := Sl.form hvp
              obtain ⟨Aq, cq, eq⟩ := Sl.form hvq
              obtain ⟨An, kn, en⟩ := Sl.form hs7.rl.1
              obtain ⟨Am, km, em⟩ := Sl.form hs7.rvs.1
              have hel := hs7.rvs.2.2.1
              subst ea ep eq
              simp only [Value.slice.injEq] at en em
              obtain ⟨rfl, rfl, rfl⟩ := en
              obtain ⟨rfl, rfl, rfl⟩ := em
              have HVA := Lib.hid hva
              have HVP := Lib.hid hvp
              have HVQ := Lib.hid hvq
              have HS7 := Lib.hid hs7
              clear hva hvp hvq hs7 HFA HFP HFQ hQ6 HS6 hcut HCW hcw
              generalize decide (nd ∈ nodesB s'.L) = hb at *
              generalize findI s'.L nd = fi at *
              go_upto_region 13 with fail
              go_cut [119] (fun sv wx => sv = .bool false ∧ Hid (Chg [] wc wx))
              case first =>
                have hS0 : (fun W : World => Chg [] wc W) wc.drew := (Chg.refl [] wc).drew
                have HS2 : ∀ W : World, (fun W : World => Chg [] wc W) W → W.cell? ⟨Q, 2, none⟩ = some (.slice A3 s'.L.length k3) := fun W h => (hQ7.chg h (by simp)).cell 2
                have HS3 : ∀ W : World, (fun W : World => Chg [] wc W) W → W.cell? ⟨Q, 3, none⟩ = some (.slice A4 es3.length k4) := fun W h => (hQ7.chg h (by simp)).cell 3
                have HSN : ∀ W : World, (fun W : World => Chg [] wc W) W → W.cell? ⟨b, o + k * 4 + 2, none⟩ = some (.int .i64 nd) := fun W h => h.cell HN3 (by simp)
                clear HVA HVP HVQ HS7 hel HXN HN2 HN3 hQ7
                refine wp_region_noPanic ?_
                refine wp_region_held_drew (S := fun W : World => Chg [] wc W) (by kernel_rfl) hS0 (fun _ => ?_)
                refine wpAnyH_take (i := 0) (v := ?_) rfl (by kernel_rfl) (by kernel_rfl) (by kernel_rfl) (fun _ _ _ h => h) (yields_pure (by rfl) (fun w => ?_)) (by with_reducible assumption) ?_
                rotate_left
                · (go_simp <;> with_reducible rfl)
                try simp only [List.getElem_toArray, List.getElem_cons_succ, List.getElem_cons_zero, Act.put, List.setIfInBounds_toArray, List.set_cons_zero, List.set_cons_succ]
                refine wpAnyH_take (i := 1) (v := ?_) rfl (by kernel_rfl) (by kernel_rfl) (by kernel_rfl) (fun _ _ _ h => h) (yields_pure (by rfl) (fun w => ?_)) (by with_reducible assumption) ?_
                rotate_left
                · (go_simp <;> with_reducible rfl)
                try simp only [List.getElem_toArray, List.getElem_cons_succ, List.getElem_cons_zero, Act.put, List.setIfInBounds_toArray, List.set_cons_zero, List.set_cons_succ]
                refine wpAnyH_take (i := 2) (v := ?_) rfl (by kernel_rfl) (by kernel_rfl) (by kernel_rfl) (fun _ _ _ h => h) (yields_pure (by rfl) (fun w => ?_)) (by with_reducible assumption) ?_
                rotate_left
                · (go_simp <;> with_reducible rfl)
                try simp only [List.getElem_toArray, List.getElem_cons_succ, List.getElem_cons_zero, Act.put, List.setIfInBounds_toArray, List.set_cons_zero, List.set_cons_succ]
                refine wpAnyH_take (i := 3) (v := ?_) rfl (by kernel_rfl) (by kernel_rfl) (by kernel_rfl) (fun _ _ _ h => h) (yields_pure (by rfl) (fun w => ?_)) (by with_reducible assumption) ?_
                rotate_left
                · (go_simp <;> with_reducible rfl)
                try simp only [List.getElem_toArray, List.getElem_cons_succ, List.getElem_cons_zero, Act.put, List.setIfInBounds_toArray, List.set_cons_zero, List.set_cons_succ]
                refine wpAnyH_take (i := 4) (v := ?_) rfl (by kernel_rfl) (by kernel_rfl) (by kernel_rfl) (fun _ _ _ h => h) (yields_pure (by rfl) (fun w => ?_)) (by with_reducible assumption) ?_
                rotate_left
                · (go_simp <;> with_reducible rfl)
                try simp only [List.getElem_toArray, List.getElem_cons_succ, List.getElem_cons_zero, Act.put, List.setIfInBounds_toArray, List.set_cons_zero, List.set_cons_succ]
                refine wpAnyH_take (i := 5) (v := ?_) rfl (by kernel_rfl) (by kernel_rfl) (by kernel_rfl) (fun _ _ _ h => h) (yields_pure (by rfl) (fun w => ?_)) (by with_reducible assumption) ?_
                rotate_left
                · (go_simp <;> with_reducible rfl)
                try simp only [List.getElem_toArray, List.getElem_cons_succ, List.getElem_cons_zero, Act.put, List.setIfInBounds_toArray, List.set_cons_zero, List.set_cons_succ]
                refine wpAnyH_take (i := 6) (v := ?_) rfl (by kernel_rfl) (by kernel_rfl) (by kernel_rfl) (fun _ _ _ h => h) (yields_pure (by rfl) (fun w => ?_)) (by with_reducible assumption) ?_
                rotate_left
                · (go_simp <;> with_reducible rfl)
                try simp only [List.getElem_toArray, List.getElem_cons_succ, List.getElem_cons_zero, Act.put, List.setIfInBounds_toArray, List.set_cons_zero, List.set_cons_succ]
                refine wpAnyH_take (i := 7) rfl (by kernel_rfl) (by kernel_rfl) (by kernel_rfl) (fun _ _ _ h => h) (yields_cell (by rfl) 49 (.tmp 81) rfl Q 2 rfl (.slice A3 s'.L.length k3) _ HS2 Tryz.underlying49 rfl) (by with_reducible assumption) ?_
                try simp only [List.getElem_toArray, List.getElem_cons_succ, List.getElem_cons_zero, Act.put, List.setIfInBounds_toArray, List.set_cons_zero, List.set_cons_succ]
                refine wpAnyH_take (i := 8) (v := ?_) rfl (by kernel_rfl) (by kernel_rfl) (by kernel_rfl) (fun _ _ _ h => h) (yields_pure (by rfl) (fun w => ?_)) (by with_reducible assumption) ?_
                rotate_left
                · (go_simp <;> with_reducible rfl)
                try simp only [List.getElem_toArray, List.getElem_cons_succ, List.getElem_cons_zero, Act.put, List.setIfInBounds_toArray, List.set_cons_zero, List.set_cons_succ]
                refine wpAnyH_take (i := 9) (v := ?_) rfl (by kernel_rfl) (by kernel_rfl) (by kernel_rfl) (fun _ _ _ h => h) (yields_pure (by rfl) (fun w => ?_)) (by with_reducible assumption) ?_
                rotate_left
                · (go_simp <;> with_reducible rfl)
                try simp only [List.getElem_toArray, List.getElem_cons_succ, List.getElem_cons_zero, Act.put, List.setIfInBounds_toArray, List.set_cons_zero, List.set_cons_succ]
                refine wpAnyH_take (i := 10) (v := ?_) rfl (by kernel_rfl) (by kernel_rfl) (by kernel_rfl) (fun _ _ _ h => h) (yields_pure (by rfl) (fun w => ?_)) (by with_reducible assumption) ?_
                rotate_left
                · (go_simp <;> with_reducible rfl)
                try simp only [List.getElem_toArray, List.getElem_cons_succ, List.getElem_cons_zero, Act.put, List.setIfInBounds_toArray, List.set_cons_zero, List.set_cons_succ]
                refine wpAnyH_take (i := 11) (v := ?_) rfl (by kernel_rfl) (by kernel_rfl) (by kernel_rfl) (fun _ _ _ h => h) (yields_pure (by rfl) (fun w => ?_)) (by with_reducible assumption) ?_
                rotate_left
                · (go_simp <;> with_reducible rfl)
                try simp only [List.getElem_toArray, List.getElem_cons_succ, List.getElem_cons_zero, Act.put, List.setIfInBounds_toArray, List.set_cons_zero, List.set_cons_succ]
                refine wpAnyH_take (i := 12) (v := ?_) rfl (by kernel_rfl) (by kernel_rfl) (by kernel_rfl) (fun _ _ _ h => h) (yields_pure (by rfl) (fun w => ?_)) (by with_reducible assumption) ?_
                rotate_left
                · (go_simp <;> with_reducible rfl)
                try simp only [List.getElem_toArray, List.getElem_cons_succ, List.getElem_cons_zero, Act.put, List.setIfInBounds_toArray, List.set_cons_zero, List.set_cons_succ]
                refine wpAnyH_take (i := 14) (v := ?_) rfl (by kernel_rfl) (by kernel_rfl) (by kernel_rfl) (fun _ _ _ h => h) (yields_pure (by rfl) (fun w => ?_)) (by with_reducible assumption) ?_
                rotate_left
                · (go_simp <;> with_reducible rfl)
                try simp only [List.getElem_toArray, List.getElem_cons_succ, List.getElem_cons_zero, Act.put, List.setIfInBounds_toArray, List.set_cons_zero, List.set_cons_succ]
                refine wpAnyH_take (i := 15) rfl (by kernel_rfl) (by kernel_rfl) (by kernel_rfl) (fun _ _ _ h => h) (yields_cell (by rfl) 50 (.tmp 89) rfl Q 3 rfl (.slice A4 es3.length k4) _ HS3 Tryz.underlying50 rfl) (by with_reducible assumption) ?_
                try simp only [List.getElem_toArray, List.getElem_cons_succ, List.getElem_cons_zero, Act.put, List.setIfInBounds_toArray, List.set_cons_zero, List.set_cons_succ]
                refine wpAnyH_ready (rs := [13]) (by kernel_rfl) (by simp) (AllReadyH.cons rfl (fun K hK => ?_) AllReadyH.nil)
                go_simp
                refine (HFV.out _ hS0).mono ?_
                rintro e w7 ⟨v7, es7, rfl, h7a, h7b, hc7⟩
                have hS7 : (fun W : World => Chg [] wc W) w7 := hS0.trans hc7
                have HF7 := Lib.hid (HFC.out w7 hS7 v7 es7 h7a h7b)
                obtain ⟨A7, k7, e7⟩ := Sl.form h7a
                subst e7
                clear h7a h7b HFV HFC
                refine hK.out _ _ (by with_reducible assumption) (fun _ => ?_)
                clear hK K
                try simp only [List.getElem_toArray, List.getElem_cons_succ, List.getElem_cons_zero, Act.put, List.setIfInBounds_toArray, List.set_cons_zero, List.set_cons_succ]
                refine wpAnyH_ready (rs := [16]) (by kernel_rfl) (by simp) (AllReadyH.cons rfl (fun K hK => ?_) AllReadyH.nil)
                go_simp
                refine HF7.out.mono ?_
                rintro e w8 ⟨rfl, hc8⟩
                have hS8 : (fun W : World => Chg [] wc W) w8 := hS7.trans hc8
                refine hK.out _ _ (by with_reducible assumption) (fun _ => ?_)
                clear hK K
                try simp only [List.getElem_toArray, List.getElem_cons_succ, List.getElem_cons_zero, Act.put, List.setIfInBounds_toArray, List.set_cons_zero, List.set_cons_succ]
                refine wpAnyH_take (i := 17) (v := ?_) rfl (by kernel_rfl) (by kernel_rfl) (by kernel_rfl) (fun _ _ _ h => h) (yields_pure (by rfl) (fun w => ?_)) (by with_reducible assumption) ?_
                rotate_left
                · (go_simp <;> with_reducible rfl)
                try simp only [List.getElem_toArray, List.getElem_cons_succ, List.getElem_cons_zero, Act.put, List.setIfInBounds_toArray, List.set_cons_zero, List.set_cons_succ]
                refine wpAnyH_take (i := 18) (v := ?_) rfl (by kernel_rfl) (by kernel_rfl) (by kernel_rfl) (fun _ _ _ h => h) (yields_pure (by rfl) (fun w => ?_)) (by with_reducible assumption) ?_
                rotate_left
                · (go_simp <;> with_reducible rfl)
                try simp only [List.getElem_toArray, List.getElem_cons_succ, List.getElem_cons_zero, Act.put, List.setIfInBounds_toArray, List.set_cons_zero, List.set_cons_succ]
                refine wpAnyH_take (i := 19) (v := ?_) rfl (by kernel_rfl) (by kernel_rfl) (by kernel_rfl) (fun _ _ _ h => h) (yields_pure (by rfl) (fun w => ?_)) (by with_reducible assumption) ?_
                rotate_left
                · (go_simp <;> with_reducible rfl)
                try simp only [List.getElem_toArray, List.getElem_cons_succ, List.getElem_cons_zero, Act.put, List.setIfInBounds_toArray, List.set_cons_zero, List.set_cons_succ]
                refine wpAnyH_take (i := 20) (v := ?_) rfl (by kernel_rfl) (by kernel_rfl) (by kernel_rfl) (fun _ _ _ h => h) (yields_pure (by rfl) (fun w => ?_)) (by with_reducible assumption) ?_
                rotate_left
                · (go_simp <;> with_reducible rfl)
                try simp only [List.getElem_toArray, List.getElem_cons_succ, List.getElem_cons_zero, Act.put, List.setIfInBounds_toArray, List.set_cons_zero, List.set_cons_succ]
                refine wpAnyH_take (i := 21) (v := ?_) rfl (by kernel_rfl) (by kernel_rfl) (by kernel_rfl) (fun _ _ _ h => h) (yields_pure (by rfl) (fun w => ?_)) (by with_reducible assumption) ?_
                rotate_left
                · (go_simp <;> with_reducible rfl)
                try simp only [List.getElem_toArray, List.getElem_cons_succ, List.getElem_cons_zero, Act.put, List.setIfInBounds_toArray, List.set_cons_zero, List.set_cons_succ]
                refine wpAnyH_take (i := 22) (v := ?_) rfl (by kernel_rfl) (by kernel_rfl) (by kernel_rfl) (fun _ _ _ h => h) (yields_pure (by rfl) (fun w => ?_)) (by with_reducible assumption) ?_
                rotate_left
                · (go_simp <;> with_reducible rfl)
                try simp only [List.getElem_toArray, List.getElem_cons_succ, List.getElem_cons_zero, Act.put, List.setIfInBounds_toArray, List.set_cons_zero, List.set_cons_succ]
                refine wpAnyH_take (i := 23) (v := ?_) rfl (by kernel_rfl) (by kernel_rfl) (by kernel_rfl) (fun _ _ _ h => h) (yields_pure (by rfl) (fun w => ?_)) (by with_reducible assumption) ?_
                rotate_left
                · (go_simp <;> with_reducible rfl)
                try simp only [List.getElem_toArray, List.getElem_cons_succ, List.getElem_cons_zero, Act.put, List.setIfInBounds_toArray, List.set_cons_zero, List.set_cons_succ]
                refine wpAnyH_take (i := 24) (v := ?_) rfl (by kernel_rfl) (by kernel_rfl) (by kernel_rfl) (fun _ _ _ h => h) (yields_pure (by rfl) (fun w => ?_)) (by with_reducible assumption) ?_
                rotate_left
                · (go_simp <;> with_reducible rfl)
                try simp only [List.getElem_toArray, List.getElem_cons_succ, List.getElem_cons_zero, Act.put, List.setIfInBounds_toArray, List.set_cons_zero, List.set_cons_succ]
                refine wpAnyH_take (i := 25) (v := ?_) rfl (by kernel_rfl) (by kernel_rfl) (by kernel_rfl) (fun _ _ _ h => h) (yields_pure (by rfl) (fun w => ?_)) (by with_reducible assumption) ?_
                rotate_left
                · (go_simp <;> with_reducible rfl)
                try simp only [List.getElem_toArray, List.getElem_cons_succ, List.getElem_cons_zero, Act.put, List.setIfInBounds_toArray, List.set_cons_zero, List.set_cons_succ]
                refine wpAnyH_take (i := 26) (v := ?_) rfl (by kernel_rfl) (by kernel_rfl) (by kernel_rfl) (fun _ _ _ h => h) (yields_pure (by rfl) (fun w => ?_)) (by with_reducible assumption) ?_
                rotate_left
                · (go_simp <;> with_reducible rfl)
                try simp only [List.getElem_toArray, List.getElem_cons_succ, List.getElem_cons_zero, Act.put, List.setIfInBounds_toArray, List.set_cons_zero, List.set_cons_succ]
                refine wpAnyH_take (i := 27) (v := ?_) rfl (by kernel_rfl) (by kernel_rfl) (by kernel_rfl) (fun _ _ _ h => h) (yields_pure (by rfl) (fun w => ?_)) (by with_reducible assumption) ?_
                rotate_left
                · (go_simp <;> with_reducible rfl)
                try simp only [List.getElem_toArray, List.getElem_cons_succ, List.getElem_cons_zero, Act.put, List.setIfInBounds_toArray, List.set_cons_zero, List.set_cons_succ]
                refine wpAnyH_take (i := 28) (v := ?_) rfl (by kernel_rfl) (by kernel_rfl) (by kernel_rfl) (fun _ _ _ h => h) (yields_pure (by rfl) (fun w => ?_)) (by with_reducible assumption) ?_
                rotate_left
                · (go_simp <;> with_reducible rfl)
                try simp only [List.getElem_toArray, List.getElem_cons_succ, List.getElem_cons_zero, Act.put, List.setIfInBounds_toArray, List.set_cons_zero, List.set_cons_succ]
                refine wpAnyH_take (i := 29) (v := ?_) rfl (by kernel_rfl) (by kernel_rfl) (by kernel_rfl) (fun _ _ _ h => h) (yields_pure (by rfl) (fun w => ?_)) (by with_reducible assumption) ?_
                rotate_left
                · (go_simp <;> with_reducible rfl)
                try simp only [List.getElem_toArray, List.getElem_cons_succ, List.getElem_cons_zero, Act.put, List.setIfInBounds_toArray, List.set_cons_zero, List.set_cons_succ]
                refine wpAnyH_take (i := 30) (v := ?_) rfl (by kernel_rfl) (by kernel_rfl) (by kernel_rfl) (fun _ _ _ h => h) (yields_pure (by rfl) (fun w => ?_)) (by with_reducible assumption) ?_
                rotate_left
                · (go_simp <;> with_reducible rfl)
                try simp only [List.getElem_toArray, List.getElem_cons_succ, List.getElem_cons_zero, Act.put, List.setIfInBounds_toArray, List.set_cons_zero, List.set_cons_succ]
                refine wpAnyH_take (i := 31) (v := ?_) rfl (by kernel_rfl) (by kernel_rfl) (by kernel_rfl) (fun _ _ _ h => h) (yields_pure (by rfl) (fun w => ?_)) (by with_reducible assumption) ?_
                rotate_left
                · (go_simp <;> with_reducible rfl)
                try simp only [List.getElem_toArray, List.getElem_cons_succ, List.getElem_cons_zero, Act.put, List.setIfInBounds_toArray, List.set_cons_zero, List.set_cons_succ]
                refine wpAnyH_take (i := 32) rfl (by kernel_rfl) (by kernel_rfl) (by kernel_rfl) (fun _ _ _ h => h) (yields_cell (by rfl) 3 (.tmp 106) rfl b (o + k * 4 + 2) rfl (.int .i64 nd) _ HSN Tryz.underlying3 rfl) (by with_reducible assumption) ?_
                try simp only [List.getElem_toArray, List.getElem_cons_succ, List.getElem_cons_zero, Act.put, List.setIfInBounds_toArray, List.set_cons_zero, List.set_cons_succ]
                refine wpAnyH_take (i := 34) (v := ?_) rfl (by kernel_rfl) (by kernel_rfl) (by kernel_rfl) (fun _ _ _ h => h) (yields_pure (by rfl) (fun w => ?_)) (by with_reducible assumption) ?_
                rotate_left
                · (go_simp <;> with_reducible rfl)
                try simp only [List.getElem_toArray, List.getElem_cons_succ, List.getElem_cons_zero, Act.put, List.setIfInBounds_toArray, List.set_cons_zero, List.set_cons_succ]
                refine wpAnyH_take (i := 35) rfl (by kernel_rfl) (by kernel_rfl) (by kernel_rfl) (fun _ _ _ h => h) (yields_cell (by rfl) 49 (.tmp 109) rfl Q 2 rfl (.slice A3 s'.L.length k3) _ HS2 Tryz.underlying49 rfl) (by with_reducible assumption) ?_
                try simp only [List.getElem_toArray, List.getElem_cons_succ, List.getElem_cons_zero, Act.put, List.setIfInBounds_toArray, List.set_cons_zero, List.set_cons_succ]
                refine wpAnyH_take (i := 36) (v := ?_) rfl (by kernel_rfl) (by kernel_rfl) (by kernel_rfl) (fun _ _ _ h => h) (yields_pure (by rfl) (fun w => ?_)) (by with_reducible assumption) ?_
                rotate_left
                · (go_simp <;> with_reducible rfl)
                try simp only [List.getElem_toArray, List.getElem_cons_succ, List.getElem_cons_zero, Act.put, List.setIfInBounds_toArray, List.set_cons_zero, List.set_cons_succ]
                refine wpAnyH_take (i := 37) (v := ?_) rfl (by kernel_rfl) (by kernel_rfl) (by kernel_rfl) (fun _ _ _ h => h) (yields_pure (by rfl) (fun w => ?_)) (by with_reducible assumption) ?_
                rotate_left
                · (go_simp <;> with_reducible rfl)
                try simp only [List.getElem_toArray, List.getElem_cons_succ, List.getElem_cons_zero, Act.put, List.setIfInBounds_toArray, List.set_cons_zero, List.set_cons_succ]
                refine wpAnyH_take (i := 38) (v := ?_) rfl (by kernel_rfl) (by kernel_rfl) (by kernel_rfl) (fun _ _ _ h => h) (yields_pure (by rfl) (fun w => ?_)) (by with_reducible assumption) ?_
                rotate_left
                · (go_simp <;> with_reducible rfl)
                try simp only [List.getElem_toArray, List.getElem_cons_succ, List.getElem_cons_zero, Act.put, List.setIfInBounds_toArray, List.set_cons_zero, List.set_cons_succ]
                refine wpAnyH_take (i := 39) (v := ?_) rfl (by kernel_rfl) (by kernel_rfl) (by kernel_rfl) (fun _ _ _ h => h) (yields_pure (by rfl) (fun w => ?_)) (by with_reducible assumption) ?_
                rotate_left
                · (go_simp <;> with_reducible rfl)
                try simp only [List.getElem_toArray, List.getElem_cons_succ, List.getElem_cons_zero, Act.put, List.setIfInBounds_toArray, List.set_cons_zero, List.set_cons_succ]
                refine wpAnyH_take (i := 40) rfl (by kernel_rfl) (by kernel_rfl) (by kernel_rfl) (fun _ _ _ h => h) (yields_cell (by rfl) 3 (.tmp 114) rfl b (o + k * 4 + 2) rfl (.int .i64 nd) _ HSN Tryz.underlying3 rfl) (by with_reducible assumption) ?_
                try simp only [List.getElem_toArray, List.getElem_cons_succ, List.getElem_cons_zero, Act.put, List.setIfInBounds_toArray, List.set_cons_zero, List.set_cons_succ]
                refine wpAnyH_ready (rs := [33]) (by kernel_rfl) (by simp) (AllReadyH.cons rfl (fun K hK => ?_) AllReadyH.nil)
                go_simp
                refine (HFH.out _ hS8).mono ?_
                rintro e w9 ⟨rfl, hc9⟩
                have hS9 : (fun W : World => Chg [] wc W) w9 := hS8.trans hc9
                refine hK.out _ _ (by with_reducible assumption) (fun _ => ?_)
                clear hK K
                try simp only [List.getElem_toArray, List.getElem_cons_succ, List.getElem_cons_zero, Act.put, List.setIfInBounds_toArray, List.set_cons_zero, List.set_cons_succ]
                refine wpAnyH_ready (rs := [41]) (by kernel_rfl) (by simp) (AllReadyH.cons rfl (fun K hK => ?_) AllReadyH.nil)
                go_simp
                refine (HFF.out _ hS9).mono ?_
                rintro e wz ⟨rfl, hcz⟩
                have hSz : (fun W : World => Chg [] wc W) wz := hS9.trans hcz
                refine hK.out _ _ (by with_reducible assumption) (fun _ => ?_)
                clear hK K
                try simp only [List.getElem_toArray, List.getElem_cons_succ, List.getElem_cons_zero, Act.put, List.setIfInBounds_toArray, List.set_cons_zero, List.set_cons_succ]
                refine wpAnyH_take (i := 42) (v := ?_) rfl (by kernel_rfl) (by kernel_rfl) (by kernel_rfl) (fun _ _ _ h => h) (yields_pure (by rfl) (fun w => ?_)) (by with_reducible assumption) ?_
                rotate_left
                · (go_simp <;> with_reducible rfl)
                try simp only [List.getElem_toArray, List.getElem_cons_succ, List.getElem_cons_zero, Act.put, List.setIfInBounds_toArray, List.set_cons_zero, List.set_cons_succ]
                refine wpAnyH_take (i := 43) (v := ?_) rfl (by kernel_rfl) (by kernel_rfl) (by kernel_rfl) (fun _ _ _ h => h) (yields_pure (by rfl) (fun w => ?_)) (by with_reducible assumption) ?_
                rotate_left
                · (go_simp <;> with_reducible rfl)
                try simp only [List.getElem_toArray, List.getElem_cons_succ, List.getElem_cons_zero, Act.put, List.setIfInBounds_toArray, List.set_cons_zero, List.set_cons_succ]
                refine wpAnyH_take (i := 44) (v := ?_) rfl (by kernel_rfl) (by kernel_rfl) (by kernel_rfl) (fun _ _ _ h => h) (yields_pure (by rfl) (fun w => ?_)) (by with_reducible assumption) ?_
                rotate_left
                · (go_simp <;> with_reducible rfl)
                try simp only [List.getElem_toArray, List.getElem_cons_succ, List.getElem_cons_zero, Act.put, List.setIfInBounds_toArray, List.set_cons_zero, List.set_cons_succ]
                refine wpAnyH_done (by kernel_rfl) ?_ _
                refine NoPanic.normal ?_
                have HCZ := Lib.hid hSz
                clear HS2 HS3 HSN hS0 hS7 hS8 hS9 hSz hc7 hc8 hc9 hcz HF7 HFH HFF
                go_wp2_with fail
                go_meet
                exact ⟨rfl, HCZ⟩
              case rest =>
                obtain ⟨rfl, HCX⟩ := hcut
                have hs8 := HS7.out.chg0 HCX.out
                have HLA := Lib.hid (fun W (hW : Chg [] wc W) i x hx => SlB.at_ (SlB.chg0 (SlB.chg0 HVA.out HCX.out) hW) (i := i) (x := x) hx)
                have HLR := Lib.hid (fun W (hW : Chg [] wc W) i x hx => SlB.at_ (SlB.chg0 hs8.rl.1 hW) (i := i) (x := x) hx)
                have HXX : Hid (∀ i, i < s'.L.length → ∃ x, s'.L[i]? = some x ∧ okBk x) := Lib.hid fun i hi => ⟨_, List.getElem?_eq_getElem hi, okB_bk hs8.ok.bk _ (List.getElem_mem _)⟩
                have hQ8 := hs8.blk
                have HQC := Lib.hid (fun W (hW : Chg [] wc W) => (hQ8.chg hW (by simp)).cell 2)
                have HS8 := Lib.hid hs8
                clear hs8 HFV HFH HFF HFC HS7 hQ7 hQ8 HN3 HN2 HXN hfi HVA
                generalize hnl : s'.L.length = nl at *
                go_wp2_with fail
                go_loopw [17] (fun jv wx => ∃ (j : Nat), j ≤ nl ∧ jv = .int .i64 j ∧ Hid (Chg [] wc wx)) (fun jv _ => nl - (intOf jv).toNat)
                case atStart => exact ⟨0, by omega, rfl, Lib.hid (Chg.refl _ _)⟩
                case round =>
                  obtain ⟨j, hj, rfl, HCj⟩ := hrel
                  by_cases hjl : j < nl
                  · have hcj : (j : Int) < (nl : Int) := by omega
                    obtain ⟨y, hy, hyo⟩ := HXX.out j hjl
                    obtain ⟨ba, oa, cca, hva2, hcapa, d0, d1, d2, d3⟩ := HLA.out _ HCj.out j y hy
                    obtain ⟨br, orr, ccr, hvr2, hcapr, g0, g1, g2, g3⟩ := HLR.out _ HCj.out j y hy
                    have q2 := HQC.out _ HCj.out
                    simp only [hnl, Value.slice.injEq, true_and] at hva2 hvr2
                    obtain ⟨rfl, rfl⟩ := hva2
                    obtain ⟨rfl, rfl⟩ := hvr2
                    obtain ⟨y1, y2, y3, y4⟩ := y
                    have hEq := fun W => eq_bk W hyo hyo
                    simp only [decide_true] at hEq d0 d1 d2 d3 g0 g1 g2 g3
                    clear hy hyo HXX HLA HLR HQC HS8 HVP HVQ
                    go_upto_region 18 with fail
                    go_region
                    go_wp2_with fail
                    go_roundw
                    case rel => exact ⟨j + 1, by omega, by go_num, Lib.hid (Chg.drew HCj.out)⟩
                    case measure => simp [intOf] <;> omega
                  · obtain rfl : j = nl := by omega
                    have hcj : ¬ (j : Int) < (j : Int) := by omega
                    have HCP := Lib.hid (HCX.out.trans HCj.out)
                    have HS9 := Lib.hid (HS8.out.chg0 HCj.out)
                    have HPP := Lib.hid (fun W (hW : Chg [] wc W) i x hx => Sl.rec encP_len (by omega) (by rw [prV_len]; exact Sl.chg0 HVP.out (HCX.out.trans hW)) (l := prV s'.V u) (i := i) (x := x) hx)
                    have HPQ := Lib.hid (fun W (hW : Chg [] wc W) i x hx => Sl.rec encP_len (by omega) (by rw [prV_len]; exact Sl.chg0 HVQ.out (HCX.out.trans hW)) (l := prV s'.V u) (i := i) (x := x) hx)
                    have HPX : Hid (∀ i, i < s'.V.length → ∃ x, (prV s'.V u)[i]? = some x) := Lib.hid fun i hi => ⟨_, List.getElem?_eq_getElem (by rw [prV_len]; exact hi)⟩
                    have hpl : (prV s'.V u).length = s'.V.length := prV_len _ _
                    have HST : Hid (∀ W, Chg [] wr W → StE wb W p hp Q ka kb (k + 1) (now + lq)) := Lib.hid fun W hW => ⟨_, _, _, _, _, HS9.out.chg0 hW⟩
                    have HCR := HCj
                    clear HXX HLA HLR HQC HS8 HVP HVQ HS9 HCP hnl
                    generalize hnv : s'.V.length = nv at *
                    go_wp2_with fail
                    go_loopw [18] (fun jv wx => ∃ (i : Nat), i ≤ nv ∧ jv = .int .i64 i ∧ Hid (Chg [] wr wx)) (fun jv _ => nv - (intOf jv).toNat)
                    case atStart => exact ⟨0, by omega, rfl, Lib.hid (Chg.refl _ _)⟩
                    case round =>
                      obtain ⟨i, hi, rfl, HCi⟩ := hrel
                      by_cases hil : i < nv
                      · have hci : (i : Int) < (nv : Int) := by omega
                        obtain ⟨y, hy⟩ := HPX.out i hil
                        obtain ⟨ba, oa, cca, hva2, _, hcapa, qa⟩ := HPP.out _ (HCR.out.trans HCi.out) i y hy
                        obtain ⟨br, orr, ccr, hvr2, _, hcapr, qr⟩ := HPQ.out _ (HCR.out.trans HCi.out) i y hy
                        rw [hpl] at hva2 hvr2 hcapa hcapr
                        simp only [Value.slice.injEq, true_and] at hva2 hvr2
                        obtain ⟨rfl, rfl⟩ := hva2
                        obtain ⟨rfl, rfl⟩ := hvr2
                        have d0 := qa 0 (by omega)
                        have d1 := qa 1 (by omega)
                        have g0 := qr 0 (by omega)
                        have g1 := qr 1 (by omega)
                        rw [Nat.add_zero] at d0 g0
                        rw [← Nat.add_assoc] at d1 g1
                        obtain ⟨y1, y2⟩ := y
                        have d0' : wr.cell? ⟨ba, oa + i * 2, none⟩ = some (.int .i64 y1) := d0
                        have d1' : wr.cell? ⟨ba, oa + i * 2 + 1, none⟩ = some (.int .i64 y2) := d1
                        have g0' : wr.cell? ⟨br, orr + i * 2, none⟩ = some (.int .i64 y1) := g0
                        have g1' : wr.cell? ⟨br, orr + i * 2 + 1, none⟩ = some (.int .i64 y2) := g1
                        have hEq : ∀ W : World, (Op.equalIn 10000 62 (.agg #[.int .i64 y1, .int .i64 y2]) (.agg #[.int .i64 y1, .int .i64 y2])).run Tryz.prog W = .ok true W := fun W => eq_pd W 9998 y1 y2
                        clear d0 d1 g0 g1 qa qr hy HPP HPQ HPX HST hpl
                        go_upto_region 23 with fail
                        go_region
                        go_wp2_with fail
                        go_roundw
                        case rel => exact ⟨i + 1, by omega, by go_num, Lib.hid (Chg.drew HCi.out)⟩
                        case measure => simp [intOf] <;> omega
                      · obtain rfl : i = nv := by omega
                        have hci : ¬ (i : Int) < (i : Int) := by omega
                        have HSF := Lib.hid (HST.out _ HCi.out)
                        clear HPP HPQ HPX HST hpl
                        go_wp2_with fail
                        go_roundw
                        case rel => exact ⟨k + 1, now + lq, by omega, by omega, by go_num, rfl, HSF⟩
                        case measure => simp [intOf] <;> omega
      · have hcn : ¬ ((k : Int) < (cl.length : Int) ∧ (k : Int) < 30) := by omega
        obtain ⟨s, S, lvR, vvR, esR, hs⟩ := HT.out
        have HC := Lib.hid (HA.out.trans hs.chg)
        clear hs HT HX HS
        by_cases hlt0 : k < cl.length
        · have hk : k = 30 := by omega
          have hcn0 : (k : Int) < (cl.length : Int) := by omega
          have hcn30 : ¬ (k : Int) < 30 := by omega
          clear hcn hlt
          go_wp2_with fail
          refine (lives35_any _).mono ?_
          rintro e w9 ⟨rfl, hc9⟩
          have HC9 := Lib.hid (HC.out.trans hc9)
          clear hc9
          go_wp2_with fail
          go_ret
          exact ⟨rfl, HC9.out⟩
        · have hcn0 : ¬ (k : Int) < (cl.length : Int) := by omega
          clear hcn hlt
          go_wp2_with fail
          refine (lives35_any _).mono ?_
          rintro e w9 ⟨rfl, hc9⟩
          have HC9 := Lib.hid (HC.out.trans hc9)
          clear hc9
          go_wp2_with fail
          go_ret
          exact ⟨rfl, HC9.out⟩
end Go.Proofs.YtecblclpchndiaaGreat
