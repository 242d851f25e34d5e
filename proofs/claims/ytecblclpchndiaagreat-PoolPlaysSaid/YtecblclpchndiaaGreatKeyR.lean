/-
  WALKS over package harrierref15 (the document's keyed hash) and of harrierref01's Two and Four. Conditions: bytes that read as such, at most 1,000,000 of them.
-/
import Derived.Test.YtecblclpchndiaaGreatKeyV
set_option linter.unusedVariables false
set_option linter.unusedSimpArgs false
namespace Go.Proofs.YtecblclpchndiaaGreat
open Go.RowKit

/-- A cell of one's own row is written anew. -/
theorem own_set1 {w : World} {base n g cap : Nat} {e : TypeId} {xs : List Value} (h : w.ownsRow base e 1 (.slice (some ⟨g, 0, none⟩) n cap) n xs) {i : Nat} (hi : i < n) (u : Value) : (w.setCell ⟨g, i, none⟩ u).ownsRow base e 1 (.slice (some ⟨g, 0, none⟩) n cap) n (xs.set i u) := by
  obtain ⟨hl, h2⟩ := h
  rcases h2 with ⟨h0, _⟩ | ⟨g', cap', cur, hv, hg, hh, hn, hcap, hsz, htake⟩
  · cases h0
  · cases hv
    have hB : Blk w g e cur := hh
    refine ⟨by simpa using hl, .inr ⟨g, cap, cur.setIfInBounds i u, rfl, hg, hB.set_ i u, hn, hcap, by simpa using hsz, ?_⟩⟩
    simp only [Array.toList_setIfInBounds, Nat.mul_one] at htake ⊢
    rw [List.take_set, htake]
theorem own_frozen {w : World} {base n g cap : Nat} {e : TypeId} {size : Nat} {xs : List Value} (h : w.ownsRow base e size (.slice (some ⟨g, 0, none⟩) n cap) n xs) (i : Nat) : w.frozen? ⟨g, i, none⟩ = false := by
  obtain ⟨hl, h2⟩ := h
  rcases h2 with ⟨h0, _⟩ | ⟨g', cap', cur, hv, hg, hh, hn, hcap, hsz, htake⟩
  · cases h0
  · cases hv
    have hB : Blk w g e cur := hh
    exact hB.frozen i

theorem results_tmp4 {fn : Func} {t u v x : Tmp} (h : fn.results = #[.tmp t, .tmp u, .tmp v, .tmp x]) (tmps : Array Value) (P : Program) (w : World) :
    (results fn tmps).run P w = .ok (.tuple #[tmps.getD t undef, tmps.getD u undef, tmps.getD v undef, tmps.getD x undef]) w := by
  simp [results, h, go_sem]
set_option maxHeartbeats 400000 in
theorem left_any (x : Int) (k : Nat) (hk : k < 64) (w : World) : Calls Tryz.prog 102 #[.int .u64 x, .int .u64 k] w fun e w' => e = .returned (.int .u64 (rotS x k)) ∧ w = w' := by
  have hw2 : IntKind.u64.wrap (64 - (k : Int)) = ((64 - k : Nat) : Int) := by rw [← wrap_nat (x := 64 - k) (by omega)]; congr 1; omega
  have h1 : min k 64 = k := by omega
  have h2 : min (64 - k) 64 = 64 - k := by omega
  have hs1 : (k : Int).toNat = k := by simp
  go_enter Tryz.func102, Tryz.ntmps102
  go_wp2_with fail
  go_ret
  exact ⟨rfl, rfl⟩
set_option maxRecDepth 100000 in
set_option maxHeartbeats 1000000 in
theorem round15_any (v : W4) (w : World) : Calls Tryz.prog 95 #[.int .u64 v.a, .int .u64 v.b, .int .u64 v.c, .int .u64 v.d] w fun e w' => e = .returned (.tuple #[.int .u64 (roundW v).a, .int .u64 (roundW v).b, .int .u64 (roundW v).c, .int .u64 (roundW v).d]) ∧ w = w' := by
  have H1 := Lib.hid (fun x => left_any x 13 (by omega) w)
  have H2 := Lib.hid (fun x => left_any x 32 (by omega) w)
  have H3 := Lib.hid (fun x => left_any x 16 (by omega) w)
  have H4 := Lib.hid (fun x => left_any x 21 (by omega) w)
  have H5 := Lib.hid (fun x => left_any x 17 (by omega) w)
  obtain ⟨va, vb, vc, vd⟩ := v
  go_enter Tryz.func95, Tryz.ntmps95
  go_wp2_with fail
  refine (H1.out _).mono ?_
  rintro e w1 ⟨rfl, rfl⟩
  go_wp2_with fail
  refine (H2.out _).mono ?_
  rintro e w1 ⟨rfl, rfl⟩
  go_wp2_with fail
  refine (H3.out _).mono ?_
  rintro e w1 ⟨rfl, rfl⟩
  go_wp2_with fail
  refine (H4.out _).mono ?_
  rintro e w1 ⟨rfl, rfl⟩
  go_wp2_with fail
  refine (H5.out _).mono ?_
  rintro e w1 ⟨rfl, rfl⟩
  go_wp2_with fail
  refine (H2.out _).mono ?_
  rintro e w1 ⟨rfl, rfl⟩
  go_wp2_with fail
  exact bodyPost_ret (results_tmp4 rfl _ _ _) rfl ⟨rfl, rfl⟩

theorem elW : El Tryz.prog 138 22 (.int .u64 0) 1 8 := ⟨Tryz.underlying138, by kernel_rfl, rfl, by omega⟩
def wdV (x : Int) : Value := .int .u64 x
theorem wdV_one (l : List Int) : ∀ u ∈ l.map wdV, u.oneCell' = true := by
  intro u hu
  obtain ⟨x, _, rfl⟩ := List.mem_map.1 hu
  rfl
/-- Without the length: the words as they are read. -/
def rawS (l : List Nat) (i : Nat) : List Int := (List.range i).map fun i => ((wordS (bytesAt l i) : Nat) : Int)
theorem rawS_succ (l : List Nat) (i : Nat) : rawS l (i + 1) = rawS l i ++ [((wordS (bytesAt l i) : Nat) : Int)] := by simp [rawS, List.range_succ]
theorem rawS_len (l : List Nat) (i : Nat) : (rawS l i).length = i := by simp [rawS]
theorem rawS_end (l : List Nat) : (rawS l (l.length / 8 + 1)).set (l.length / 8) ((wordS (bytesAt l (l.length / 8)) + l.length % 256 * 72057594037927936 : Nat) : Int) = wordsS l := by
  rw [rawS_succ]
  unfold wordsS
  rw [List.set_append_right _ _ (by rw [rawS_len]; omega), rawS_len, Nat.sub_self]
  rfl
theorem bytesAt_lt {l : List Nat} (h : ∀ x ∈ l, x < 256) (i : Nat) : ∀ x ∈ bytesAt l i, x < 256 := fun x hx => h x (List.mem_of_mem_drop (List.mem_of_mem_take hx))
theorem bytesAt_drop_in {l : List Nat} {i q x : Nat} (hq : q < 8) (hx : l[8 * i + q]? = some x) : (bytesAt l i).drop q = x :: (bytesAt l i).drop (q + 1) := by
  have e : (bytesAt l i)[q]? = some x := by
    unfold bytesAt
    rw [List.getElem?_take, if_pos hq, List.getElem?_drop, hx]
  obtain ⟨hlt, hv⟩ := List.getElem?_eq_some_iff.1 e
  rw [List.drop_eq_getElem_cons hlt, hv]
theorem bytesAt_drop_out {l : List Nat} {i q : Nat} (h : l.length ≤ 8 * i + q) : (bytesAt l i).drop q = [] ∧ (bytesAt l i).drop (q + 1) = [] := by
  have e : (bytesAt l i).length ≤ q := by
    unfold bytesAt
    rw [List.length_take, List.length_drop]
    omega
  exact ⟨List.drop_eq_nil_of_le e, List.drop_eq_nil_of_le (by omega)⟩
theorem drop8 (l : List Nat) (i : Nat) : (bytesAt l i).drop 8 = [] := List.drop_eq_nil_of_le (by unfold bytesAt; rw [List.length_take]; omega)

set_option maxRecDepth 100000 in
set_option maxHeartbeats 2000000 in
theorem words_any {w : World} {B : Nat} {v : Value} {l : List Nat} (h : SlY w B v l) (hl : l.length ≤ 1000000) (hb : ∀ x ∈ l, x < 256) :
    Calls Tryz.prog 94 #[v] w fun e w' => ∃ v', e = .returned v' ∧ w'.ownsRow w.heap.size 22 1 v' (wordsS l).length ((wordsS l).map wdV) ∧ Chg [] w w' := by
  obtain ⟨A, c, rfl⟩ := Sl.form h
  have HS := Lib.hid (fun W (hW : Chg [] w W) i (hi : i < l.length) => Sl.at_ (h.chg0 hW) hi (by omega))
  have HB := Lib.hid hb
  have HE := Lib.hid (rawS_end l)
  have HWL := Lib.hid (wordsS_len l)
  clear h hb
  generalize hn : l.length = n at *
  have h0 : w.ownsRow w.heap.size 22 1 (.slice none 0 0) 0 ((rawS l 0).map wdV) := World.ownsRow_nil ..
  go_enter Tryz.func94, Tryz.ntmps94
  go_wp2_with fail
  have hqd : (n : Int) / 8 = ((n / 8 : Nat) : Int) := rfl
  have hqn : 8 * (n / 8) ≤ n ∧ n < 8 * (n / 8) + 8 := by omega
  generalize n / 8 = q at *
  go_loopw [3, 4] (fun ov iv wr => ∃ k : Nat, k ≤ q + 1 ∧ iv = .int .i64 k ∧ wr.ownsRow w.heap.size 22 1 ov k ((rawS l k).map wdV) ∧ Hid (Chg [] w wr)) (fun _ iv _ => q + 1 - (intOf iv).toNat)
  case atStart => exact ⟨0, by omega, rfl, h0, Lib.hid (Chg.refl _ _)⟩
  case round =>
    obtain ⟨k, hk, rfl, hrow, HC⟩ := hrel
    by_cases hlt : k ≤ q
    · have hcn : (k : Int) ≤ (q : Int) := by omega
      have HRS := Lib.hid (rawS_succ l k)
      have HD8 := Lib.hid (drop8 l k)
      have hw8 : IntKind.i64.wrap (8 * (k : Int)) = ((8 * k : Nat) : Int) := by rw [IntKind.wrap_i64]; omega
      go_wp2_with fail
      go_loopw [5, 6, 7] (fun wv jv _ wx => ∃ j : Nat, j ≤ 8 ∧ jv = .int .i64 ((j : Int) - 1) ∧ wv = .int .u64 ((wordS ((bytesAt l k).drop j) : Nat) : Int) ∧ wx = wr) (fun _ jv _ _ => (intOf jv + 1).toNat)
      case atStart => exact ⟨8, by omega, rfl, by rw [HD8.out]; rfl, rfl⟩
      case round =>
        obtain ⟨j, hj, rfl, rfl, rfl⟩ := hrel
        cases j with
        | zero =>
          have hj0 : ¬ (0 : Int) ≤ ((0 : Nat) : Int) - 1 := by omega
          have hcat : Sl (wr.alloc (.cells #[wdV ((wordS (bytesAt l k) : Nat) : Int)] 22)) 0 1 (.slice (some ⟨wr.heap.size, 0, none⟩) 1 1) 1 [wdV ((wordS (bytesAt l k) : Nat) : Int)] :=
            Sl.of_own (own_lit (base := 0) wr 22 1 1 #[wdV ((wordS (bytesAt l k) : Nat) : Int)] (Nat.zero_le _) (by simp [maxLen]) rfl)
          have hA := (Chg.refl [] wr).alloc (.cells #[wdV ((wordS (bytesAt l k) : Nat) : Int)] 22)
          have hrw := own_chg hrow hA (by simp)
          have hsz := HC.out.size
          have HI := Lib.hid (And.intro hcat (And.intro hA hrw))
          clear hcat hA hrw hrow
          rw [List.drop_zero]
          go_wp2_with (first
            | (at_builtin; refine wpList_app elW rfl (.tmp 36) (.tmp 38) rfl w.heap.size rfl HI.out.2.2 rfl HI.out.1 (by intro u hu; simp at hu; subst hu; rfl) (by unfold maxLen; omega) (by omega) (by simp; omega) ?_; intro v1 w1 hown1 hc1 hb1)
            | fail)
          have HR1 : Hid (w1.ownsRow w.heap.size 22 1 v1 (k + 1) ((rawS l (k + 1)).map wdV)) := Lib.hid (by rw [HRS.out, List.map_append]; exact hown1)
          have HC1 : Hid (Chg [] w w1) := Lib.hid ((HC.out.trans HI.out.2.1).trans' hc1 (fun x hx => .inr ((own_lt HI.out.2.2 x hx).1)))
          clear hown1 hc1 hb1 HI HC HRS
          go_wp2_with fail
          go_roundw
          case rel => exact ⟨k + 1, by omega, by go_num, HR1.out, HC1⟩
          case measure => simp [intOf]; omega
        | succ j =>
          have hj0 : (0 : Int) ≤ ((j + 1 : Nat) : Int) - 1 := by omega
          have hj1 : ((j + 1 : Nat) : Int) - 1 = (j : Int) := by omega
          rw [hj1] at hj0 ⊢
          have hwa : IntKind.i64.wrap (((8 * k : Nat) : Int) + (j : Int)) = ((8 * k + j : Nat) : Int) := by rw [IntKind.wrap_i64]; omega
          have hb8 := bytesAt_lt HB.out k
          have hlen8 : ((bytesAt l k).drop j).length ≤ 8 := by unfold bytesAt; rw [List.length_drop, List.length_take]; omega
          have hlt64 := wordS_lt64 (l := (bytesAt l k).drop j) (fun x hx => hb8 x (List.mem_of_mem_drop hx)) hlen8
          by_cases hin : 8 * k + j < n
          · obtain ⟨b, o, c', hv, _, _, hc⟩ := HS.out wr HC.out (8 * k + j) hin
            simp only [Value.slice.injEq, true_and] at hv
            obtain ⟨rfl, rfl⟩ := hv
            have hx : l[8 * k + j]? = some (l[8 * k + j]'(by omega)) := List.getElem?_eq_getElem _
            have c0 := hc 0 (by omega)
            simp only [Nat.mul_one, Nat.add_zero, List.getElem?_map, hx, Option.map_some, byV] at c0
            have hd := bytesAt_drop_in (by omega : j < 8) hx
            generalize l[8 * k + j]'(by omega) = x at *
            rw [hd, wordS] at hlt64
            have HW : Hid (wordS ((bytesAt l k).drop j) = x + 256 * wordS ((bytesAt l k).drop (j + 1))) := Lib.hid (by rw [hd, wordS])
            generalize wordS ((bytesAt l k).drop (j + 1)) = p at *
            have e1 : IntKind.u64.wrap ((p : Int) * 256) = (p : Int) * 256 := by simp [IntKind.wrap, IntKind.signed, IntKind.bits]; omega
            have e2 : IntKind.u64.wrap ((p : Int) * 256 + (x : Int)) = ((x + 256 * p : Nat) : Int) := by simp [IntKind.wrap, IntKind.signed, IntKind.bits]; omega
            have e3 := wrap_nat (x := x) (by omega)
            have hin' : ((8 * k + j : Nat) : Int) < (n : Int) := by omega
            clear HS hx hc hd hb8 hlen8 hlt64 HRS HD8 h0
            go_wp2_with fail
            go_roundw
            case rel => exact ⟨j, by omega, by go_num, by rw [HW.out]; push_cast; rfl, trivial⟩
            case measure => simp [intOf] <;> omega
          · have HW : Hid (wordS ((bytesAt l k).drop j) = 0 ∧ wordS ((bytesAt l k).drop (j + 1)) = 0) := Lib.hid (by
              obtain ⟨d1, d2⟩ := bytesAt_drop_out (l := l) (i := k) (q := j) (by omega)
              rw [d1, d2]; exact ⟨rfl, rfl⟩)
            rw [HW.out.2]
            have hin' : ¬ ((8 * k + j : Nat) : Int) < (n : Int) := by omega
            clear HS hb8 hlen8 hlt64 HRS HD8 h0
            go_wp2_with fail
            go_roundw
            case rel => exact ⟨j, by omega, by go_num, by rw [HW.out.1]; rfl, trivial⟩
            case measure => simp [intOf] <;> omega
    · have hcn : ¬ (k : Int) ≤ (q : Int) := by omega
      obtain rfl : k = q + 1 := by omega
      obtain ⟨g, cap, rfl, hg1, hg2⟩ := own_form hrow (by omega)
      have hs := Sl.of_own hrow
      obtain ⟨b1, o1, c1, hv, _, _, hc⟩ := Sl.at_ hs (k := q) (by omega) (by omega)
      simp only [Value.slice.injEq, true_and] at hv
      obtain ⟨hv, rfl⟩ := hv
      simp only [Option.some.injEq, Addr.mk.injEq] at hv
      obtain ⟨rfl, rfl, _⟩ := hv
      have hraw : (rawS l (q + 1))[q]? = some ((wordS (bytesAt l q) : Nat) : Int) := by
        rw [rawS_succ, List.getElem?_append_right (by rw [rawS_len]; omega), rawS_len, Nat.sub_self]; rfl
      have c0 := hc 0 (by omega)
      simp only [Nat.mul_one, Nat.add_zero, Nat.zero_add, List.getElem?_map, hraw, Option.map_some, wdV] at c0
      have f0 := own_frozen hrow q
      have HO := Lib.hid (own_set1 hrow (i := q) (by omega) (wdV ((wordS (bytesAt l q) + n % 256 * 72057594037927936 : Nat) : Int)))
      have hpl : wordS (bytesAt l q) < 72057594037927936 := by
        have hb8 := bytesAt_lt HB.out q
        have h1 := wordS_lt hb8
        have h2 : (bytesAt l q).length ≤ 7 := by unfold bytesAt; rw [List.length_take, List.length_drop]; omega
        exact Nat.lt_of_lt_of_le h1 (Nat.le_trans (Nat.pow_le_pow_right (n := 2) (by omega) (show 8 * (bytesAt l q).length ≤ 56 by omega)) (by omega))
      rw [← List.map_set, HE.out] at HO
      have hmod : (n : Int).tmod 256 = ((n % 256 : Nat) : Int) := rfl
      have hmod2 : (n : Int) % 256 = ((n % 256 : Nat) : Int) := rfl
      have hm256 : n % 256 < 256 := Nat.mod_lt _ (by omega)
      obtain ⟨y, hy⟩ : ∃ y : Nat, y = wordS (bytesAt l q) + n % 256 * 72057594037927936 := ⟨_, rfl⟩
      rw [← hy] at HO
      have e1 := wrap_nat (x := n % 256) (by omega)
      have e2 : IntKind.u64.wrap (((n % 256 : Nat) : Int) * 72057594037927936) = ((n % 256 : Nat) : Int) * 72057594037927936 := by
        generalize n % 256 = z at *
        simp [IntKind.wrap, IntKind.signed, IntKind.bits]; omega
      have e3 : IntKind.u64.wrap (((wordS (bytesAt l q) : Nat) : Int) + ((n % 256 : Nat) : Int) * 72057594037927936) = (y : Int) := by
        generalize n % 256 = z at *
        generalize wordS (bytesAt l q) = p at *
        subst hy
        simp [IntKind.wrap, IntKind.signed, IntKind.bits]; omega
      clear hy
      have HM := Lib.hid hm256
      generalize n % 256 = z at *
      generalize wordS (bytesAt l q) = p at *
      have hww : IntKind.i64.wrap (((q + 1 : Nat) : Int) - 1) = (q : Int) := by rw [IntKind.wrap_i64]; omega
      have HCs : Hid (Chg [] w (wr.setCell ⟨g, q, none⟩ (.int .u64 y))) := Lib.hid (HC.out.trans' ((Chg.refl [g] wr).setCell (p := ⟨g, q, none⟩) (.inl (by simp)) _) (by intro x hx; simp at hx; subst hx; exact .inr hg1))
      clear hs hc hraw hpl hm256 hrow h0 HS
      go_wp2_with fail
      go_ret
      rw [HWL.out]
      exact ⟨_, rfl, HO.out, HCs.out⟩

set_option maxRecDepth 100000 in
set_option maxHeartbeats 2000000 in
theorem sum15_any {w : World} {B : Nat} {v : Value} {l : List Nat} (h : SlY w B v l) (hl : l.length ≤ 1000000) (hb : ∀ x ∈ l, x < 256) (ka kb : Int) :
    Calls Tryz.prog 84 #[.agg #[.int .u64 ka, .int .u64 kb], v] w fun e w' => e = .returned (.int .u64 (sumS ka kb l)) ∧ Chg [] w w' := by
  have hA := (Chg.refl [] w).alloc (.cells #[.int .u64 ka, .int .u64 kb] 41)
  have hB1 : Blk (w.alloc (.cells #[.int .u64 ka, .int .u64 kb] 41)) w.heap.size 41 #[.int .u64 ka, .int .u64 kb] := Blk.new _ _ _
  have HI := Lib.hid (And.intro hA hB1)
  have HF := Lib.hid (fun W (hW : Chg [] w W) => words_any (h.chg0 hW) hl hb)
  have HWL := Lib.hid (wordsS_len l)
  have HX : Hid (∀ i, i < l.length / 8 + 1 → ∃ x, (wordsS l)[i]? = some x ∧ stateS ka kb l (i + 1) = takeW (stateS ka kb l i) x) := Lib.hid fun i hi => by
    obtain ⟨x, hx⟩ : ∃ x, (wordsS l)[i]? = some x := ⟨_, List.getElem?_eq_getElem (by rw [wordsS_len]; exact hi)⟩
    exact ⟨x, hx, stateS_succ hx⟩
  have HZ := Lib.hid (stateS_all ka kb l)
  have HN : Hid (l.length / 8 + 1 ≤ 1000000) := Lib.hid (by omega)
  clear hA hB1 h hl hb
  generalize l.length / 8 + 1 = n at *
  go_enter Tryz.func84, Tryz.ntmps84
  go_upto_region 1 with fail
  obtain ⟨hA, hB1⟩ := HI.out
  generalize (w.alloc (.cells #[.int .u64 ka, .int .u64 kb] 41)) = w1 at *
  have c0 : w1.cell? ⟨w.heap.size, 0, none⟩ = some (.int .u64 ka) := hB1.cell 0
  have c1 : w1.cell? ⟨w.heap.size, 1, none⟩ = some (.int .u64 kb) := hB1.cell 1
  clear hB1 HI
  go_quiet (fail)
  have HC1 := Lib.hid (hA.drewN nq)
  generalize w1.drewN nq = w2 at *
  clear c0 c1 hA
  have F1 := Lib.hid (HF.out w2 HC1.out)
  go_wp2_with fail
  refine F1.out.mono ?_
  rintro e w3 ⟨v3, rfl, hown3, hc3⟩
  rw [HWL.out] at hown3
  have hs3 := Sl.of_own hown3
  obtain ⟨A3, c3, rfl⟩ := Sl.form hs3
  have HS := Lib.hid (fun i (hi : i < n) => Sl.at_ hs3 hi (by omega))
  have HC3 := Lib.hid (HC1.out.trans hc3)
  clear hown3 hs3 hc3 HC1 F1 HF HWL
  have hn := HN.out
  have HB0 : Hid (beginW ka kb = stateS ka kb l 0) := Lib.hid rfl
  go_wp2_with fail
  go_loopw [5, 6, 7, 8, 10] (fun p0 p1 p2 p3 iv wr => ∃ k : Nat, k ≤ n ∧ iv = .int .i64 k ∧ Hid (p0 = .int .u64 (stateS ka kb l k).a ∧ p1 = .int .u64 (stateS ka kb l k).b ∧ p2 = .int .u64 (stateS ka kb l k).c ∧ p3 = .int .u64 (stateS ka kb l k).d) ∧ wr = w3) (fun _ _ _ _ iv _ => n - (intOf iv).toNat)
  case atStart => exact ⟨0, by omega, rfl, Lib.hid ⟨rfl, rfl, rfl, rfl⟩, rfl⟩
  case round =>
    obtain ⟨k, hk, rfl, HP, rfl⟩ := hrel
    by_cases hlt : k < n
    · obtain ⟨x, hx, hst⟩ := HX.out k hlt
      obtain ⟨b, o, c', hv, _, _, hc⟩ := HS.out k hlt
      simp only [Value.slice.injEq, true_and] at hv
      obtain ⟨rfl, rfl⟩ := hv
      have c0 := hc 0 (by omega)
      simp only [Nat.mul_one, Nat.add_zero, List.getElem?_map, hx, Option.map_some, wdV] at c0
      obtain ⟨rfl, rfl, rfl, rfl⟩ := HP.out
      have HST := Lib.hid hst
      clear HP hst hc hx HS HX
      generalize stateS ka kb l k = u at *
      have HR := Lib.hid (fun v W => round15_any v W)
      have F1 := Lib.hid (HR.out ⟨u.a, u.b, u.c, xorS u.d x⟩ wr)
      generalize hu1 : roundW ⟨u.a, u.b, u.c, xorS u.d x⟩ = u1 at *
      have F2 := Lib.hid (HR.out u1 wr)
      generalize hu2 : roundW u1 = u2 at *
      have HQ : Hid (stateS ka kb l (k + 1) = ⟨xorS u2.a x, u2.b, u2.c, u2.d⟩) := Lib.hid (by rw [HST.out]; subst hu2; subst hu1; rfl)
      clear hu1 hu2 HST HR
      have hcn : (k : Int) < (n : Int) := by omega
      go_wp2_with fail
      refine F1.out.mono ?_
      rintro e w4 ⟨rfl, rfl⟩
      clear F1
      go_wp2_with fail
      refine F2.out.mono ?_
      rintro e w4 ⟨rfl, rfl⟩
      clear F2
      go_wp2_with fail
      go_roundw
      case rel => exact ⟨k + 1, by omega, by go_num, Lib.hid (by rw [HQ.out]; exact ⟨rfl, rfl, rfl, rfl⟩), trivial⟩
      case measure => simp [intOf] <;> omega
    · obtain rfl : k = n := by omega
      obtain ⟨rfl, rfl, rfl, rfl⟩ := HP.out
      clear HP HX HS
      generalize stateS ka kb l k = u at *
      have HR := Lib.hid (fun v => round15_any v wr)
      have HZ' : Hid (sumS ka kb l = endW u) := Lib.hid HZ.out.symm
      clear HZ
      go_wp2_with fail
      have HE : Hid (endW u = xorS (xorS (xorS (roundsW 4 ⟨u.a, u.b, bits .xor .u64 u.c 255, u.d⟩).a (roundsW 4 ⟨u.a, u.b, bits .xor .u64 u.c 255, u.d⟩).b) (roundsW 4 ⟨u.a, u.b, bits .xor .u64 u.c 255, u.d⟩).c) (roundsW 4 ⟨u.a, u.b, bits .xor .u64 u.c 255, u.d⟩).d) := Lib.hid rfl
      have HZ0 : Hid (∀ z : W4, roundsW 0 z = z) := Lib.hid fun z => rfl
      generalize bits .xor .u64 u.c 255 = uc at *
      go_loopw [5, 6, 7, 8, 11] (fun p0 p1 p2 p3 iv wx => ∃ j : Nat, j ≤ 4 ∧ iv = .int .i64 j ∧ Hid (p0 = .int .u64 (roundsW j ⟨u.a, u.b, uc, u.d⟩).a ∧ p1 = .int .u64 (roundsW j ⟨u.a, u.b, uc, u.d⟩).b ∧ p2 = .int .u64 (roundsW j ⟨u.a, u.b, uc, u.d⟩).c ∧ p3 = .int .u64 (roundsW j ⟨u.a, u.b, uc, u.d⟩).d) ∧ wx = wr) (fun _ _ _ _ iv _ => 4 - (intOf iv).toNat)
      case atStart => exact ⟨0, by omega, rfl, Lib.hid ⟨rfl, rfl, rfl, rfl⟩, rfl⟩
      case round =>
        obtain ⟨j, hj, rfl, HP, rfl⟩ := hrel
        obtain ⟨rfl, rfl, rfl, rfl⟩ := HP.out
        by_cases hlt : j < 4
        · have HST := Lib.hid (roundsW_succ j ⟨u.a, u.b, uc, u.d⟩)
          have F1 := Lib.hid (HR.out (roundsW j ⟨u.a, u.b, uc, u.d⟩))
          clear HP HR
          generalize roundsW j ⟨u.a, u.b, uc, u.d⟩ = z at *
          have hcn : (j : Int) < 4 := by omega
          go_wp2_with fail
          refine F1.out.mono ?_
          rintro e w4 ⟨rfl, rfl⟩
          clear F1
          go_wp2_with fail
          go_roundw
          case rel => exact ⟨j + 1, by omega, by go_num, Lib.hid (by rw [HST.out]; exact ⟨rfl, rfl, rfl, rfl⟩), trivial⟩
          case measure => simp [intOf] <;> omega
        · obtain rfl : j = 4 := by omega
          clear HP HR
          generalize roundsW 4 ⟨u.a, u.b, uc, u.d⟩ = z at *
          go_wp2_with fail
          go_ret
          rw [HZ'.out, HE.out]
          exact ⟨rfl, HC3.out⟩

end Go.Proofs.YtecblclpchndiaaGreat
