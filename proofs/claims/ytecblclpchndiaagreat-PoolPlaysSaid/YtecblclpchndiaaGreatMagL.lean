/-
  WALKS: all members' turns of a round, in package maglev. Condition: from 2 to 1000 slots, members that can be.
-/
import Derived.Test.YtecblclpchndiaaGreatMagK
import Derived.Test.YtecblclpchndiaaGreatMagB
set_option linter.unusedVariables false
set_option linter.unusedSimpArgs false
namespace Go.Proofs.YtecblclpchndiaaGreat
open Go.RowKit

set_option maxRecDepth 100000 in
set_option maxHeartbeats 1000000 in
theorem turn_any (ka kb node : Int) (T m : Nat) (h2 : 2 ≤ m) (h3 : m ≤ 1000) (t : List Int) (w : World) :
    Calls Tryz.prog 88 #[.agg #[.int .u64 ka, .int .u64 kb], .slice (some ⟨T, 0, none⟩) m m, .int .i64 node] w fun e w' => ∃ k : Tk, e = .returned k.fv ∧ k.node = node ∧ TkR w' T m k (ordN ka kb m node) t ∧ (∀ x ∈ k.foot, w.heap.size ≤ x ∧ x < w'.heap.size) ∧ Chg [] w w' := by
  have hA := (((Chg.refl [] w).alloc (.cells #[.int .u64 ka, .int .u64 kb] 24)).alloc (.cells #[.slice (some ⟨T, 0, none⟩) m m] 38)).alloc (.cells #[.int .i64 node] 3)
  have b1 : Blk (((w.alloc (.cells #[.int .u64 ka, .int .u64 kb] 24)).alloc (.cells #[.slice (some ⟨T, 0, none⟩) m m] 38)).alloc (.cells #[.int .i64 node] 3)) w.heap.size 24 #[.int .u64 ka, .int .u64 kb] := ((Blk.new _ _ _).alloc _).alloc _
  have b2 : Blk (((w.alloc (.cells #[.int .u64 ka, .int .u64 kb] 24)).alloc (.cells #[.slice (some ⟨T, 0, none⟩) m m] 38)).alloc (.cells #[.int .i64 node] 3)) (w.heap.size + 1) 38 #[.slice (some ⟨T, 0, none⟩) m m] := (Blk.new' (by simp)).alloc _
  have b3 : Blk (((w.alloc (.cells #[.int .u64 ka, .int .u64 kb] 24)).alloc (.cells #[.slice (some ⟨T, 0, none⟩) m m] 38)).alloc (.cells #[.int .i64 node] 3)) (w.heap.size + 2) 3 #[.int .i64 node] := Blk.new' (by simp)
  have hz : (((w.alloc (.cells #[.int .u64 ka, .int .u64 kb] 24)).alloc (.cells #[.slice (some ⟨T, 0, none⟩) m m] 38)).alloc (.cells #[.int .i64 node] 3)).heap.size = w.heap.size + 3 := by simp
  have HI := Lib.hid (And.intro hA (And.intro b1 (And.intro b2 (And.intro b3 hz))))
  have HF := Lib.hid (fun W => of_any ka kb node m h2 h3 W)
  have HOL : Hid ((ordN ka kb m node).length = m) := Lib.hid (stepsS_len _ _ _)
  generalize ordN ka kb m node = o at *
  clear hA b1 b2 b3 hz
  go_enter Tryz.func88, Tryz.ntmps88
  go_upto_region 1 with fail
  obtain ⟨hA, b1, b2, b3, hz⟩ := HI.out
  generalize (((w.alloc (.cells #[.int .u64 ka, .int .u64 kb] 24)).alloc (.cells #[.slice (some ⟨T, 0, none⟩) m m] 38)).alloc (.cells #[.int .i64 node] 3)) = w1 at *
  have R1 := Lib.hid b1.rangeQ
  have c2 : w1.cell? ⟨w.heap.size + 1, 0, none⟩ = some (.slice (some ⟨T, 0, none⟩) m m) := b2.cell 0
  have c3 : w1.cell? ⟨w.heap.size + 1 + 1, 0, none⟩ = some (.int .i64 node) := b3.cell 0
  have HB := Lib.hid (And.intro hA (And.intro b2 (And.intro b3 hz)))
  clear hA b1 b2 b3 hz HI
  go_wp2_with (first
    | (refine wpList_row 24 (.tmp 3) rfl rfl w.heap.size 0 rfl _ _ R1.out Tryz.underlying24 rfl (by kernel_rfl) ?_)
    | fail)
  refine (HF.out _).mono ?_
  rintro e w2 ⟨v, rfl, hown, hc2⟩
  obtain ⟨g, cap, rfl, hg1, hg2⟩ := own_form hown (by omega)
  have hs := Sl.of_own hown
  obtain ⟨_, A', c', hv, hcap, _⟩ := Sl.of_own hown
  simp only [Value.slice.injEq, true_and] at hv
  obtain ⟨rfl, rfl⟩ := hv
  have HRW : Hid (∀ j x, o[j]? = some x → w2.cell? ⟨g, j, none⟩ = some (.int .i64 (x : Nat))) := Lib.hid fun j x hx => by
    have hjm : j < m := by have := (List.getElem?_eq_some_iff.1 hx).1; have := HOL.out; omega
    obtain ⟨b, of_, c9, hv, _, _, hc⟩ := Sl.at_ hs hjm (by omega)
    simp only [Value.slice.injEq, true_and, Option.some.injEq, Addr.mk.injEq, and_true] at hv
    obtain ⟨⟨rfl, rfl⟩, rfl⟩ := hv
    have := hc 0 (by omega)
    simp only [Nat.mul_one, Nat.add_zero, Nat.zero_add, List.getElem?_map, hx, Option.map_some] at this
    exact this
  have HC2 := Lib.hid hc2
  have hz2 := hc2.size
  clear hs hown hc2 HF R1 c2 c3
  go_wp2_with fail
  go_ret
  obtain ⟨hA, b2, b3, hz⟩ := HB.out
  have hA3 := (HC2.out.alloc (.cells #[.slice (some ⟨g, 0, none⟩) m cap] 38))
  refine ⟨⟨w2.heap.size, w.heap.size + 1, w.heap.size + 2, g, cap, node⟩, rfl, rfl, ⟨b2.chg hA3 (by simp), b3.chg hA3 (by simp), fun j x hx => ((Chg.refl [] w2).alloc _).cell (HRW.out j x hx) (by simp), ⟨0, by omega, by simpa using Blk.new w2 _ _, fun j x hj => absurd hj (by omega)⟩, hcap, ?_⟩, ?_, hA.trans hA3⟩
  · simp only
    omega
  · intro x hx
    simp only [Tk.foot, List.mem_cons, List.not_mem_nil, or_false] at hx
    rw [World.size_alloc]
    omega

/-- Takers that share nothing. -/
structure Tks (w : World) (T m : Nat) (ord : Int → List Nat) (ts : List Tk) (t : List Int) : Prop where
  r : ∀ k ∈ ts, TkR w T m k (ord k.node) t
  dj : ∀ a ∈ ts, ∀ b ∈ ts, a ≠ b → ∀ x ∈ a.foot, x ∉ b.foot
theorem Tks.nil (w : World) (T m : Nat) (ord : Int → List Nat) (t : List Int) : Tks w T m ord [] t := ⟨by simp, by simp⟩
theorem Tks.chg {w w' : World} {T m : Nat} {ord : Int → List Nat} {ts : List Tk} {t : List Int} {S : List Nat} (h : Tks w T m ord ts t) (hc : Chg S w w') (hS : ∀ k ∈ ts, ∀ x ∈ k.foot, x ∉ S) : Tks w' T m ord ts t :=
  ⟨fun k hk => (h.r k hk).chg hc (hS k hk), h.dj⟩
theorem Tks.chg0 {w w' : World} {T m : Nat} {ord : Int → List Nat} {ts : List Tk} {t : List Int} (h : Tks w T m ord ts t) (hc : Chg [] w w') : Tks w' T m ord ts t := h.chg hc (by simp)
theorem Tks.add {w : World} {T m N : Nat} {ord : Int → List Nat} {ts : List Tk} {t : List Int} (h : Tks w T m ord ts t) {k : Tk} (hk : TkR w T m k (ord k.node) t) (h1 : ∀ a ∈ ts, ∀ x ∈ a.foot, x < N) (h2 : ∀ x ∈ k.foot, N ≤ x) : Tks w T m ord (ts ++ [k]) t := by
  refine ⟨fun a ha => ?_, fun a ha b hb hab x hx hxb => ?_⟩
  · rcases List.mem_append.1 ha with ha | ha
    · exact h.r a ha
    · simp at ha; subst ha; exact hk
  · rcases List.mem_append.1 ha with ha | ha
    · rcases List.mem_append.1 hb with hb | hb
      · exact h.dj a ha b hb hab x hx hxb
      · simp at hb; rw [hb] at hxb
        have := h1 a ha x hx
        have := h2 x hxb
        omega
    · simp at ha; subst ha
      rcases List.mem_append.1 hb with hb | hb
      · have := h1 b hb x hxb
        have := h2 x hx
        omega
      · simp at hb; subst hb; exact hab rfl
/-- One of them takes a slot. -/
theorem Tks.take {w w' : World} {T m : Nat} {ord : Int → List Nat} {ts : List Tk} {t t' : List Int} (h : Tks w T m ord ts t) {k : Tk} (hk : k ∈ ts) (hc : Chg [T, k.bo] w w') (hT : ∀ a ∈ ts, T ∉ a.foot) (hkr : TkR w' T m k (ord k.node) t') (ht : ∀ j, freeS t' j = true → freeS t j = true) : Tks w' T m ord ts t' := by
  refine ⟨fun a ha => ?_, h.dj⟩
  by_cases e : a = k
  · subst e; exact hkr
  · refine ((h.r a ha).chg hc (fun x hx hm => ?_)).more ht
    simp at hm
    rcases hm with rfl | rfl
    · exact hT a ha hx
    · exact h.dj a ha k hk e _ hx (by simp [Tk.foot])
def memsM (L : List Mb) : List (Int × Nat) := L.map fun x => (x.node, x.w.toNat)
theorem roundOf_snoc (ord : Int → List Nat) (M : List (Int × Nat)) (x : Int × Nat) : roundOf ord (M ++ [x]) = roundOf ord M ++ List.replicate x.2 (x.1, ord x.1) := by simp [roundOf]
theorem fv_one (l : List Tk) : ∀ u ∈ l.map Tk.fv, u.oneCell' = true := by
  intro u hu
  obtain ⟨x, _, rfl⟩ := List.mem_map.1 hu
  rfl
theorem elF : El Tryz.prog 119 1 .nilFunc 1 8 := ⟨Tryz.underlying119, by kernel_rfl, rfl, by omega⟩

set_option maxRecDepth 100000 in
set_option maxHeartbeats 4000000 in
theorem turns_any (ka kb : Int) (T m : Nat) (h2 : 2 ≤ m) (h3 : m ≤ 1000) (t : List Int) {w : World} {B : Nat} {v : Value} {L : List Mb} (h : SlM w B v L) (hlen : L.length ≤ 16) (hok : ∀ x ∈ L, 0 ≤ x.w ∧ x.w ≤ 4) :
    Calls Tryz.prog 76 #[.agg #[.int .u64 ka, .int .u64 kb], .slice (some ⟨T, 0, none⟩) m m, v] w fun e w' => ∃ (v' : Value) (ts outs : List Tk), e = .returned v' ∧ w'.ownsRow w.heap.size 1 1 v' outs.length (outs.map Tk.fv) ∧
      outs.map (fun k => (k.node, ordN ka kb m k.node)) = roundOf (ordN ka kb m) (memsM L) ∧ (∀ k ∈ outs, k ∈ ts) ∧ Tks w' T m (ordN ka kb m) ts t ∧ (∀ k ∈ ts, ∀ x ∈ k.foot, w.heap.size ≤ x ∧ x < w'.heap.size) ∧ (∀ y ∈ v'.ownBlock.toList, ∀ k ∈ ts, y ∉ k.foot) ∧ Chg [] w w' := by
  obtain ⟨A, c, rfl⟩ := Sl.form h
  have HS := Lib.hid (fun W (hW : Chg [] w W) i x hx => (h.chg0 hW).at_ (i := i) (x := x) hx)
  have HX : Hid (∀ i, i < L.length → ∃ x, L[i]? = some x ∧ 0 ≤ x.w ∧ x.w ≤ 4) := Lib.hid fun i hi => ⟨_, List.getElem?_eq_getElem hi, hok _ (List.getElem_mem hi)⟩
  have HF := Lib.hid (fun node W => turn_any ka kb node T m h2 h3 t W)
  have hA := (Chg.refl [] w).alloc (.cells #[.int .u64 ka, .int .u64 kb] 24)
  have hB1 : Blk (w.alloc (.cells #[.int .u64 ka, .int .u64 kb] 24)) w.heap.size 24 #[.int .u64 ka, .int .u64 kb] := Blk.new _ _ _
  have hzz : (w.alloc (.cells #[.int .u64 ka, .int .u64 kb] 24)).heap.size = w.heap.size + 1 := by simp
  have HA := Lib.hid (And.intro hA (And.intro hB1 hzz))
  have HLA : Hid (memsM (L.take L.length) = memsM L) := Lib.hid (by rw [List.take_length])
  generalize hord : ordN ka kb m = ord at *
  clear h hA hB1 hzz hord hok
  generalize hn : L.length = n at *
  go_enter Tryz.func76, Tryz.ntmps76
  go_wp2_with fail
  obtain ⟨hA, hB1, hzz⟩ := HA.out
  generalize (w.alloc (.cells #[.int .u64 ka, .int .u64 kb] 24)) = w1 at *
  have h0 : w1.ownsRow (w.heap.size + 1) 1 1 (.slice none 0 0) ([] : List Tk).length (([] : List Tk).map Tk.fv) := World.ownsRow_nil ..
  go_loopw [7, 13] (fun ov iv wr => ∃ (k : Nat) (ts outs : List Tk), k ≤ n ∧ iv = .int .i64 k ∧ wr.ownsRow (w.heap.size + 1) 1 1 ov outs.length (outs.map Tk.fv) ∧ outs.length ≤ 4 * k ∧ Hid (outs.map (fun k => (k.node, ord k.node)) = roundOf ord (memsM (L.take k))) ∧ Hid (∀ k ∈ outs, k ∈ ts) ∧
      Hid (Tks wr T m ord ts t) ∧ Hid (∀ k ∈ ts, ∀ x ∈ k.foot, w.heap.size ≤ x ∧ x < wr.heap.size) ∧ Hid (∀ y ∈ ov.ownBlock.toList, ∀ k ∈ ts, y ∉ k.foot) ∧ Hid (Chg [] w1 wr)) (fun _ iv _ => n - (intOf iv).toNat)
  case atStart => exact ⟨0, [], [], by omega, rfl, h0, by simp, Lib.hid (by simp [memsM, roundOf]), Lib.hid (by simp), Lib.hid (Tks.nil _ _ _ _ _), Lib.hid (by simp), Lib.hid (by simp), Lib.hid (Chg.refl _ _)⟩
  case round =>
    obtain ⟨k, ts, outs, hk, rfl, hrow, hol, HO, HIN, HT, HFT, HND, HC⟩ := hrel
    by_cases hlt : k < n
    · have hcn : (k : Int) < (n : Int) := by omega
      obtain ⟨x, hx, hx1, hx2⟩ := HX.out k hlt
      obtain ⟨b, o, c', hv, hcap, c0, c1⟩ := HS.out wr (hA.trans HC.out) k x hx
      simp only [Value.slice.injEq, true_and] at hv
      obtain ⟨rfl, rfl⟩ := hv
      have HTK : Hid (memsM (L.take (k + 1)) = memsM (L.take k) ++ [(x.node, x.w.toNat)]) := Lib.hid (by
        rw [List.take_add_one, hx]; simp [memsM])
      obtain ⟨nd, wt⟩ := x
      simp only at c0 c1 hx1 hx2 HTK
      have hA1 := (Chg.refl [] wr).alloc (.cells #[.int .i64 nd, .int .i64 wt] 78)
      have hBm : Blk (wr.alloc (.cells #[.int .i64 nd, .int .i64 wt] 78)) wr.heap.size 78 #[.int .i64 nd, .int .i64 wt] := Blk.new _ _ _
      have R1 := Lib.hid ((hB1.chg HC.out (by simp)).chg hA1 (by simp)).rangeQ
      have F1 := Lib.hid (HF.out nd (wr.alloc (.cells #[.int .i64 nd, .int .i64 wt] 78)))
      have HM := Lib.hid (And.intro hA1 hBm)
      clear hx hA1 hBm HF
      go_wp2_with (first
        | (refine wpList_row 24 (.tmp 3) rfl rfl w.heap.size 0 rfl _ _ R1.out Tryz.underlying24 rfl (by kernel_rfl) ?_)
        | fail)
      refine F1.out.mono ?_
      rintro e w2 ⟨tk, rfl, htn, htr, htf, hc2⟩
      have hcA := HM.out.1.trans hc2
      have hz2 : wr.heap.size + 1 ≤ w2.heap.size := by have := hc2.size; rw [World.size_alloc] at this; exact this
      rw [World.size_alloc] at htf
      have HT2 : Hid (Tks w2 T m ord (ts ++ [tk]) t) := Lib.hid ((HT.out.chg0 hcA).add (N := wr.heap.size + 1) (by rw [htn]; exact htr) (fun a ha x hx => by have := HFT.out a ha x hx; omega) (fun x hx => (htf x hx).1))
      have hwz : w.heap.size ≤ wr.heap.size := by have := HC.out.size; omega
      have HFT2 : Hid (∀ k ∈ ts ++ [tk], ∀ x ∈ k.foot, w.heap.size ≤ x ∧ x < w2.heap.size) := Lib.hid fun a ha x hx => by
        rcases List.mem_append.1 ha with ha | ha
        · have := HFT.out a ha x hx
          omega
        · simp at ha; subst ha
          have := htf x hx
          omega
      have HLW := Lib.hid (own_lt hrow)
      have HND2 : Hid (∀ y ∈ u7.ownBlock.toList, ∀ k ∈ ts ++ [tk], y ∉ k.foot) := Lib.hid fun y hy a ha hm => by
        rcases List.mem_append.1 ha with ha | ha
        · exact HND.out y hy a ha hm
        · simp at ha; subst ha
          have := (HLW.out y hy).2
          have := htf y hm
          omega
      have hrow2 := own_chg hrow hcA (by simp)
      have c2 : w2.cell? ⟨wr.heap.size, 1, none⟩ = some (.int .i64 wt) := (HM.out.2.chg hc2 (by simp)).cell 1
      have HC2 := Lib.hid (HC.out.trans hcA)
      obtain ⟨W, hW⟩ : ∃ W : Nat, W = wt.toNat := ⟨_, rfl⟩
      have hWI : wt = (W : Int) := by omega
      subst hWI
      have hW4 : W ≤ 4 := by omega
      rw [Int.toNat_natCast] at HTK
      have HNT := Lib.hid htn
      clear F1 R1 hcA htr htf hc2 HT HFT HND HLW hrow HC HM c0 c1 hW htn
      obtain ⟨wo, rfl⟩ : ∃ wo, wo = wr := ⟨_, rfl⟩
      have hro : w2.ownsRow (w.heap.size + 1) 1 1 u7 (outs ++ List.replicate 0 tk).length ((outs ++ List.replicate 0 tk).map Tk.fv) := by simpa using hrow2
      go_wp2_with fail
      go_loopw [7, 24] (fun ov iv wx => ∃ (j : Nat), j ≤ W ∧ iv = .int .i64 j ∧ wx.ownsRow (w.heap.size + 1) 1 1 ov (outs ++ List.replicate j tk).length ((outs ++ List.replicate j tk).map Tk.fv) ∧
        Hid (Tks wx T m ord (ts ++ [tk]) t) ∧ Hid (∀ k ∈ ts ++ [tk], ∀ x ∈ k.foot, w.heap.size ≤ x ∧ x < wx.heap.size) ∧ Hid (∀ y ∈ ov.ownBlock.toList, ∀ k ∈ ts ++ [tk], y ∉ k.foot) ∧ Hid (Chg [] w1 wx)) (fun _ iv _ => W - (intOf iv).toNat)
      case atStart => exact ⟨0, by omega, rfl, hro, HT2, HFT2, HND2, HC2⟩
      case round =>
        clear hro hrow2 HT2 HFT2 HND2 HC2 c2 hz2
        obtain ⟨j, hj, rfl, hrow, HT, HFT, HND, HC⟩ := hrel
        by_cases hjk : j < W
        · have hjn : (j : Int) < (W : Int) := by omega
          have hA1 := (Chg.refl [] wr).alloc (.cells #[tk.fv] 1)
          have hrow1 := own_chg hrow hA1 (by simp)
          have hcat : Sl (wr.alloc (.cells #[tk.fv] 1)) 0 1 (.slice (some ⟨wr.heap.size, 0, none⟩) 1 1) 1 [tk.fv] :=
            Sl.of_own (own_lit (base := 0) wr 1 1 1 #[tk.fv] (Nat.zero_le _) (by simp [maxLen]) rfl)
          have hszz : (wr.alloc (.cells #[tk.fv] 1)).heap.size = wr.heap.size + 1 := by simp
          have hwr : w.heap.size + 1 ≤ wr.heap.size := by have := HC.out.size; omega
          have hbs : w.heap.size + 1 ≤ (wr.alloc (.cells #[tk.fv] 1)).heap.size := by omega
          have HI := Lib.hid (And.intro hA1 (And.intro hrow1 (And.intro hcat hszz)))
          have HL := Lib.hid (own_lt hrow)
          have hlen1 : (outs ++ List.replicate j tk).length ≤ 1000 := by rw [List.length_append, List.length_replicate]; omega
          have HRP : Hid (outs ++ List.replicate (j + 1) tk = (outs ++ List.replicate j tk) ++ [tk]) := Lib.hid (by rw [List.append_assoc, ← List.replicate_succ'])
          generalize outs ++ List.replicate j tk = os at *
          clear hrow hA1 hrow1 hcat hszz
          go_wp2_with (first
            | (at_builtin; refine wpList_app elF rfl (.tmp 26) (.tmp 28) rfl (w.heap.size + 1) rfl HI.out.2.1 rfl HI.out.2.2.1 (by intro u hu; simp at hu; subst hu; rfl) (by unfold maxLen; omega) (by omega) hbs ?_; intro v3 w3 hown3 hc3 hb3)
            | fail)
          have HR3 : Hid (w3.ownsRow (w.heap.size + 1) 1 1 v3 (outs ++ List.replicate (j + 1) tk).length ((outs ++ List.replicate (j + 1) tk).map Tk.fv)) := Lib.hid (by
            rw [HRP.out, List.map_append, List.length_append]; exact hown3)
          have HT3 : Hid (Tks w3 T m ord (ts ++ [tk]) t) := Lib.hid ((HT.out.chg0 HI.out.1).chg hc3 (fun a ha x hx hm => HND.out x hm a ha hx))
          have hz3 := hc3.size
          rw [HI.out.2.2.2] at hz3 hb3
          have HFT3 : Hid (∀ k ∈ ts ++ [tk], ∀ x ∈ k.foot, w.heap.size ≤ x ∧ x < w3.heap.size) := Lib.hid fun a ha x hx => by have := HFT.out a ha x hx; omega
          have HND3 : Hid (∀ y ∈ v3.ownBlock.toList, ∀ k ∈ ts ++ [tk], y ∉ k.foot) := Lib.hid fun y hy a ha hm => by
            rcases hb3 with e | e
            · rw [e] at hy; exact HND.out y hy a ha hm
            · rw [e] at hy
              simp at hy
              have := HFT.out a ha y hm
              omega
          have HC3 := Lib.hid ((HC.out.trans HI.out.1).trans' hc3 (fun y hy => .inr (by have := (HL.out y hy).1; omega)))
          clear HT HFT HND HC hown3 hc3 hb3 HI HL HRP
          go_roundw
          case rel => exact ⟨j + 1, by omega, by go_num, HR3.out, HT3, HFT3, HND3, HC3⟩
          case measure => simp [intOf] <;> omega
        · obtain rfl : j = W := by omega
          have hjn : ¬ (j : Int) < (j : Int) := by omega
          have HO2 : Hid ((outs ++ List.replicate j tk).map (fun k => (k.node, ord k.node)) = roundOf ord (memsM (L.take (k + 1)))) := Lib.hid (by
            rw [HTK.out, roundOf_snoc, List.map_append, HO.out, List.map_replicate, HNT.out])
          have HIN2 : Hid (∀ k ∈ outs ++ List.replicate j tk, k ∈ ts ++ [tk]) := Lib.hid fun a ha => by
            rcases List.mem_append.1 ha with ha | ha
            · exact List.mem_append.2 (.inl (HIN.out a ha))
            · exact List.mem_append.2 (.inr (by rw [(List.mem_replicate.1 ha).2]; simp))
          have hol2 : (outs ++ List.replicate j tk).length ≤ 4 * (k + 1) := by rw [List.length_append, List.length_replicate]; omega
          clear HO HIN HTK HNT
          go_wp2_with fail
          go_roundw
          case rel => exact ⟨k + 1, ts ++ [tk], outs ++ List.replicate j tk, by omega, by go_num, hrow, hol2, HO2, HIN2, HT, HFT, HND, HC⟩
          case measure => simp [intOf] <;> omega
    · obtain rfl : k = n := by omega
      have hcn : ¬ (k : Int) < (k : Int) := by omega
      go_wp2_with fail
      go_ret
      refine ⟨_, rfl, ts, outs, own_less hrow (by omega), by rw [HO.out, HLA.out], HIN.out, HT.out, HFT.out, fun y hy => HND.out y (by simpa using hy), hA.trans HC.out⟩
end Go.Proofs.YtecblclpchndiaaGreat
