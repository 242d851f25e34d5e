/-
  WALKS: the document's answer of chapter 36: the answer to a probe. Condition: at most 300 calls were made.
-/
import Derived.Test.YtgbdbeaflilmlaaHealthF3
set_option linter.unusedVariables false
set_option linter.unusedSimpArgs false
namespace Go.Proofs.Ytgbdbeaflilmlaa
open Go.RowKit Go.Maps

section
variable {α : Type} {enc : α → List Value} {s : Nat}
theorem own_rowB (he : ∀ x, (enc x).length = s) {w : World} {base : Nat} {e : TypeId} {v : Value} {l : List α} (h : w.ownsRow base e s v l.length (l.flatMap enc)) (hl : 0 < l.length) :
    ∃ g cap, v = .slice (some ⟨g, 0, none⟩) l.length cap ∧ RowB enc s w g e (cap * s) l ∧ l.length ≤ cap ∧ cap ≤ maxLen ∧ base ≤ g := by
  rcases h.2 with ⟨_, h0⟩ | ⟨g, cap, cur, hv, hg, hh, hn, hm, hs, ht⟩
  · omega
  · exact ⟨g, cap, hv, ⟨cur, hh, hs, ht⟩, hn, hm, hg⟩
theorem rowB_own (he : ∀ x, (enc x).length = s) {w : World} {base g cap : Nat} {e : TypeId} {l : List α} (h : RowB enc s w g e (cap * s) l) (hl : l.length ≤ cap) (hm : cap ≤ maxLen) (hg : base ≤ g) :
    w.ownsRow base e s (.slice (some ⟨g, 0, none⟩) l.length cap) l.length (l.flatMap enc) := by
  obtain ⟨cs, hk, hc, ht⟩ := h
  exact ⟨by rw [flat_len he], .inr ⟨g, cap, cs, rfl, hg, hk, hl, hm, hc, ht⟩⟩
end
section
variable {P : Program} {w : World} {g g' : Nat} {cs cs' : Array Value}
/-- Two structs and a value handed back; a struct and two values. -/
theorem results_blk3 {fn : Func} {p p' q : Tmp} {ty ty' : TypeId} (h : fn.results = #[.cell p ty, .cell p' ty', .tmp q]) {tmps : Array Value} (hp : tmps.getD p undef = .pointer (some ⟨g, 0, none⟩)) (hp' : tmps.getD p' undef = .pointer (some ⟨g', 0, none⟩)) {e e' : TypeId} (hb : Blk w g e cs) (hb' : Blk w g' e' cs')
    (he : e = ty) (he' : e' = ty') (d d' : TypeDesc) (hu : P.underlying ty = some d) (hd : d.isRow = true) (hi : (P.info? ty).map (·.size) = some cs.size) (hu' : P.underlying ty' = some d') (hd' : d'.isRow = true) (hi' : (P.info? ty').map (·.size) = some cs'.size) :
    (results fn tmps).run P w = .ok (.tuple #[.agg cs, .agg cs', tmps.getD q undef]) w := by
  subst he he'
  have hp1 : tmps[p]?.getD undef = .pointer (some ⟨g, 0, none⟩) := by simpa using hp
  have hp2 : tmps[p']?.getD undef = .pointer (some ⟨g', 0, none⟩) := by simpa using hp'
  simp [results, h, hp1, hp2, asAddr, run_loadVar_blk hb e d hu hd hi, run_loadVar_blk hb' e' d' hu' hd' hi']
theorem results_blk12 {fn : Func} {p q r : Tmp} {ty : TypeId} (h : fn.results = #[.cell p ty, .tmp q, .tmp r]) {tmps : Array Value} (hp : tmps.getD p undef = .pointer (some ⟨g, 0, none⟩)) {e : TypeId} (hb : Blk w g e cs)
    (he : e = ty) (d : TypeDesc) (hu : P.underlying ty = some d) (hd : d.isRow = true) (hi : (P.info? ty).map (·.size) = some cs.size) :
    (results fn tmps).run P w = .ok (.tuple #[.agg cs, tmps.getD q undef, tmps.getD r undef]) w := by
  subst he
  have hp1 : tmps[p]?.getD undef = .pointer (some ⟨g, 0, none⟩) := by simpa using hp
  simp [results, h, hp1, asAddr, run_loadVar_blk hb e d hu hd hi]
end
theorem setL_at {n : Int} {y : BK} : ∀ {l : List BK} {i : Nat} {x : BK}, (nodesC l).Nodup → l[i]? = some x → x.node = n → setL n y l = l.set i y
  | [], i, x, _, h, _ => by simp at h
  | b :: l, 0, x, hd, h, hx => by
    simp at h; subst h
    unfold nodesC at hd
    rw [List.map_cons, List.nodup_cons] at hd
    have h1 : setL n y l = l := by
      unfold setL
      conv => rhs; rw [← List.map_id l]
      refine List.map_congr_left fun z hz => ?_
      have : z.node ≠ n := fun e2 => hd.1 (List.mem_map.2 ⟨z, hz, e2.trans hx.symm⟩)
      simp [this]
    have h2 : setL n y (b :: l) = y :: setL n y l := by simp [setL, hx]
    rw [h2, h1]; rfl
  | b :: l, i + 1, x, hd, h, hx => by
    unfold nodesC at hd
    rw [List.map_cons, List.nodup_cons] at hd
    simp at h
    have hb : b.node ≠ n := fun e => hd.1 (List.mem_map.2 ⟨x, List.mem_of_getElem? h, hx.trans e.symm⟩)
    have ih := setL_at (y := y) (l := l) hd.2 h hx
    have h2 : setL n y (b :: l) = b :: setL n y l := by simp [setL, hb]
    rw [h2, ih]; rfl
theorem infRCh {a : Int} {u : Bool} : (Try.prog.info? 49).map (·.size) = some (#[Value.int .i64 a, .bool u] : Array Value).size := by
  show _ = some 2
  kernel_rfl
def ARPost (w : World) (v : Value) (c : CK) (n s : Int) (e : Ending) (w' : World) : Prop := ∃ v', e = .returned (.tuple #[.agg #[.int .i64 c.now, v'], .agg #[.int .i64 (if (ansC c n s).2.1 = true then n else 0), .bool (ansC c n s).2.1], .bool (ansC c n s).2.2]) ∧ RefTo w v (ansC c n s).1.l v' w'

set_option maxRecDepth 100000 in
set_option maxHeartbeats 2000000 in
theorem rans_any {w : World} {v : Value} {c : CK} {K : Nat} (h : OwR w v c.l) (hci : CI K c) (hK : K ≤ 300) (n s : Int) :
    Calls Try.prog 21 #[.agg #[.int .i64 c.now, v], .int .i64 n, .int .i64 s] w (ARPost w v c n s) := by
  have HP : Hid (∀ e w' a, ansC c n s = a → ARPost w v c n s e w' = ∃ v', e = .returned (.tuple #[.agg #[.int .i64 c.now, v'], .agg #[.int .i64 (if a.2.1 = true then n else 0), .bool a.2.1], .bool a.2.2]) ∧ RefTo w v a.1.l v' w') := Lib.hid fun _ _ a h => by subst h; rfl
  obtain ⟨A, cp, rfl⟩ := Sl.form h.sl
  have hl := hci.len
  have hA1 := (Chg.refl [] w).alloc (.cells #[.int .i64 c.now, .slice A c.l.length cp] 41)
  have hBp1 : Blk (w.alloc (.cells #[.int .i64 c.now, .slice A c.l.length cp] 41)) w.heap.size 41 #[.int .i64 c.now, .slice A c.l.length cp] := Blk.new _ _ _
  have hA2 := (hA1.alloc (.cells #[.int .i64 0, .slice none 0 0] 41)).alloc (.cells #[.int .i64 0, .bool false] 49)
  have hBp2 := (hBp1.alloc (.cells #[.int .i64 0, .slice none 0 0] 41)).alloc (.cells #[.int .i64 0, .bool false] 49)
  have hBr2 : Blk (((w.alloc (.cells #[.int .i64 c.now, .slice A c.l.length cp] 41)).alloc (.cells #[.int .i64 0, .slice none 0 0] 41)).alloc (.cells #[.int .i64 0, .bool false] 49)) (w.heap.size + 1) 41 #[.int .i64 0, .slice none 0 0] := (Blk.new' (by simp)).alloc _
  have hBx2 : Blk (((w.alloc (.cells #[.int .i64 c.now, .slice A c.l.length cp] 41)).alloc (.cells #[.int .i64 0, .slice none 0 0] 41)).alloc (.cells #[.int .i64 0, .bool false] 49)) (w.heap.size + 1 + 1) 49 #[.int .i64 0, .bool false] := Blk.new' (by simp)
  generalize hw2 : ((w.alloc (.cells #[.int .i64 c.now, .slice A c.l.length cp] 41)).alloc (.cells #[.int .i64 0, .slice none 0 0] 41)).alloc (.cells #[.int .i64 0, .bool false] 49) = w2 at *
  have hsz2 : w2.heap.size = w.heap.size + 3 := by rw [← hw2]; simp
  generalize hgp : w.heap.size = gp at *
  have HSAME : Hid (∀ w', Chg [gp + 1, gp + 1 + 1] w2 w' → RefTo w (.slice A c.l.length cp) c.l (.slice A c.l.length cp) w') := Lib.hid fun w' hc => RefTo.same h (hA2.trans' hc (by intro x hx; simp at hx; rcases hx with rfl | rfl <;> exact .inr (by omega)))
  clear hA1 hBp1
  have HR := Lib.hid (fun W (hc : Chg [] w2 W) => (hBp2.chg hc (by simp)).rangeQ)
  have HBR := Lib.hid (fun W (hc : Chg [] w2 W) => hBr2.chg hc (by simp))
  have HBX := Lib.hid (fun W (hc : Chg [] w2 W) => hBx2.chg hc (by simp))
  have hR2 := Lib.hid hBp2.rangeQ
  have HC1 := Lib.hid (fun W (hc : Chg [] w2 W) => (show W.cell? ⟨gp, 1, none⟩ = some (.slice A c.l.length cp) from (hBp2.chg hc (by simp)).cell 1))
  by_cases hin : n ∈ nodesC c.l
  · obtain ⟨i, x, hi, hx, hj⟩ := find_at hin
    have hg : getC c n = some x := getC_of hci.srt (List.mem_of_getElem? hi) hx
    have F1 := Lib.hid (rfind_any c.now n (h.sl.chg0 hA2) (by omega) (r := (i : Int)) (.inr ⟨i, x, rfl, hi, hx, hj⟩))
    have hil := (List.getElem?_eq_some_iff.1 hi).1
    have hii : (0 : Int) ≤ (i : Int) := by omega
    have hkI : (i : Int) < (c.l.length : Int) := by omega
    have HO := Lib.hid (fun W (hc : Chg [] w2 W) => SlR.one (h.sl.chg0 (hA2.trans hc)) rfl (i := i) (x := x) hi)
    by_cases hos : x.opn = true ∧ x.seq = s
    · obtain ⟨ho, hs⟩ := hos
      have e1 : Hid (ansC c n s = (⟨c.now, c.l.set i (heardB x).1⟩, (heardB x).2, true)) := Lib.hid (by
        simp only [ansC, hg]
        rw [if_pos ⟨ho, hs⟩, setL_at hci.nodup hi hx])
      have hrn := (hci.ok x (List.mem_of_getElem? hi)).2.2.2.2.2.2.2.2
      have HCW := Lib.hid hA2
      have HSL := Lib.hid (fun W (hc : Chg [] w2 W) => (show Sl W 0 7 (.slice A c.l.length cp) c.l.length (c.l.flatMap encR) from h.sl.chg0 (hA2.trans hc)))
      have HIX := Lib.hid hi
      have HNX := Lib.hid hx
      have HBP := Lib.hid (fun W (hc : Chg [] w2 W) => hBp2.chg hc (by simp))
      clear h hci hA2 hin hi hj hg hBp2 hBr2 hBx2 hx HSAME
      generalize hN : c.l.length = N at *
      have hsn : (x.seq != s) = false := by simp [hs]
      have hlN : Hid (N = c.l.length) := Lib.hid hN.symm
      go_enter Try.func21, Try.ntmps21
      go_wp2_with (first
        | (refine wpList_row 41 (.tmp 3) rfl rfl gp 0 rfl _ _ hR2.out Try.underlying41 rfl infRC ?_)
        | fail)
      refine F1.out.mono ?_
      rintro e w3 ⟨rfl, hc3⟩
      have k1 := HC1.out w3 hc3
      have hS2 := HSL.out w3 hc3
      obtain ⟨b, o, rfl, hrg⟩ := HO.out w3 hc3
      have g2 := hrg 2 (.bool x.opn) rfl
      have g3 := hrg 3 (.int .i64 x.seq) rfl
      rw [ho] at g2
      have hnl : ((i : Int) < 0) = False := by simp
      have hle : w2.heap.size ≤ w3.heap.size := hc3.size
      have HC3 := Lib.hid hc3
      have HGP := Lib.hid hgp
      clear hR2 hrg ho hs hw2 HO HR F1 hgp
      go_upto_region 4 with fail
      have hown0 : (w3.alloc (.cells #[] 46)).ownsRow w3.heap.size 46 7 (.slice (some ⟨w3.heap.size, 0, none⟩) 0 0) 0 [] := by
        have := own_lit (base := w3.heap.size) w3 46 7 0 #[] (Nat.le_refl _) (by simp [maxLen]) rfl
        simpa using this
      have hA1 := (Chg.refl [] w3).alloc (.cells #[] 46)
      have hct := hS2.chg0 hA1
      have hone1 : Hid (∀ u ∈ c.l.flatMap encR, u.oneCell' = true) := Lib.hid (flat_one encR_one c.l)
      have c1a : (w3.alloc (.cells #[] 46)).cell? ⟨gp, 1, none⟩ = some (.slice (some ⟨b, o, none⟩) N cp) := hA1.cell k1 (by simp)
      have HA1 := Lib.hid hA1
      have HI5 := HIX
      clear hA1 hc3 hS2 g2 g3 hsn
      generalize hfl : c.l.flatMap encR = FL at *
      have HFL := Lib.hid hfl
      clear hfl
      go_upto_region 5 with (first
        | (at_builtin; refine wpList_app elR rfl (.tmp 39) (.tmp 41) rfl w3.heap.size rfl hown0 rfl hct hone1.out (by unfold maxLen; omega) (by omega) (by simp) ?_; intro v5 w5 hown5 hc5 hb5)
        | fail)
      have hlt0 := own_lt hown0
      have hC5 : Chg [] w3 w5 := HA1.out.trans' hc5 (fun x hx => .inr (by have := (hlt0 x hx).1; omega))
      rw [Nat.zero_add, List.nil_append, ← HFL.out, hlN.out] at hown5
      obtain ⟨g5, cap5, hv5, hrb5, hcl5, hcm5, hg5⟩ := own_rowB encR_len hown5 (by omega)
      rw [hN] at hv5 hcl5
      subst hv5
      have R5 : Hid (w5.rangeAt g5 (i * 7) (arrR x).toList) := Lib.hid (fun j v hv => (hrb5.at_ encR_len HIX.out (j := j) hv).1)
      have hB5 : Blk (w5.alloc (.cells #[.int .i64 0, .bool false, .bool false, .int .i64 0, .int .i64 0, .int .i64 0, .int .i64 0] 46)) w5.heap.size 46 #[.int .i64 0, .bool false, .bool false, .int .i64 0, .int .i64 0, .int .i64 0, .int .i64 0] := Blk.new _ _ _
      have hA5 := (Chg.refl [] w5).alloc (.cells #[.int .i64 0, .bool false, .bool false, .int .i64 0, .int .i64 0, .int .i64 0, .int .i64 0] 46)
      have hz5 := hC5.size
      have H5 := Lib.hid (And.intro hC5 (And.intro hrb5 hA5))
      have hg5l := hrb5.lt
      clear hc5 hb5 hlt0 hown0 hown5 hct c1a HA1 k1 hC5 hrb5 hA5
      generalize hgb : w5.heap.size = gb at *
      go_upto_region 6 with (first
        | (refine wpList_row 46 (.tmp 45) rfl rfl g5 _ rfl _ _ R5.out Try.underlying46 rfl infR ?_)
        | (refine wpList_store_blk rfl 46 _ _ rfl rfl hB5 rfl rfl rfl (by kernel_rfl) rfl ?_; intro w6 hB6 hc6)
        | fail)
      have k6 : w6.cell? ⟨gb, 6, none⟩ = some (.int .i64 x.risen) := hB6.cell 6
      have k5 : w6.cell? ⟨gb, 5, none⟩ = some (.int .i64 x.failed) := hB6.cell 5
      have k2 : w6.cell? ⟨gb, 2, none⟩ = some (.bool x.opn) := hB6.cell 2
      have f2 := hB6.frozen 2
      have f5 := hB6.frozen 5
      have f6 := hB6.frozen 6
      have l6 := hB6.lt
      have hC6 := H5.out.2.2.trans' hc6 (by intro y hy; simp at hy; subst hy; exact .inr (by omega))
      have hB7 : Blk (((w6.setCell ⟨gb, 2, none⟩ (.bool false)).setCell ⟨gb, 5, none⟩ (.int .i64 0)).setCell ⟨gb, 6, none⟩ (.int .i64 (x.risen + 1))) gb 46 #[.int .i64 x.node, .bool x.up, .bool false, .int .i64 x.seq, .int .i64 x.due, .int .i64 0, .int .i64 (x.risen + 1)] :=
        ((hB6.set_ 2 _).set_ 5 _).set_ 6 _
      have hC7 : Chg [gb] w6 (((w6.setCell ⟨gb, 2, none⟩ (.bool false)).setCell ⟨gb, 5, none⟩ (.int .i64 0)).setCell ⟨gb, 6, none⟩ (.int .i64 (x.risen + 1))) := (((Chg.refl [gb] w6).setCell (.inl (by simp)) _).setCell (.inl (by simp)) _).setCell (.inl (by simp)) _
      have H7 := Lib.hid (And.intro hB7 (hC6.trans' hC7 (by intro y hy; simp at hy; subst hy; exact .inr (by omega))))
      clear hB6 hc6 hC6 hB7 hC7 R5
      go_upto_region 7 with fail
      generalize ((w6.setCell ⟨gb, 2, none⟩ (.bool false)).setCell ⟨gb, 5, none⟩ (.int .i64 0)).setCell ⟨gb, 6, none⟩ (.int .i64 (x.risen + 1)) = w7 at *
      have hBB8 := H7.out.1.alloc (.cells #[.int .i64 0, .bool false] 49)
      have hBX8 : Blk (w7.alloc (.cells #[.int .i64 0, .bool false] 49)) w7.heap.size 49 #[.int .i64 0, .bool false] := Blk.new _ _ _
      have hgbx := H7.out.1.lt
      have HC5 := Lib.hid H5.out.1
      have hRB5 := Lib.hid H5.out.2.1
      have HC8 := Lib.hid (H7.out.2.alloc (.cells #[.int .i64 0, .bool false] 49))
      go_upto_region 8 with fail
      generalize w7.alloc (.cells #[.int .i64 0, .bool false] 49) = w8 at *
      generalize hgx : w7.heap.size = gx at *
      clear k6 k5 k2 f2 f5 f6 l6 H7 H5 HSL hone1
      have k6 : w8.cell? ⟨gb, 6, none⟩ = some (.int .i64 (x.risen + 1)) := hBB8.cell 6
      have k1 : w8.cell? ⟨gb, 1, none⟩ = some (.bool x.up) := hBB8.cell 1
      have f1 := hBB8.frozen 1
      have l1 := hBB8.lt
      by_cases hup : x.up = false ∧ 2 ≤ x.risen + 1
      · have HHE : Hid (heardB x = ({ x with opn := false, failed := 0, risen := x.risen + 1, up := true }, true)) := Lib.hid (by unfold heardB; rw [if_pos hup])
        obtain ⟨hu, hri⟩ := hup
        rw [hu] at k1
        have hBB9 : Blk (w8.setCell ⟨gb, 1, none⟩ (.bool true)) gb 46 (arrR { x with opn := false, failed := 0, risen := x.risen + 1, up := true }) := hBB8.set_ 1 _
        have hBX9 := hBX8.far (p := ⟨gb, 1, none⟩) (by simp; omega) (.bool true)
        have hc9 := (Chg.refl [gb] w8).setCell (p := ⟨gb, 1, none⟩) (.inl (by simp)) (.bool true)
        clear hBB8 hBX8 hu
        go_upto_region 11 with (first
          | (refine wpList_store_blk rfl 49 _ _ rfl rfl hBX9 rfl rfl rfl (by kernel_rfl) rfl ?_; intro w10 hBX hc10)
          | fail)
        have hBB := hBB9.chg hc10 (by simp; omega)
        have HCH := Lib.hid ((HC8.out.trans' hc9 (by intro y hy; simp at hy; subst hy; exact .inr (by omega))).trans' hc10 (by intro y hy; simp at hy; subst hy; exact .inr (by omega)))
        clear hBB9 hBX9 hc9 hc10 k1 k6 f1 l1
        have hRB := Lib.hid hBB.rangeQ
        have hRW := hRB5.out.chg HCH.out (by simp)
        have HD11 := Lib.hid ((HC3.out.trans HC5.out).trans HCH.out)
        have hsz : c.l.length * 7 ≤ cap5 * 7 := by rw [hN]; omega
        have hilc : i < c.l.length := by omega
        clear HCH
        go_upto_region 12 with (first
          | (refine wpList_row 46 (.tmp 11) rfl rfl gb 0 rfl _ _ hRB.out Try.underlying46 rfl infR ?_)
          | (refine wpList_store_row encR_len rfl 46 (.tmp 67) (.tmp 66) rfl hRW hilc hsz ({ x with opn := false, failed := 0, risen := x.risen + 1, up := true }) rfl rfl (by kernel_rfl) (encR_one _) ?_; intro w12 hRW12 hc12)
          | fail)
        have hP12 := (HBP.out _ HD11.out).chg hc12 (by simp; omega)
        have hx12 := hBX.chg hc12 (by simp; omega)
        have q12 := hP12.cell 1
        have qf12 := hP12.frozen 1
        have ql12 := hP12.lt
        have hP13 := hP12.set_ 1 (.slice (some ⟨g5, 0, none⟩) N cap5)
        have hx13 := hx12.far (p := ⟨gp, 1, none⟩) (by simp; omega) (.slice (some ⟨g5, 0, none⟩) N cap5)
        have hr13 := ((HBR.out _ HD11.out).chg hc12 (by simp; omega)).far (p := ⟨gp, 1, none⟩) (by simp) (.slice (some ⟨g5, 0, none⟩) N cap5)
        have hy13 := ((HBX.out _ HD11.out).chg hc12 (by simp; omega)).far (p := ⟨gp, 1, none⟩) (by simp; omega) (.slice (some ⟨g5, 0, none⟩) N cap5)
        have hc13 := (Chg.refl [gp] w12).setCell (p := ⟨gp, 1, none⟩) (.inl (by simp)) (.slice (some ⟨g5, 0, none⟩) N cap5)
        have H12 := Lib.hid (And.intro hRW12 (And.intro hc12 hc13))
        clear hRW hRB hRW12 hc12 hc13 hP12 hx12 hBB hBX
        go_upto_region 13 with fail
        generalize w12.setCell ⟨gp, 1, none⟩ (.slice (some ⟨g5, 0, none⟩) N cap5) = w13 at *
        have hS13 : (fun W : World => Blk W gp 41 #[.int .i64 c.now, .slice (some ⟨g5, 0, none⟩) N cap5] ∧ Blk W gx 49 #[.int .i64 n, .bool true]) w13.drew := ⟨hP13, hx13⟩
        have HSP : ∀ W : World, (Blk W gp 41 #[.int .i64 c.now, .slice (some ⟨g5, 0, none⟩) N cap5] ∧ Blk W gx 49 #[.int .i64 n, .bool true]) → W.rangeAt gp 0 (#[.int .i64 c.now, .slice (some ⟨g5, 0, none⟩) N cap5] : Array Value).toList := fun W h => h.1.rangeQ
        have HSX : ∀ W : World, (Blk W gp 41 #[.int .i64 c.now, .slice (some ⟨g5, 0, none⟩) N cap5] ∧ Blk W gx 49 #[.int .i64 n, .bool true]) → W.rangeAt gx 0 (#[.int .i64 n, .bool true] : Array Value).toList := fun W h => h.2.rangeQ
        have hgx1 : gx ≠ gp + 1 := by omega
        have hgx2 : gx ≠ gp + 1 + 1 := by omega
        clear q12 qf12 ql12
        have HFIN : Hid (∀ w15, Chg [gp + 1, gp + 1 + 1] w13 w15 → ARPost w (.slice (some ⟨b, o, none⟩) N cp) c n s (.returned (.tuple #[.agg #[.int .i64 c.now, .slice (some ⟨g5, 0, none⟩) N cap5], .agg #[.int .i64 n, .bool true], .bool true])) w15) := Lib.hid fun w15 hc15 => by
          rw [HP.out _ _ _ (e1.out.trans (by rw [HHE.out]))]
          obtain ⟨h1, h2, h3⟩ := H12.out
          have hsz11 := HD11.out.size
          have hrow := ((h1.chg h3 (by simp; omega)).chg hc15 (by simp; omega))
          have hlen : (c.l.set i ({ x with opn := false, failed := 0, risen := x.risen + 1, up := true })).length = N := by rw [List.length_set, hN]
          have hown := rowB_own (base := 0) encR_len hrow (by omega) hcm5 (Nat.zero_le _)
          rw [hlen] at hown
          refine ⟨_, rfl, ?_, ?_, ?_⟩
          · unfold OwR
            rw [hlen]
            exact hown
          · exact ((((HCW.out.trans HD11.out).trans' h2 (by intro y hy; simp at hy; subst hy; exact .inr (by have := HGP.out; omega))).trans' h3 (by intro y hy; simp at hy; subst hy; exact .inr (by have := HGP.out; omega))).trans' hc15 (by intro y hy; simp at hy; have := HGP.out; rcases hy with rfl | rfl <;> exact .inr (by omega)))
          · intro y hy
            simp [Value.ownBlock] at hy
            subst hy
            exact .inr (by have := HGP.out; omega)
        clear HD11 H12 HBP HBR HBX HHE HP
        refine wp_region_noPanic ?_
        refine wp_region_held_drew (S := fun W : World => Blk W gp 41 #[.int .i64 c.now, .slice (some ⟨g5, 0, none⟩) N cap5] ∧ Blk W gx 49 #[.int .i64 n, .bool true]) (by kernel_rfl) hS13 (fun _ => ?_)
        refine wpAnyH_take (i := 0) rfl (by kernel_rfl) (by kernel_rfl) (by kernel_rfl) (fun _ _ _ h => h) (yields_row (by rfl) 41 (.tmp 3) rfl gp 0 rfl (#[.int .i64 c.now, .slice (some ⟨g5, 0, none⟩) N cap5]) _ HSP Try.underlying41 rfl infRC) (by with_reducible assumption) ?_
        try simp only [List.getElem_toArray, List.getElem_cons_succ, List.getElem_cons_zero, Act.put, List.setIfInBounds_toArray, List.set_cons_zero, List.set_cons_succ]
        refine wpAnyH_take (i := 1) rfl (by kernel_rfl) (by kernel_rfl) (by kernel_rfl) (fun _ _ _ h => h) (yields_row (by rfl) 49 (.tmp 12) rfl gx 0 rfl (#[.int .i64 n, .bool true]) _ HSX Try.underlying49 rfl infRCh) (by with_reducible assumption) ?_
        try simp only [List.getElem_toArray, List.getElem_cons_succ, List.getElem_cons_zero, Act.put, List.setIfInBounds_toArray, List.set_cons_zero, List.set_cons_succ]
        refine wpAnyH_ready (rs := [2]) (by kernel_rfl) (by simp) (AllReadyH.cons rfl (fun K hK => ?_) AllReadyH.nil)
        · refine step_store_blk rfl 41 (.tmp 6) (.tmp 70) rfl (hr13.drew) rfl rfl rfl (by kernel_rfl) rfl ?_
          intro w14 hB14 hc14
          have hS14 : (fun W : World => Blk W gp 41 #[.int .i64 c.now, .slice (some ⟨g5, 0, none⟩) N cap5] ∧ Blk W gx 49 #[.int .i64 n, .bool true]) w14 := ⟨hS13.1.chg hc14 (by simp), hS13.2.chg hc14 (by simpa using hgx1)⟩
          have hy14 := hy13.drew.chg hc14 (by simp)
          refine hK.out _ _ (by with_reducible assumption) (fun _ => ?_)
          clear hK K
          try simp only [List.getElem_toArray, List.getElem_cons_succ, List.getElem_cons_zero, Act.put, List.setIfInBounds_toArray, List.set_cons_zero, List.set_cons_succ]
          refine wpAnyH_ready (rs := [3]) (by kernel_rfl) (by simp) (AllReadyH.cons rfl (fun K hK => ?_) AllReadyH.nil)
          refine step_store_blk rfl 49 (.tmp 7) (.tmp 71) rfl hy14 rfl rfl rfl (by kernel_rfl) rfl ?_
          intro w15 hB15 hc15
          have hS15 : (fun W : World => Blk W gp 41 #[.int .i64 c.now, .slice (some ⟨g5, 0, none⟩) N cap5] ∧ Blk W gx 49 #[.int .i64 n, .bool true]) w15 := ⟨hS14.1.chg hc15 (by simp; omega), hS14.2.chg hc15 (by simpa using hgx2)⟩
          have hB14' := hB14.chg hc15 (by simp)
          refine hK.out _ _ (by with_reducible assumption) (fun _ => ?_)
          clear hK K
          try simp only [List.getElem_toArray, List.getElem_cons_succ, List.getElem_cons_zero, Act.put, List.setIfInBounds_toArray, List.set_cons_zero, List.set_cons_succ]
          refine wpAnyH_take (i := 4) (v := ?_) rfl (by kernel_rfl) (by kernel_rfl) (by kernel_rfl) (fun _ _ _ h => h) (yields_pure (by rfl) (fun w => ?_)) (by with_reducible assumption) ?_
          rotate_left
          · (go_simp <;> with_reducible rfl)
          try simp only [List.getElem_toArray, List.getElem_cons_succ, List.getElem_cons_zero, Act.put, List.setIfInBounds_toArray, List.set_cons_zero, List.set_cons_succ]
          refine wpAnyH_done (by kernel_rfl) ?_ _
          refine NoPanic.normal ?_
          go_wp2_with fail
          refine bodyPost_ret (results_blk3 rfl rfl rfl hB14' hB15 rfl rfl _ _ Try.underlying41 rfl (by kernel_rfl) Try.underlying49 rfl (by kernel_rfl)) rfl ?_
          exact HFIN.out w15 (((Chg.refl _ w13).drew.trans (hc14.more (by simp))).trans (hc15.more (by simp)))
      · have HHE : Hid (heardB x = ({ x with opn := false, failed := 0, risen := x.risen + 1 }, false)) := Lib.hid (by unfold heardB; rw [if_neg hup])
        have hBB : Blk w8 gb 46 (arrR { x with opn := false, failed := 0, risen := x.risen + 1 }) := hBB8
        have hBX := hBX8
        have HCH := HC8
        have hcs : x.up = true ∨ (x.up = false ∧ x.risen + 1 < 2) := by
          cases hu : x.up with
          | true => exact .inl rfl
          | false => exact .inr ⟨rfl, by by_cases h : 2 ≤ x.risen + 1; exact absurd ⟨hu, h⟩ hup; omega⟩
        clear hBB8 hBX8 hup
        rcases hcs with hu | ⟨hu, hri⟩
        · rw [hu] at k1
          clear hu
          go_upto_region 11 with fail
          clear k1 k6 f1 l1
          have hRB := Lib.hid hBB.rangeQ
          have hRW := hRB5.out.chg HCH.out (by simp)
          have HD11 := Lib.hid ((HC3.out.trans HC5.out).trans HCH.out)
          have hsz : c.l.length * 7 ≤ cap5 * 7 := by rw [hN]; omega
          have hilc : i < c.l.length := by omega
          clear HCH
          go_upto_region 12 with (first
            | (refine wpList_row 46 (.tmp 11) rfl rfl gb 0 rfl _ _ hRB.out Try.underlying46 rfl infR ?_)
            | (refine wpList_store_row encR_len rfl 46 (.tmp 67) (.tmp 66) rfl hRW hilc hsz ({ x with opn := false, failed := 0, risen := x.risen + 1 }) rfl rfl (by kernel_rfl) (encR_one _) ?_; intro w12 hRW12 hc12)
            | fail)
          have hP12 := (HBP.out _ HD11.out).chg hc12 (by simp; omega)
          have hx12 := hBX.chg hc12 (by simp; omega)
          have q12 := hP12.cell 1
          have qf12 := hP12.frozen 1
          have ql12 := hP12.lt
          have hP13 := hP12.set_ 1 (.slice (some ⟨g5, 0, none⟩) N cap5)
          have hx13 := hx12.far (p := ⟨gp, 1, none⟩) (by simp; omega) (.slice (some ⟨g5, 0, none⟩) N cap5)
          have hr13 := ((HBR.out _ HD11.out).chg hc12 (by simp; omega)).far (p := ⟨gp, 1, none⟩) (by simp) (.slice (some ⟨g5, 0, none⟩) N cap5)
          have hy13 := ((HBX.out _ HD11.out).chg hc12 (by simp; omega)).far (p := ⟨gp, 1, none⟩) (by simp; omega) (.slice (some ⟨g5, 0, none⟩) N cap5)
          have hc13 := (Chg.refl [gp] w12).setCell (p := ⟨gp, 1, none⟩) (.inl (by simp)) (.slice (some ⟨g5, 0, none⟩) N cap5)
          have H12 := Lib.hid (And.intro hRW12 (And.intro hc12 hc13))
          clear hRW hRB hRW12 hc12 hc13 hP12 hx12 hBB hBX
          go_upto_region 13 with fail
          generalize w12.setCell ⟨gp, 1, none⟩ (.slice (some ⟨g5, 0, none⟩) N cap5) = w13 at *
          have hS13 : (fun W : World => Blk W gp 41 #[.int .i64 c.now, .slice (some ⟨g5, 0, none⟩) N cap5] ∧ Blk W gx 49 #[.int .i64 0, .bool false]) w13.drew := ⟨hP13, hx13⟩
          have HSP : ∀ W : World, (Blk W gp 41 #[.int .i64 c.now, .slice (some ⟨g5, 0, none⟩) N cap5] ∧ Blk W gx 49 #[.int .i64 0, .bool false]) → W.rangeAt gp 0 (#[.int .i64 c.now, .slice (some ⟨g5, 0, none⟩) N cap5] : Array Value).toList := fun W h => h.1.rangeQ
          have HSX : ∀ W : World, (Blk W gp 41 #[.int .i64 c.now, .slice (some ⟨g5, 0, none⟩) N cap5] ∧ Blk W gx 49 #[.int .i64 0, .bool false]) → W.rangeAt gx 0 (#[.int .i64 0, .bool false] : Array Value).toList := fun W h => h.2.rangeQ
          have hgx1 : gx ≠ gp + 1 := by omega
          have hgx2 : gx ≠ gp + 1 + 1 := by omega
          clear q12 qf12 ql12
          have HFIN : Hid (∀ w15, Chg [gp + 1, gp + 1 + 1] w13 w15 → ARPost w (.slice (some ⟨b, o, none⟩) N cp) c n s (.returned (.tuple #[.agg #[.int .i64 c.now, .slice (some ⟨g5, 0, none⟩) N cap5], .agg #[.int .i64 0, .bool false], .bool true])) w15) := Lib.hid fun w15 hc15 => by
            rw [HP.out _ _ _ (e1.out.trans (by rw [HHE.out]))]
            obtain ⟨h1, h2, h3⟩ := H12.out
            have hsz11 := HD11.out.size
            have hrow := ((h1.chg h3 (by simp; omega)).chg hc15 (by simp; omega))
            have hlen : (c.l.set i ({ x with opn := false, failed := 0, risen := x.risen + 1 })).length = N := by rw [List.length_set, hN]
            have hown := rowB_own (base := 0) encR_len hrow (by omega) hcm5 (Nat.zero_le _)
            rw [hlen] at hown
            refine ⟨_, rfl, ?_, ?_, ?_⟩
            · unfold OwR
              rw [hlen]
              exact hown
            · exact ((((HCW.out.trans HD11.out).trans' h2 (by intro y hy; simp at hy; subst hy; exact .inr (by have := HGP.out; omega))).trans' h3 (by intro y hy; simp at hy; subst hy; exact .inr (by have := HGP.out; omega))).trans' hc15 (by intro y hy; simp at hy; have := HGP.out; rcases hy with rfl | rfl <;> exact .inr (by omega)))
            · intro y hy
              simp [Value.ownBlock] at hy
              subst hy
              exact .inr (by have := HGP.out; omega)
          clear HD11 H12 HBP HBR HBX HHE HP
          refine wp_region_noPanic ?_
          refine wp_region_held_drew (S := fun W : World => Blk W gp 41 #[.int .i64 c.now, .slice (some ⟨g5, 0, none⟩) N cap5] ∧ Blk W gx 49 #[.int .i64 0, .bool false]) (by kernel_rfl) hS13 (fun _ => ?_)
          refine wpAnyH_take (i := 0) rfl (by kernel_rfl) (by kernel_rfl) (by kernel_rfl) (fun _ _ _ h => h) (yields_row (by rfl) 41 (.tmp 3) rfl gp 0 rfl (#[.int .i64 c.now, .slice (some ⟨g5, 0, none⟩) N cap5]) _ HSP Try.underlying41 rfl infRC) (by with_reducible assumption) ?_
          try simp only [List.getElem_toArray, List.getElem_cons_succ, List.getElem_cons_zero, Act.put, List.setIfInBounds_toArray, List.set_cons_zero, List.set_cons_succ]
          refine wpAnyH_take (i := 1) rfl (by kernel_rfl) (by kernel_rfl) (by kernel_rfl) (fun _ _ _ h => h) (yields_row (by rfl) 49 (.tmp 12) rfl gx 0 rfl (#[.int .i64 0, .bool false]) _ HSX Try.underlying49 rfl infRCh) (by with_reducible assumption) ?_
          try simp only [List.getElem_toArray, List.getElem_cons_succ, List.getElem_cons_zero, Act.put, List.setIfInBounds_toArray, List.set_cons_zero, List.set_cons_succ]
          refine wpAnyH_ready (rs := [2]) (by kernel_rfl) (by simp) (AllReadyH.cons rfl (fun K hK => ?_) AllReadyH.nil)
          · refine step_store_blk rfl 41 (.tmp 6) (.tmp 70) rfl (hr13.drew) rfl rfl rfl (by kernel_rfl) rfl ?_
            intro w14 hB14 hc14
            have hS14 : (fun W : World => Blk W gp 41 #[.int .i64 c.now, .slice (some ⟨g5, 0, none⟩) N cap5] ∧ Blk W gx 49 #[.int .i64 0, .bool false]) w14 := ⟨hS13.1.chg hc14 (by simp), hS13.2.chg hc14 (by simpa using hgx1)⟩
            have hy14 := hy13.drew.chg hc14 (by simp)
            refine hK.out _ _ (by with_reducible assumption) (fun _ => ?_)
            clear hK K
            try simp only [List.getElem_toArray, List.getElem_cons_succ, List.getElem_cons_zero, Act.put, List.setIfInBounds_toArray, List.set_cons_zero, List.set_cons_succ]
            refine wpAnyH_ready (rs := [3]) (by kernel_rfl) (by simp) (AllReadyH.cons rfl (fun K hK => ?_) AllReadyH.nil)
            refine step_store_blk rfl 49 (.tmp 7) (.tmp 71) rfl hy14 rfl rfl rfl (by kernel_rfl) rfl ?_
            intro w15 hB15 hc15
            have hS15 : (fun W : World => Blk W gp 41 #[.int .i64 c.now, .slice (some ⟨g5, 0, none⟩) N cap5] ∧ Blk W gx 49 #[.int .i64 0, .bool false]) w15 := ⟨hS14.1.chg hc15 (by simp; omega), hS14.2.chg hc15 (by simpa using hgx2)⟩
            have hB14' := hB14.chg hc15 (by simp)
            refine hK.out _ _ (by with_reducible assumption) (fun _ => ?_)
            clear hK K
            try simp only [List.getElem_toArray, List.getElem_cons_succ, List.getElem_cons_zero, Act.put, List.setIfInBounds_toArray, List.set_cons_zero, List.set_cons_succ]
            refine wpAnyH_take (i := 4) (v := ?_) rfl (by kernel_rfl) (by kernel_rfl) (by kernel_rfl) (fun _ _ _ h => h) (yields_pure (by rfl) (fun w => ?_)) (by with_reducible assumption) ?_
            rotate_left
            · (go_simp <;> with_reducible rfl)
            try simp only [List.getElem_toArray, List.getElem_cons_succ, List.getElem_cons_zero, Act.put, List.setIfInBounds_toArray, List.set_cons_zero, List.set_cons_succ]
            refine wpAnyH_done (by kernel_rfl) ?_ _
            refine NoPanic.normal ?_
            go_wp2_with fail
            refine bodyPost_ret (results_blk3 rfl rfl rfl hB14' hB15 rfl rfl _ _ Try.underlying41 rfl (by kernel_rfl) Try.underlying49 rfl (by kernel_rfl)) rfl ?_
            exact HFIN.out w15 (((Chg.refl _ w13).drew.trans (hc14.more (by simp))).trans (hc15.more (by simp)))
        · rw [hu] at k1
          clear hu
          go_upto_region 11 with fail
          clear k1 k6 f1 l1
          have hRB := Lib.hid hBB.rangeQ
          have hRW := hRB5.out.chg HCH.out (by simp)
          have HD11 := Lib.hid ((HC3.out.trans HC5.out).trans HCH.out)
          have hsz : c.l.length * 7 ≤ cap5 * 7 := by rw [hN]; omega
          have hilc : i < c.l.length := by omega
          clear HCH
          go_upto_region 12 with (first
            | (refine wpList_row 46 (.tmp 11) rfl rfl gb 0 rfl _ _ hRB.out Try.underlying46 rfl infR ?_)
            | (refine wpList_store_row encR_len rfl 46 (.tmp 67) (.tmp 66) rfl hRW hilc hsz ({ x with opn := false, failed := 0, risen := x.risen + 1 }) rfl rfl (by kernel_rfl) (encR_one _) ?_; intro w12 hRW12 hc12)
            | fail)
          have hP12 := (HBP.out _ HD11.out).chg hc12 (by simp; omega)
          have hx12 := hBX.chg hc12 (by simp; omega)
          have q12 := hP12.cell 1
          have qf12 := hP12.frozen 1
          have ql12 := hP12.lt
          have hP13 := hP12.set_ 1 (.slice (some ⟨g5, 0, none⟩) N cap5)
          have hx13 := hx12.far (p := ⟨gp, 1, none⟩) (by simp; omega) (.slice (some ⟨g5, 0, none⟩) N cap5)
          have hr13 := ((HBR.out _ HD11.out).chg hc12 (by simp; omega)).far (p := ⟨gp, 1, none⟩) (by simp) (.slice (some ⟨g5, 0, none⟩) N cap5)
          have hy13 := ((HBX.out _ HD11.out).chg hc12 (by simp; omega)).far (p := ⟨gp, 1, none⟩) (by simp; omega) (.slice (some ⟨g5, 0, none⟩) N cap5)
          have hc13 := (Chg.refl [gp] w12).setCell (p := ⟨gp, 1, none⟩) (.inl (by simp)) (.slice (some ⟨g5, 0, none⟩) N cap5)
          have H12 := Lib.hid (And.intro hRW12 (And.intro hc12 hc13))
          clear hRW hRB hRW12 hc12 hc13 hP12 hx12 hBB hBX
          go_upto_region 13 with fail
          generalize w12.setCell ⟨gp, 1, none⟩ (.slice (some ⟨g5, 0, none⟩) N cap5) = w13 at *
          have hS13 : (fun W : World => Blk W gp 41 #[.int .i64 c.now, .slice (some ⟨g5, 0, none⟩) N cap5] ∧ Blk W gx 49 #[.int .i64 0, .bool false]) w13.drew := ⟨hP13, hx13⟩
          have HSP : ∀ W : World, (Blk W gp 41 #[.int .i64 c.now, .slice (some ⟨g5, 0, none⟩) N cap5] ∧ Blk W gx 49 #[.int .i64 0, .bool false]) → W.rangeAt gp 0 (#[.int .i64 c.now, .slice (some ⟨g5, 0, none⟩) N cap5] : Array Value).toList := fun W h => h.1.rangeQ
          have HSX : ∀ W : World, (Blk W gp 41 #[.int .i64 c.now, .slice (some ⟨g5, 0, none⟩) N cap5] ∧ Blk W gx 49 #[.int .i64 0, .bool false]) → W.rangeAt gx 0 (#[.int .i64 0, .bool false] : Array Value).toList := fun W h => h.2.rangeQ
          have hgx1 : gx ≠ gp + 1 := by omega
          have hgx2 : gx ≠ gp + 1 + 1 := by omega
          clear q12 qf12 ql12
          have HFIN : Hid (∀ w15, Chg [gp + 1, gp + 1 + 1] w13 w15 → ARPost w (.slice (some ⟨b, o, none⟩) N cp) c n s (.returned (.tuple #[.agg #[.int .i64 c.now, .slice (some ⟨g5, 0, none⟩) N cap5], .agg #[.int .i64 0, .bool false], .bool true])) w15) := Lib.hid fun w15 hc15 => by
            rw [HP.out _ _ _ (e1.out.trans (by rw [HHE.out]))]
            obtain ⟨h1, h2, h3⟩ := H12.out
            have hsz11 := HD11.out.size
            have hrow := ((h1.chg h3 (by simp; omega)).chg hc15 (by simp; omega))
            have hlen : (c.l.set i ({ x with opn := false, failed := 0, risen := x.risen + 1 })).length = N := by rw [List.length_set, hN]
            have hown := rowB_own (base := 0) encR_len hrow (by omega) hcm5 (Nat.zero_le _)
            rw [hlen] at hown
            refine ⟨_, rfl, ?_, ?_, ?_⟩
            · unfold OwR
              rw [hlen]
              exact hown
            · exact ((((HCW.out.trans HD11.out).trans' h2 (by intro y hy; simp at hy; subst hy; exact .inr (by have := HGP.out; omega))).trans' h3 (by intro y hy; simp at hy; subst hy; exact .inr (by have := HGP.out; omega))).trans' hc15 (by intro y hy; simp at hy; have := HGP.out; rcases hy with rfl | rfl <;> exact .inr (by omega)))
            · intro y hy
              simp [Value.ownBlock] at hy
              subst hy
              exact .inr (by have := HGP.out; omega)
          clear HD11 H12 HBP HBR HBX HHE HP
          refine wp_region_noPanic ?_
          refine wp_region_held_drew (S := fun W : World => Blk W gp 41 #[.int .i64 c.now, .slice (some ⟨g5, 0, none⟩) N cap5] ∧ Blk W gx 49 #[.int .i64 0, .bool false]) (by kernel_rfl) hS13 (fun _ => ?_)
          refine wpAnyH_take (i := 0) rfl (by kernel_rfl) (by kernel_rfl) (by kernel_rfl) (fun _ _ _ h => h) (yields_row (by rfl) 41 (.tmp 3) rfl gp 0 rfl (#[.int .i64 c.now, .slice (some ⟨g5, 0, none⟩) N cap5]) _ HSP Try.underlying41 rfl infRC) (by with_reducible assumption) ?_
          try simp only [List.getElem_toArray, List.getElem_cons_succ, List.getElem_cons_zero, Act.put, List.setIfInBounds_toArray, List.set_cons_zero, List.set_cons_succ]
          refine wpAnyH_take (i := 1) rfl (by kernel_rfl) (by kernel_rfl) (by kernel_rfl) (fun _ _ _ h => h) (yields_row (by rfl) 49 (.tmp 12) rfl gx 0 rfl (#[.int .i64 0, .bool false]) _ HSX Try.underlying49 rfl infRCh) (by with_reducible assumption) ?_
          try simp only [List.getElem_toArray, List.getElem_cons_succ, List.getElem_cons_zero, Act.put, List.setIfInBounds_toArray, List.set_cons_zero, List.set_cons_succ]
          refine wpAnyH_ready (rs := [2]) (by kernel_rfl) (by simp) (AllReadyH.cons rfl (fun K hK => ?_) AllReadyH.nil)
          · refine step_store_blk rfl 41 (.tmp 6) (.tmp 70) rfl (hr13.drew) rfl rfl rfl (by kernel_rfl) rfl ?_
            intro w14 hB14 hc14
            have hS14 : (fun W : World => Blk W gp 41 #[.int .i64 c.now, .slice (some ⟨g5, 0, none⟩) N cap5] ∧ Blk W gx 49 #[.int .i64 0, .bool false]) w14 := ⟨hS13.1.chg hc14 (by simp), hS13.2.chg hc14 (by simpa using hgx1)⟩
            have hy14 := hy13.drew.chg hc14 (by simp)
            refine hK.out _ _ (by with_reducible assumption) (fun _ => ?_)
            clear hK K
            try simp only [List.getElem_toArray, List.getElem_cons_succ, List.getElem_cons_zero, Act.put, List.setIfInBounds_toArray, List.set_cons_zero, List.set_cons_succ]
            refine wpAnyH_ready (rs := [3]) (by kernel_rfl) (by simp) (AllReadyH.cons rfl (fun K hK => ?_) AllReadyH.nil)
            refine step_store_blk rfl 49 (.tmp 7) (.tmp 71) rfl hy14 rfl rfl rfl (by kernel_rfl) rfl ?_
            intro w15 hB15 hc15
            have hS15 : (fun W : World => Blk W gp 41 #[.int .i64 c.now, .slice (some ⟨g5, 0, none⟩) N cap5] ∧ Blk W gx 49 #[.int .i64 0, .bool false]) w15 := ⟨hS14.1.chg hc15 (by simp; omega), hS14.2.chg hc15 (by simpa using hgx2)⟩
            have hB14' := hB14.chg hc15 (by simp)
            refine hK.out _ _ (by with_reducible assumption) (fun _ => ?_)
            clear hK K
            try simp only [List.getElem_toArray, List.getElem_cons_succ, List.getElem_cons_zero, Act.put, List.setIfInBounds_toArray, List.set_cons_zero, List.set_cons_succ]
            refine wpAnyH_take (i := 4) (v := ?_) rfl (by kernel_rfl) (by kernel_rfl) (by kernel_rfl) (fun _ _ _ h => h) (yields_pure (by rfl) (fun w => ?_)) (by with_reducible assumption) ?_
            rotate_left
            · (go_simp <;> with_reducible rfl)
            try simp only [List.getElem_toArray, List.getElem_cons_succ, List.getElem_cons_zero, Act.put, List.setIfInBounds_toArray, List.set_cons_zero, List.set_cons_succ]
            refine wpAnyH_done (by kernel_rfl) ?_ _
            refine NoPanic.normal ?_
            go_wp2_with fail
            refine bodyPost_ret (results_blk3 rfl rfl rfl hB14' hB15 rfl rfl _ _ Try.underlying41 rfl (by kernel_rfl) Try.underlying49 rfl (by kernel_rfl)) rfl ?_
            exact HFIN.out w15 (((Chg.refl _ w13).drew.trans (hc14.more (by simp))).trans (hc15.more (by simp)))
    · have e1 : Hid (ansC c n s = (c, false, false)) := Lib.hid (by simp only [ansC, hg]; rw [if_neg hos])
      clear h hci hA2 hin hi hx hj hg hBp2 hBr2 hBx2
      generalize hN : c.l.length = N at *
      cases ho : x.opn with
      | false =>
        go_enter Try.func21, Try.ntmps21
        go_wp2_with (first
          | (refine wpList_row 41 (.tmp 3) rfl rfl gp 0 rfl _ _ hR2.out Try.underlying41 rfl infRC ?_)
          | fail)
        refine F1.out.mono ?_
        rintro e w3 ⟨rfl, hc3⟩
        have hR3 := Lib.hid (HR.out w3 hc3)
        have hB3 := HBR.out w3 hc3
        have hX3 := HBX.out w3 hc3
        have k1 := HC1.out w3 hc3
        obtain ⟨b, o, rfl, hrg⟩ := HO.out w3 hc3
        have g2 := hrg 2 (.bool x.opn) rfl
        rw [ho] at g2
        have hnl : ((i : Int) < 0) = False := by simp
        clear hR2 hrg hos ho hw2 HO HR HC1 F1 HBR HBX hgp hsz2
        go_upto_region 3 with fail
        go_wp2_with (first
          | (refine wpList_row 41 (.tmp 3) rfl rfl gp 0 rfl _ _ hR3.out Try.underlying41 rfl infRC ?_)
          | (refine wpList_store_blk rfl 41 _ _ rfl rfl hB3 rfl rfl rfl (by kernel_rfl) rfl ?_; intro w5 hB5 hc5; have hX5 := hX3.chg hc5 (by simp))
          | (refine wpList_store_blk rfl 49 _ _ rfl rfl hX5 rfl rfl rfl (by kernel_rfl) rfl ?_; intro w6 hX6 hc6; have hB6 := hB5.chg hc6 (by simp))
          | fail)
        refine bodyPost_ret (results_blk3 rfl rfl rfl hB6 hX6 rfl rfl _ _ Try.underlying41 rfl (by kernel_rfl) Try.underlying49 rfl (by kernel_rfl)) rfl ?_
        rw [HP.out _ _ _ e1.out]
        exact ⟨_, rfl, HSAME.out w6 (((hc3.more (by simp)).trans (hc5.more (by simp))).trans (hc6.more (by simp)))⟩
      | true =>
        have hsn : (x.seq != s) = true := by
          simp only [bne_iff_ne, ne_eq]
          intro e; exact hos ⟨ho, e⟩
        go_enter Try.func21, Try.ntmps21
        go_wp2_with (first
          | (refine wpList_row 41 (.tmp 3) rfl rfl gp 0 rfl _ _ hR2.out Try.underlying41 rfl infRC ?_)
          | fail)
        refine F1.out.mono ?_
        rintro e w3 ⟨rfl, hc3⟩
        have hR3 := Lib.hid (HR.out w3 hc3)
        have hB3 := HBR.out w3 hc3
        have hX3 := HBX.out w3 hc3
        have k1 := HC1.out w3 hc3
        obtain ⟨b, o, rfl, hrg⟩ := HO.out w3 hc3
        have g2 := hrg 2 (.bool x.opn) rfl
        have g3 := hrg 3 (.int .i64 x.seq) rfl
        rw [ho] at g2
        have hnl : ((i : Int) < 0) = False := by simp
        clear hR2 hrg hos ho hw2 HO HR HC1 F1 HBR HBX hgp hsz2
        go_upto_region 3 with fail
        go_wp2_with (first
          | (refine wpList_row 41 (.tmp 3) rfl rfl gp 0 rfl _ _ hR3.out Try.underlying41 rfl infRC ?_)
          | (refine wpList_store_blk rfl 41 _ _ rfl rfl hB3 rfl rfl rfl (by kernel_rfl) rfl ?_; intro w5 hB5 hc5; have hX5 := hX3.chg hc5 (by simp))
          | (refine wpList_store_blk rfl 49 _ _ rfl rfl hX5 rfl rfl rfl (by kernel_rfl) rfl ?_; intro w6 hX6 hc6; have hB6 := hB5.chg hc6 (by simp))
          | fail)
        refine bodyPost_ret (results_blk3 rfl rfl rfl hB6 hX6 rfl rfl _ _ Try.underlying41 rfl (by kernel_rfl) Try.underlying49 rfl (by kernel_rfl)) rfl ?_
        rw [HP.out _ _ _ e1.out]
        exact ⟨_, rfl, HSAME.out w6 (((hc3.more (by simp)).trans (hc5.more (by simp))).trans (hc6.more (by simp)))⟩
  · have e1 : Hid (ansC c n s = (c, false, false)) := Lib.hid (by
      unfold ansC
      cases hg : getC c n with
      | none => rfl
      | some b => exact absurd (List.mem_map.2 ⟨b, (getC_some hg).1, (getC_some hg).2⟩) hin)
    have hnone := not_nodes hin
    have F1 := Lib.hid (rfind_any c.now n (h.sl.chg0 hA2) (by omega) (r := -1) (.inl ⟨rfl, hnone⟩))
    clear h hci hA2 hin hnone hBp2 hBr2 hBx2 HC1
    go_enter Try.func21, Try.ntmps21
    go_wp2_with (first
      | (refine wpList_row 41 (.tmp 3) rfl rfl gp 0 rfl _ _ hR2.out Try.underlying41 rfl infRC ?_)
      | fail)
    refine F1.out.mono ?_
    rintro e w3 ⟨rfl, hc3⟩
    have hR3 := Lib.hid (HR.out w3 hc3)
    have hB3 := HBR.out w3 hc3
    have hX3 := HBX.out w3 hc3
    clear hR2 hw2 HR F1 HBR HBX hgp hsz2
    go_upto_region 3 with fail
    go_wp2_with (first
      | (refine wpList_row 41 (.tmp 3) rfl rfl gp 0 rfl _ _ hR3.out Try.underlying41 rfl infRC ?_)
      | (refine wpList_store_blk rfl 41 _ _ rfl rfl hB3 rfl rfl rfl (by kernel_rfl) rfl ?_; intro w5 hB5 hc5; have hX5 := hX3.chg hc5 (by simp))
      | (refine wpList_store_blk rfl 49 _ _ rfl rfl hX5 rfl rfl rfl (by kernel_rfl) rfl ?_; intro w6 hX6 hc6; have hB6 := hB5.chg hc6 (by simp))
      | fail)
    refine bodyPost_ret (results_blk3 rfl rfl rfl hB6 hX6 rfl rfl _ _ Try.underlying41 rfl (by kernel_rfl) Try.underlying49 rfl (by kernel_rfl)) rfl ?_
    rw [HP.out _ _ _ e1.out]
    exact ⟨_, rfl, HSAME.out w6 (((hc3.more (by simp)).trans (hc5.more (by simp))).trans (hc6.more (by simp)))⟩
end Go.Proofs.Ytgbdbeaflilmlaa
