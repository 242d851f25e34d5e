/-
  WALKS: the flow table of the balancer: a tick, a new one, the example; a table that there is not. Condition: the table is one that New made; counts and ticks are not great.
-/
import Derived.Test.YtldgdpekhjignaaGreatFtm2
import Derived.Test.YtldgdpekhjignaaGreatFlowSf2t
import Derived.Test.YtldgdpekhjignaaGreatFtm1
set_option linter.unusedVariables false
set_option linter.unusedSimpArgs false
namespace Go.Proofs.YtldgdpekhjignaaGreat.Ft
open Go.RowKit Go.Maps

def goneF (now : Int) (L : List En) : List Fl := (L.filter fun e => decide (e.til ≤ now + 1)).map En.fl
def restF (now : Int) (L : List En) : List En := L.filter fun e => !decide (e.til ≤ now + 1)
def tickS (s : Sx) : Sx := ⟨s.now + 1, restF s.now s.L, { s.c with expired := s.c.expired + (goneF s.now s.L).length }⟩
def outAll (fs : List Fl) (L : List En) : List En := L.filter fun e => !decide (e.fl ∈ fs)
theorem outAll_nil (L : List En) : outAll [] L = L := by simp [outAll]
theorem outAll_snoc (fs : List Fl) (f : Fl) (L : List En) : outAll (fs ++ [f]) L = outE (outAll fs L) f := by
  unfold outAll outE
  rw [List.filter_filter]
  refine List.filter_congr fun e _ => ?_
  by_cases h1 : e.fl ∈ fs <;> by_cases h2 : e.fl = f <;> simp [h1, h2]
theorem foldM_some (D : List Int) : ∀ (M : Int → Option Int) (id a : Int), foldM D M id = some a ↔ id ∉ D ∧ M id = some a := by
  induction D with
  | nil => intro M id a; simp [foldM]
  | cons x D ih =>
    intro M id a
    show foldM D (noM M x) id = some a ↔ _
    rw [ih]
    unfold noM
    by_cases h : id = x
    · subst h; simp
    · simp [h]
section
variable {n : Nat} {I : In} {L : List En}
/-- The places that are due, in order. -/
def dueX (D : List Int) : List Nat := (D.mergeSort fun x y => decide (x ≤ y)).map Int.toNat
theorem Inv.due (h : Inv n I L []) {wls : Nat → List TM} (hw : WI wls I.wM) (h0 : 0 ≤ I.now) :
    (∀ x, x ∈ dueOf (I.now + 1) (wls ((I.now + 1) % 16).toNat) ↔ ∃ i, i ∈ I.od ∧ x = (i : Nat) ∧ (I.ls i).til = I.now + 1) ∧ (dueOf (I.now + 1) (wls ((I.now + 1) % 16).toNat)).Nodup := by
  have hs : ((I.now + 1) % 16).toNat < 16 := by omega
  refine ⟨fun x => ?_, ?_⟩
  · unfold dueOf
    rw [List.mem_map]
    constructor
    · rintro ⟨t, ht, rfl⟩
      obtain ⟨ht1, ht2⟩ := List.mem_filter.1 ht
      simp only [beq_iff_eq] at ht2
      have h1 := (hw.out _ hs t ht1).1
      obtain ⟨i, hi, _, hid, ha⟩ := (h.whl _ _).1 h1
      exact ⟨i, hi, hid, by rw [← ha, ht2]⟩
    · rintro ⟨i, hi, rfl, hti⟩
      have h1 := (h.whl (i : Nat) (I.now + 1)).2 ⟨i, hi, by simp, rfl, hti.symm⟩
      exact ⟨⟨(i : Nat), I.now + 1⟩, List.mem_filter.2 ⟨(hw.inl _ _ h1).2.2.2, by simp⟩, rfl⟩
  · unfold dueOf
    have := hw.nd _ hs
    exact List.Nodup.sublist (List.Sublist.map _ List.filter_sublist) this
theorem dueX_spec {D : List Int} (hD : ∀ x, x ∈ D ↔ ∃ i, i ∈ I.od ∧ x = (i : Nat) ∧ (I.ls i).til = I.now + 1) (hn : D.Nodup) :
    (D.mergeSort fun x y => decide (x ≤ y)) = (dueX D).map (fun i => ((i : Nat) : Int)) ∧ (dueX D).Nodup ∧ (∀ i, i ∈ dueX D ↔ i ∈ I.od ∧ (I.ls i).til = I.now + 1) ∧ (dueX D).length = D.length := by
  have hp := List.mergeSort_perm D (fun x y => decide (x ≤ y))
  have hpos : ∀ x ∈ (D.mergeSort fun x y => decide (x ≤ y)), ((x.toNat : Nat) : Int) = x := fun x hx => by
    obtain ⟨i, _, rfl, _⟩ := (hD x).1 (hp.mem_iff.1 hx)
    simp
  have e1 : (D.mergeSort fun x y => decide (x ≤ y)) = (dueX D).map (fun i => ((i : Nat) : Int)) := by
    unfold dueX
    rw [List.map_map]
    have : ((D.mergeSort fun x y => decide (x ≤ y)).map ((fun i : Nat => (i : Int)) ∘ Int.toNat)) = (D.mergeSort fun x y => decide (x ≤ y)).map id := List.map_congr_left fun x hx => hpos x hx
    rw [this, List.map_id]
  have hnd : (dueX D).Nodup := by
    have h2 : (D.mergeSort fun x y => decide (x ≤ y)).Nodup := hp.nodup_iff.2 hn
    rw [e1] at h2
    unfold List.Nodup at h2 ⊢
    rw [List.pairwise_map] at h2
    exact h2.imp fun hne e => hne (by rw [e])
  refine ⟨e1, hnd, fun i => ?_, by unfold dueX; rw [List.length_map, hp.length_eq]⟩
  constructor
  · intro hi
    have h2 : ((i : Nat) : Int) ∈ (dueX D).map (fun i => ((i : Nat) : Int)) := List.mem_map.2 ⟨i, hi, rfl⟩
    rw [← e1] at h2
    obtain ⟨j, hj, hij, ht⟩ := (hD _).1 (hp.mem_iff.1 h2)
    have : i = j := by omega
    subst this
    exact ⟨hj, ht⟩
  · rintro ⟨hi, ht⟩
    have h2 : ((i : Nat) : Int) ∈ (D.mergeSort fun x y => decide (x ≤ y)) := hp.mem_iff.2 ((hD _).2 ⟨i, hi, rfl, ht⟩)
    rw [e1] at h2
    obtain ⟨j, hj, e⟩ := List.mem_map.1 h2
    have : i = j := by omega
    subst this
    exact hj
theorem Inv.advance (h : Inv n I L []) {D : List Int} {X : List Nat} (hD : ∀ x, x ∈ D ↔ ∃ i, i ∈ I.od ∧ x = (i : Nat) ∧ (I.ls i).til = I.now + 1) (hX : ∀ i, i ∈ X ↔ i ∈ I.od ∧ (I.ls i).til = I.now + 1) :
    Inv n { I with now := I.now + 1, wM := foldM D I.wM } L X := by
  refine ⟨h.ndo, h.ndf, h.sep, h.all, h.L, h.key, fun id a => ?_, h.cnt, fun i hi => ?_, h.ok⟩
  · show foldM D I.wM id = some a ↔ _
    rw [foldM_some, h.whl id a]
    constructor
    · rintro ⟨hnd, i, hi, _, hid, ha⟩
      refine ⟨i, hi, fun hx => hnd ((hD id).2 ⟨i, hi, hid, ((hX i).1 hx).2⟩), hid, ha⟩
    · rintro ⟨i, hi, hx, hid, ha⟩
      refine ⟨fun hd => ?_, i, hi, by simp, hid, ha⟩
      obtain ⟨j, hj, hjd, ht⟩ := (hD id).1 hd
      have : i = j := by omega
      subst this
      exact hx ((hX i).2 ⟨hi, ht⟩)
  · have ht := h.tm i hi
    have h1 := ht.2 (by simp)
    show (I.ls i).til ≤ I.now + 1 + 40 ∧ (i ∉ X → I.now + 1 < (I.ls i).til)
    refine ⟨by omega, fun hx => ?_⟩
    have : ¬ (I.ls i).til = I.now + 1 := fun e => hx ((hX i).2 ⟨hi, e⟩)
    omega
/-- What stays, what goes. -/
theorem Inv.rest (h : Inv n I L []) {X : List Nat} (hX : ∀ i, i ∈ X ↔ i ∈ I.od ∧ (I.ls i).til = I.now + 1) (hnd : X.Nodup) :
    outAll (X.map fun i => (I.ls i).fl) L = restF I.now L ∧ (X.map fun i => (I.ls i).fl).Perm (goneF I.now L) ∧ (X.map fun i => (I.ls i).fl).Nodup := by
  have key : ∀ i, i ∈ I.od → ((I.ls i).til ≤ I.now + 1 ↔ (I.ls i).til = I.now + 1) := fun i hi => by
    have := (h.tm i hi).2 (by simp)
    omega
  have hn : (X.map fun i => (I.ls i).fl).Nodup := by
    unfold List.Nodup
    rw [List.pairwise_map]
    exact List.Pairwise.imp_of_mem (fun ha hb hne e => hne (h.inj ((hX _).1 ha).1 ((hX _).1 hb).1 e)) hnd
  refine ⟨?_, ?_, hn⟩
  · unfold outAll restF
    refine List.filter_congr fun e he => ?_
    rw [h.L] at he
    obtain ⟨i, hi, rfl⟩ := List.mem_map.1 he
    congr 1
    rw [decide_eq_decide, key i hi]
    constructor
    · intro hm
      obtain ⟨j, hj, e⟩ := List.mem_map.1 hm
      have := h.inj ((hX j).1 hj).1 hi e
      subst this
      exact ((hX j).1 hj).2
    · intro ht
      exact List.mem_map.2 ⟨i, (hX i).2 ⟨hi, ht⟩, rfl⟩
  · refine (List.perm_ext_iff_of_nodup hn ?_).2 fun f => ?_
    · unfold goneF
      exact List.Nodup.sublist (List.Sublist.map _ List.filter_sublist) h.nd
    · unfold goneF
      rw [List.mem_map, List.mem_map]
      constructor
      · rintro ⟨i, hi, rfl⟩
        obtain ⟨h1, h2⟩ := (hX i).1 hi
        exact ⟨I.ls i, List.mem_filter.2 ⟨by rw [h.L]; exact List.mem_map.2 ⟨i, h1, rfl⟩, by simp [h2]⟩, rfl⟩
      · rintro ⟨e, he, rfl⟩
        obtain ⟨h1, h2⟩ := List.mem_filter.1 he
        rw [h.L] at h1
        obtain ⟨i, hi, rfl⟩ := List.mem_map.1 h1
        exact ⟨i, (hX i).2 ⟨hi, (key i hi).1 (by simpa using h2)⟩, rfl⟩
end
theorem once_perm {l : List Fl} (h : l.Nodup) : (onceF l).Perm l := (List.perm_ext_iff_of_nodup (nodup_onceF l) h).2 fun _ => mem_onceF
end Go.Proofs.YtldgdpekhjignaaGreat.Ft
namespace Go.Proofs.YtldgdpekhjignaaGreat.Ft
open Go.RowKit Go.Maps

def xpC (c : Cn) (j : Nat) : Cn := { c with expired := c.expired + j }
section
variable {w : World} {B : Bx} {n : Nat} {ka kb : Int} {J : Jx} {I : In} {L : List En} {s : Sx}
/-- A row of flows lies apart from a table. -/
theorem MemJ.fl_ne (h : MemJ w B n ka kb J I) {base m : Nat} {v : Value} {xs : List Value} (ho : w.ownsRow base 38 34 v m xs) : ∀ x ∈ v.ownBlock.toList, x ∉ footT B J := by
  intro x hx hm
  have ht := own_tag ho x hx
  obtain ⟨t1, t2, t3, t4, t5, t6, t7, t8, t9⟩ := h.tags
  rcases mem_footT.1 hm with hm | hm | hm
  · rcases mem_fixB.1 hm with rfl | rfl | rfl | rfl | rfl | rfl | rfl | rfl | rfl
    all_goals first | rw [t1] at ht | rw [t2] at ht | rw [t3] at ht | rw [t4] at ht | rw [t5] at ht | rw [t6] at ht | rw [t7] at ht | rw [t8] at ht | rw [t9] at ht
    all_goals exact absurd ht (by decide)
  · rw [h.tag_f x hm] at ht
    exact absurd ht (by decide)
  · have h2 := h.tag_w x hm
    rw [ht] at h2
    exact absurd h2 (by decide)
theorem Inv.cX {X : List Nat} (h : Inv n I L X) (c' : Cn) : Inv n { I with c := c' } L X := ⟨h.ndo, h.ndf, h.sep, h.all, h.L, h.key, h.whl, h.cnt, h.tm, h.ok⟩
theorem take_snoc {α : Type} {l : List α} {j : Nat} {x : α} (h : l[j]? = some x) : l.take (j + 1) = l.take j ++ [x] := by rw [List.take_add_one, h]; rfl
set_option maxRecDepth 100000 in
set_option maxHeartbeats 2000000 in
theorem tick_any {tb : Nat} {F : List Nat} {k : Nat} (h : FT w tb n F k s) (hn0 : 0 ≤ s.now) (hn1 : s.now ≤ 100000) (hC : bC s.c) :
    Calls Tryz.prog 21 #[.pointer (some ⟨tb, 0, none⟩)] w fun e w' =>
      ∃ v L' F' b, e = .returned v ∧ L'.Perm (goneF s.now s.L) ∧ SrtF L' ∧ Sl w' b 34 v L'.length (L'.flatMap encF) ∧ FT w' tb n F' k (tickS s) ∧ Chg F w w' ∧ (∀ x ∈ F', x ∈ F ∨ w.heap.size ≤ x) ∧ (∀ x ∈ F', x < b) ∧ w.heap.size ≤ b := by
  obtain ⟨B, ka, kb, J, I, rfl, h2, h3, h4, h5, rfl, h7⟩ := h
  have FI := Lib.hid h2.is_
  have c10 : w.cell? ⟨B.tb, 10, none⟩ = some (.pointer (some ⟨B.wb, 0, none⟩)) := h2.cT 10
  have FA := Lib.hid (advance_any h2.whl (by omega) (by omega))
  obtain ⟨hD, hDn⟩ := h3.due h2.whl.wi (by omega)
  have HD := Lib.hid hD
  have HDN := Lib.hid hDn
  have HM := Lib.hid h2
  have HI := Lib.hid h3
  have hn64 := h2.hi
  have hle := h3.le
  have hCC := Lib.hid hC
  clear h2 h3 hD hDn hC
  go_enter Tryz.func21, Tryz.ntmps21
  go_wp2_with fail
  refine FI.out.mono ?_
  rintro e w' ⟨rfl, rfl⟩
  clear FI
  go_wp2_with fail
  refine FA.out.mono ?_
  rintro e w2 ⟨v2, D, rfl, hDe, hown, vs', hW2, hc2, hf2, hnf⟩
  rw [← hDe] at HD HDN
  obtain ⟨hM2, hS2⟩ := HM.out.setW hW2 hc2 hf2
  obtain ⟨hXe, hXn, hX, hXl⟩ := dueX_spec (I := I) HD.out HDN.out
  have hInv := HI.out.advance HD.out hX
  have hRest := HI.out.rest hX hXn
  rw [← hXl, hXe, List.map_map] at hown
  generalize dueX D = X at *
  obtain ⟨fs, hfs⟩ : ∃ fs : List Fl, fs = X.map fun i => (I.ls i).fl := ⟨_, rfl⟩
  rw [← hfs] at hRest
  obtain ⟨J2, hJ2⟩ : ∃ J2 : Jx, J2 = { J with vs := vs', wls := foldL D J.wls, nw := J.nw } := ⟨_, rfl⟩
  obtain ⟨I2, hI2⟩ : ∃ I2 : In, I2 = { I with now := I.now + 1, wM := foldM D I.wM } := ⟨_, rfl⟩
  have HM2 : Hid (MemJ w2 B n ka kb J2 I2) := Lib.hid (by rw [hJ2, hI2]; exact hM2)
  have HS2 : Hid (Stp w w2 B J J2 ∧ J2.nw = J.nw) := Lib.hid (by rw [hJ2]; exact ⟨hS2, rfl⟩)
  have HI2 : Hid (Inv n I2 s.L X ∧ I2.now = s.now + 1 ∧ I2.c = s.c ∧ I2.od = I.od ∧ I2.ls = I.ls) := Lib.hid (by rw [hI2]; exact ⟨hInv, by show I.now + 1 = _; rw [h4], h5, rfl, rfl⟩)
  have HX := Lib.hid (And.intro hX hXn)
  have HRest := Lib.hid hRest
  have HOK : Hid (∀ f ∈ fs, okF f) := Lib.hid (fun f hf => by
    rw [hfs] at hf
    obtain ⟨i, hi, rfl⟩ := List.mem_map.1 hf
    exact (HI.out.ok i ((hX i).1 hi).1).fl)
  have HFS : Hid (fs.length = X.length ∧ ∀ j i, X[j]? = some i → fs[j]? = some (I.ls i).fl) := Lib.hid ⟨by rw [hfs, List.length_map], fun j i hj => by rw [hfs, List.getElem?_map, hj]; rfl⟩
  have HDB : Hid (∀ x ∈ v2.ownBlock.toList, x ∉ footT B J2 ∧ x < w2.heap.size) := Lib.hid (fun x hx => by
    have h1 := own_lt hown x hx
    refine ⟨fun hm => ?_, h1.2⟩
    rw [hJ2] at hm
    rcases mem_footT.1 hm with hm | hm | hm
    · have := HM.out.lt x (mem_footT.2 (.inl hm)); omega
    · have := HM.out.lt x (mem_footT.2 (.inr (.inl hm))); omega
    · exact hnf x hx hm)
  have HOW2 := Lib.hid hown
  obtain ⟨A, cp, hv⟩ := Sl.form (Sl.of_own hown)
  subst hv
  have hXlen : X.length ≤ n := by
    have := hXn.length_le_of_subset (l₂ := I.od) (fun x hx => ((hX x).1 hx).1)
    omega
  have hsz2 := hc2.size
  clear FA hDe hown hW2 hc2 hf2 hnf hM2 hS2 hXe hXn hX hXl hInv hRest hJ2 hI2 HD HDN HM HI hfs c10
  generalize hNN : X.length = N at *
  go_wp2_with fail
  go_loopw [3, 18] (fun ov iv wr => ∃ (j : Nat) (Jj : Jx) (Ij : In), j ≤ N ∧ iv = .int .i64 j ∧ Hid (MemJ wr B n ka kb Jj Ij) ∧
    Hid (Inv n Ij (outAll (fs.take j) s.L) X ∧ Ij.now = s.now + 1 ∧ Ij.c = xpC s.c j ∧ (∀ i ∈ X.drop j, i ∈ Ij.od ∧ Ij.ls i = I.ls i) ∧ (∀ i ∈ X.take j, i ∉ Ij.od)) ∧
    Hid (Stp w wr B J Jj ∧ Jj.nw = J.nw ∧ w2.heap.size ≤ wr.heap.size) ∧ Hid (wr.ownsRow w2.heap.size 38 34 ov j ((fs.take j).flatMap encF)) ∧
    Hid (wr.ownsRow w.heap.size 3 1 (.slice A N cp) N (X.map ((Value.int .i64) ∘ fun i => ((i : Nat) : Int))) ∧ ∀ x ∈ (Value.slice A N cp).ownBlock.toList, x ∉ footT B Jj)) (fun _ iv _ => N - (intOf iv).toNat)
  case atStart =>
    refine ⟨0, J2, I2, by omega, rfl, HM2, Lib.hid ⟨by rw [List.take_zero, outAll_nil]; exact HI2.out.1, HI2.out.2.1, by rw [HI2.out.2.2.1]; unfold xpC; simp, fun i hi => ?_, by simp⟩, Lib.hid ⟨HS2.out.1, HS2.out.2, Nat.le_refl _⟩, Lib.hid (by simpa using World.ownsRow_nil ..), Lib.hid ⟨HOW2.out, fun x hx => (HDB.out x hx).1⟩⟩
    rw [List.drop_zero] at hi
    rw [HI2.out.2.2.2.1, HI2.out.2.2.2.2]
    exact ⟨((HX.out.1 i).1 hi).1, rfl⟩
  case round =>
    clear HM2 HS2 HI2 HOW2
    obtain ⟨j, Jj, Ij, hj, rfl, HM, HI, HS, HOW, HDU⟩ := hrel
    by_cases hlt : j < N
    · have hx : X[j]? = some (X[j]'(by omega)) := List.getElem?_eq_getElem _
      generalize (X[j]'(by omega)) = x at hx
      have hxX : x ∈ X := List.mem_of_getElem? hx
      have hxd : x ∈ X.drop j := by
        refine List.mem_of_getElem? (i := 0) ?_
        rw [List.getElem?_drop]; exact hx
      obtain ⟨hxo, hxl⟩ := HI.out.2.2.2.1 x hxd
      have hin : x < n := (HI.out.1.all x).2 (.inl hxo)
      obtain ⟨b', o', c', hv', _, _, hg⟩ := Sl.at_ (Sl.of_own HDU.out.1) hlt (by omega)
      simp only [Value.slice.injEq, true_and] at hv'
      obtain ⟨rfl, rfl⟩ := hv'
      have g0 := hg 0 (by omega)
      simp only [Nat.mul_one, Nat.add_zero, List.getElem?_map, hx, Option.map_some] at g0
      replace g0 : wr.cell? ⟨b', o' + j, none⟩ = some (.int .i64 (x : Nat)) := g0
      have c7 : wr.cell? ⟨B.tb, 7, none⟩ = some (.slice (some ⟨B.lc, 0, none⟩) n n) := HM.out.cT 7
      have hr7 := HM.out.flow hin
      have hfx := HFS.out.2 j x hx
      rw [hxl] at hr7
      have hxI : (x : Int) < (n : Int) := by omega
      have hkx := (HI.out.1.key (Ij.ls x).fl x).2 ⟨x, hxo, rfl, rfl⟩
      have hokx := (HI.out.1.ok x hxo).fl
      have hfrl : Ij.fr.length ≤ 64 := by have := HI.out.1.le; omega
      have hTK := Lib.hid (take_snoc hfx)
      have hTX := Lib.hid (take_snoc hx)
      have hinv := HI.out.1.drop hxo
      rw [hxl, ← outAll_snoc, ← hTK.out] at hinv
      have hA := (Chg.refl [] wr).alloc (.cells (arrF (I.ls x).fl) 38)
      have HR1 := Lib.hid (own_chg HOW.out hA (by simp))
      have HS1 : Hid (Sl (wr.alloc (.cells (arrF (I.ls x).fl) 38)) 0 34 (.slice (some ⟨wr.heap.size, 0, none⟩) 1 1) 1 (encF (I.ls x).fl)) := Lib.hid (Sl.of_own (own_lit (base := 0) wr 38 34 1 (arrF (I.ls x).fl) (Nat.zero_le _) (by simp [maxLen]) rfl))
      have HNE := Lib.hid (HM.out.fl_ne HOW.out)
      have HLO := Lib.hid (own_lt HOW.out)
      have HMA := Lib.hid (HM.out.chg0 hA)
      have HDA := Lib.hid (own_chg HDU.out.1 hA (by simp))
      have HAL := Lib.hid hA
      have hws : w2.heap.size ≤ (wr.alloc (.cells (arrF (I.ls x).fl) 38)).heap.size := by have := HS.out.2.2; have := hA.size; omega
      have HDF : Hid (∀ y ∈ u3.ownBlock.toList, y ∉ (Value.slice (some ⟨b', o', none⟩) N cp).ownBlock.toList) := Lib.hid (fun y hy hm => by
        have h1 := HLO.out y hy
        have h2 := HDB.out y hm
        omega)
      have hj1000 : j < 1000 := by omega
      have HKX := Lib.hid (And.intro hin (And.intro hokx (And.intro hkx hfrl)))
      have HINV := Lib.hid hinv
      have HXO := Lib.hid hxo
      clear hg hx hxX hxd hxo hxl hfx hkx hokx hfrl hinv hA hin HOW
      generalize hff : (I.ls x).fl = f at *
      clear hff
      go_wp2_with (first
        | (refine wpList_row 38 (.tmp 29) rfl rfl B.lc (x * 37) rfl (arrF f) _ hr7 Tryz.underlying38 rfl infF ?_)
        | (at_builtin; refine wpList_app elFl rfl (.tmp 22) (.tmp 31) rfl w2.heap.size rfl HR1.out rfl HS1.out (encF_one _) (by unfold maxLen; omega) (by omega) hws ?_; intro v5 w5 hown5 hc5 hb5; replace hc5 : Chg u3.ownBlock.toList (wr.alloc (.cells (arrF f) 38)) w5 := hc5; have HM5 := Lib.hid (HMA.out.chg hc5 HNE.out); have HD5 := Lib.hid (own_chg HDA.out hc5 (fun y hy hm => HDF.out y hm hy)); have HO5 := Lib.hid hown5; have HC5 : Hid (Chg u3.ownBlock.toList wr w5) := Lib.hid ((HAL.out.more (by simp)).trans hc5); obtain ⟨A5, c5, rfl⟩ := Sl.form (Sl.of_own hown5); clear hown5 hc5 hb5)
        | fail)
      have HS5 : Hid (Stp w w5 B J Jj) := Lib.hid ⟨HS.out.1.chg.trans' HC5.out (fun y hy => .inr (by have := (HLO.out y hy).1; omega)), HS.out.1.ft⟩
      have hlen5 := HC5.out.size
      have FD := Lib.hid (drop_any HM5.out HKX.out.1 HKX.out.2.1 HKX.out.2.2.1 HKX.out.2.2.2)
      have HN5 := Lib.hid (HM5.out.fl_ne HO5.out)
      clear g0 c7 hr7 HR1 HS1 HNE HLO HMA HDA HAL HDF HKX hws
      go_wp2_with fail
      refine FD.out.mono ?_
      rintro e w6 ⟨rfl, J6, hM6, hS6, hn6⟩
      have c4 : w6.cell? ⟨B.tb, 4, none⟩ = some (.int .i64 (s.c.expired + j)) := by
        have := hM6.cT 4
        rw [show (Ij.drop x).c = xpC s.c j from HI.out.2.2.1] at this
        exact this
      have f4 := hM6.fT 4
      have hwm : IntKind.i64.wrap (s.c.expired + j + 1) = s.c.expired + j + 1 := by have := hCC.out.expired; unfold bN at this; rw [IntKind.wrap_i64]; omega
      obtain ⟨hM7, hS7⟩ := hM6.setC (c' := xpC s.c (j + 1)) (i := 4) (u := .int .i64 (s.c.expired + j + 1)) (by rw [show (Ij.drop x).c = xpC s.c j from HI.out.2.2.1]; unfold xpC; simp only [Int.natCast_add, Int.cast_ofNat_Int, ← Int.add_assoc]; rfl)
      have HFIN : Hid (∃ J' I', MemJ (w6.setCell ⟨B.tb, 4, none⟩ (.int .i64 (s.c.expired + j + 1))) B n ka kb J' I' ∧
          (Inv n I' (outAll (fs.take (j + 1)) s.L) X ∧ I'.now = s.now + 1 ∧ I'.c = xpC s.c (j + 1) ∧ (∀ i ∈ X.drop (j + 1), i ∈ I'.od ∧ I'.ls i = I.ls i) ∧ (∀ i ∈ X.take (j + 1), i ∉ I'.od)) ∧
          (Stp w (w6.setCell ⟨B.tb, 4, none⟩ (.int .i64 (s.c.expired + j + 1))) B J J' ∧ J'.nw = J.nw ∧ w2.heap.size ≤ (w6.setCell ⟨B.tb, 4, none⟩ (.int .i64 (s.c.expired + j + 1))).heap.size) ∧
          (w6.setCell ⟨B.tb, 4, none⟩ (.int .i64 (s.c.expired + j + 1))).ownsRow w2.heap.size 38 34 (.slice A5 (j + 1) c5) (j + 1) ((fs.take (j + 1)).flatMap encF) ∧
          ((w6.setCell ⟨B.tb, 4, none⟩ (.int .i64 (s.c.expired + j + 1))).ownsRow w.heap.size 3 1 (.slice (some ⟨b', o', none⟩) N cp) N (X.map ((Value.int .i64) ∘ fun i => ((i : Nat) : Int))) ∧ ∀ y ∈ (Value.slice (some ⟨b', o', none⟩) N cp).ownBlock.toList, y ∉ footT B J')) := Lib.hid (by
        have hS57 : Stp w5 (w6.setCell ⟨B.tb, 4, none⟩ (.int .i64 (s.c.expired + j + 1))) B Jj J6 := hS6.trans hS7
        have hodX : (X.drop j) = x :: X.drop (j + 1) := by
          have h1 := hTX.out
          have h2 := List.take_append_drop (j + 1) X
          rw [h1, List.append_assoc] at h2
          have h3 := List.take_append_drop j X
          have h4 : X.take j ++ ([x] ++ X.drop (j + 1)) = X.take j ++ X.drop j := h2.trans h3.symm
          exact (List.append_cancel_left h4).symm
        have hxn : x ∉ X.drop (j + 1) := by
          have hnd := HX.out.2
          have : (X.drop j).Nodup := hnd.sublist (List.drop_sublist _ _)
          rw [hodX] at this
          exact (List.nodup_cons.1 this).1
        refine ⟨J6, { Ij.drop x with c := xpC s.c (j + 1) }, hM7, ⟨HINV.out.cX _, HI.out.2.1, rfl, fun i hi => ?_, fun i hi => ?_⟩, ⟨HS5.out.trans hS57, by rw [hn6]; exact HS.out.2.1, by have := hS57.chg.size; have := HS.out.2.2; omega⟩, ?_, own_chg HD5.out hS57.chg HDU.out.2, fun y hy hm => ?_⟩
        · have hne : i ≠ x := fun e => hxn (e ▸ hi)
          obtain ⟨h1, h2⟩ := HI.out.2.2.2.1 i (by rw [hodX]; exact List.mem_cons_of_mem _ hi)
          exact ⟨(HI.out.1.ndo.mem_erase_iff).2 ⟨hne, h1⟩, by show updE Ij.ls x e0 i = _; rw [updE_other _ _ hne]; exact h2⟩
        · show i ∉ Ij.od.erase x
          rw [hTX.out] at hi
          intro hm
          obtain ⟨h1, h2⟩ := (HI.out.1.ndo.mem_erase_iff).1 hm
          rcases List.mem_append.1 hi with hi | hi
          · exact HI.out.2.2.2.2 i hi h2
          · simp at hi; exact h1 hi
        · rw [hTK.out, List.flatMap_append, List.flatMap_cons, List.flatMap_nil, List.append_nil]
          exact own_chg HO5.out hS57.chg HN5.out
        · rcases hS57.ft y hm with h1 | h1
          · exact HDU.out.2 y hy h1
          · have h2 := HDB.out y hy
            have := HS.out.2.2
            omega)
      clear hM6 hS6 hn6 hM7 hS7 FD HM5 HD5 HO5 HC5 HS5 HN5 HINV HM HI HS HDU hTK hTX HXO
      go_wp2_with fail
      go_roundw
      case rel =>
        obtain ⟨J', I', z1, z2, z3, z4, z5⟩ := HFIN.out
        exact ⟨j + 1, J', I', by omega, by go_num, Lib.hid z1, Lib.hid z2, Lib.hid z3, Lib.hid z4, Lib.hid z5⟩
      case measure => simp [intOf]; omega
    · obtain rfl : j = N := by omega
      have htf : fs.take j = fs := List.take_of_length_le (Nat.le_of_eq HFS.out.1)
      have htx : X.take j = X := List.take_of_length_le (Nat.le_of_eq hNN)
      have hlf : fs.length = j := HFS.out.1
      have hsl : SlF wr u3 fs := by
        have := (Sl.of_own HOW.out).less (B' := 0) (Nat.zero_le _)
        rw [htf] at this
        unfold SlF
        rw [hlf]
        exact this
      have FS := Lib.hid (fsort_any hsl (by omega) HOK.out)
      have HFIN : Hid (∃ F', FT wr B.tb n F' k (tickS s) ∧ Chg (footT B J) w wr ∧ (∀ x ∈ F', x ∈ footT B J ∨ w.heap.size ≤ x) ∧ (∀ x ∈ F', x < wr.heap.size) ∧ w.heap.size ≤ wr.heap.size) := Lib.hid (by
        obtain ⟨i1, i2, i3, i4, i5⟩ := HI.out
        rw [htf, HRest.out.1] at i1
        rw [htx] at i5
        have i6 := i1.clean (fun i hi hx => i5 i hx hi)
        refine ⟨footT B Jj, ⟨B, ka, kb, Jj, Ij, rfl, HM.out, ?_, i2, ?_, rfl, by have := HS.out.2.1; omega⟩, HS.out.1.chg, HS.out.1.ft, HM.out.lt, HS.out.1.chg.size⟩
        · rw [h4] at i6
          exact i6
        · rw [i3]
          unfold xpC tickS
          rw [← h4, ← HRest.out.2.1.length_eq, hlf])
      have HP : Hid (∀ L' : List Fl, L'.Perm (onceF fs) → L'.Perm (goneF s.now s.L)) := Lib.hid (fun L' hp => (hp.trans (once_perm HRest.out.2.2)).trans (by rw [← h4]; exact HRest.out.2.1))
      clear HM HI HS HOW HDU htf htx hsl
      go_wp2_with fail
      refine FS.out.mono ?_
      rintro e w9 ⟨v9, L9, rfl, hp9, hs9, hsl9, hc9⟩
      have HFIN2 : Hid (∃ L' F' b, L'.Perm (goneF s.now s.L) ∧ SrtF L' ∧ Sl w9 b 34 v9 L'.length (L'.flatMap encF) ∧ FT w9 B.tb n F' k (tickS s) ∧ Chg (footT B J) w w9 ∧ (∀ x ∈ F', x ∈ footT B J ∨ w.heap.size ≤ x) ∧ (∀ x ∈ F', x < b) ∧ w.heap.size ≤ b) := Lib.hid (by
        obtain ⟨F', f1, f2, f3, f4, f5⟩ := HFIN.out
        exact ⟨L9, F', wr.heap.size, HP.out L9 hp9, hs9, hsl9, f1.chg0 hc9, f2.trans' hc9 (by simp), f3, f4, f5⟩)
      clear hp9 hs9 hsl9 hc9 FS HFIN HP
      go_wp2_with fail
      go_ret
      obtain ⟨L', F', b, z⟩ := HFIN2.out
      exact ⟨_, L', F', b, rfl, z⟩
end
end Go.Proofs.YtldgdpekhjignaaGreat.Ft
namespace Go.Proofs.YtldgdpekhjignaaGreat.Ft
open Go.RowKit Go.Maps

def I0 (n : Nat) (fr : List Nat) : In := ⟨[], fun _ => e0, fr, 0, M0, fun _ => none, 0, ⟨0, 0, 0, 0, 0, 0⟩⟩
theorem infoE : (Tryz.prog.info? 44).map (fun i => (i.zero, i.size, i.bytes)) = some (some (.agg (arrE e0)), 37, 72) := by kernel_rfl
theorem made_rows {w : World} {g n : Nat} (h : Blk w g 44 (madeCells (arrE e0) (n * 37))) : RowB encE 37 w g 44 (n * 37) ((List.range n).map fun _ => e0) := by
  have e : (List.range n).map (fun _ => e0) = List.replicate n e0 := by rw [List.map_const', List.length_range]
  rw [e]
  exact Fs.RowB.made encE_len (by omega) e0 n h
def B0 (pb pc kc lc ob rb ga gb wb wm g : Nat) : Bx := ⟨g, pb, pc, kc, lc, ob, rb, ga, gb, wb, wm⟩
def J0 : Jx := ⟨.slice none 0 0, fun _ => Fs.free, vs0, ls0, 0⟩
/-- All parts there: the table is made. -/
theorem mem_new {w : World} {n pb pc kc lc ob rb ga gb wb wm g : Nat} {ka kb : Int} (hg : g = w.heap.size) (lo : 1 ≤ n) (hi : n ≤ 64) (hT : Fs.Tab w pb pc kc (2 * n) ka kb (fun _ => Fs.free) 0) (hR : Blk w lc 44 (madeCells (arrE e0) (n * 37)))
    (hO : Rg.Or w ob rb ga gb n []) (hW : Wh w wb wm 0 0 vs0 ls0 M0) :
    MemJ (w.alloc (.cells (arrT ⟨0, 0, 0, 0, 0, 0⟩ (B0 pb pc kc lc ob rb ga gb wb wm g) n (.slice none 0 0)) 63)) (B0 pb pc kc lc ob rb ga gb wb wm g) n ka kb J0 (I0 n []) := by
  subst hg
  have hA := (Chg.refl [] w).alloc (.cells (arrT ⟨0, 0, 0, 0, 0, 0⟩ (B0 pb pc kc lc ob rb ga gb wb wm w.heap.size) n (.slice none 0 0)) 63)
  exact ⟨lo, hi, Blk.new _ _ _, hT.chg0 hA, made_rows (hR.chg hA (by simp)), World.ownsRow_nil .., hO.chg0 hA, hW.chg0 hA, Fs.TF.empty (by omega) (fun k => Fs.hm_lt ka kb (by omega) k), fun x hx => by simp [J0, Value.ownBlock] at hx⟩
set_option maxRecDepth 100000 in
set_option maxHeartbeats 4000000 in
theorem new_any (n : Nat) (ka kb : Int) (w : World) (lo : 1 ≤ n) (hi : n ≤ 64) :
    Calls Tryz.prog 7 #[.int .i64 n, .agg #[.int .u64 ka, .int .u64 kb]] w fun e w' =>
      ∃ tb F, e = .returned (.pointer (some ⟨tb, 0, none⟩)) ∧ FT w' tb n F 0 ⟨0, [], ⟨0, 0, 0, 0, 0, 0⟩⟩ ∧ Chg [] w w' ∧ ∀ x ∈ F, w.heap.size ≤ x := by
  have hA := (Chg.refl [] w).alloc (.cells #[.int .u64 ka, .int .u64 kb] 24)
  have hK : Blk (w.alloc (.cells #[.int .u64 ka, .int .u64 kb] 24)) w.heap.size 24 #[.int .u64 ka, .int .u64 kb] := Blk.new _ _ _
  have HI := Lib.hid (And.intro hA hK)
  obtain ⟨i0, hi0, hz0, hz1, hz2⟩ := info_parts infoE
  have hmk := fun W => make_run (P := Tryz.prog) 41 44 i0 _ Tryz.underlying41 hi0 hz0 n n (Nat.le_refl _) (by rw [hz2]; omega) (by omega) W
  rw [hz1] at hmk
  have d1 : decide ((n : Int) < 1) = false := by simp; omega
  have d2 : decide ((64 : Int) < n) = false := by simp; omega
  have d3 : decide (n < 1) = false := by simp; omega
  have d4 : decide (64 < n) = false := by simp; omega
  obtain ⟨m, hm⟩ : ∃ m : Nat, m = 2 * n := ⟨_, rfl⟩
  have hm2 := And.intro (show 1 ≤ m by omega) (show m ≤ 256 by omega)
  have h2n : (2 : Int) * (n : Int) = (m : Int) := by omega
  have hw2 : IntKind.i64.wrap (m : Int) = (m : Int) := by rw [IntKind.wrap_i64]; omega
  have HMM := Lib.hid hm
  clear hm
  clear hi0 hz0 hz1 hz2 hA hK
  go_enter Tryz.func7, Tryz.ntmps7
  go_upto_region 4 with fail
  obtain ⟨hA, hK⟩ := HI.out
  generalize hw1 : (w.alloc (.cells #[.int .u64 ka, .int .u64 kb] 24)) = w1 at *
  have hs1 : w1.heap.size = w.heap.size + 1 := by rw [← hw1]; simp
  generalize hgg : w.heap.size = kc at *
  clear hw1
  go_cut [6] (fun r wx => ∃ pb pc lc ob rb ga gb wb wm tb, r = .pointer (some ⟨tb, 0, none⟩) ∧ Hid (MemJ wx (B0 pb pc kc lc ob rb ga gb wb wm tb) n ka kb J0 (I0 n [])) ∧ Hid (Chg [] w1 wx) ∧ Hid (∀ x ∈ footT (B0 pb pc kc lc ob rb ga gb wb wm tb) J0, kc ≤ x))
  case first =>
    go_region_with (first
      | (go_at_call 24; refine (Fs.new_any m kc hm2.1 hm2.2 (hK.chg (S := []) (by repeat (first | with_reducible assumption | with_reducible exact Chg.refl _ _ | with_reducible refine Chg.drew ?_ | with_reducible refine Chg.alloc ?_ _ | with_reducible refine Chg.trans ?_ (by with_reducible assumption))) (by simp))).mono ?_; rintro e wA ⟨pb, pc, rfl, lpb, lpc, hT, hcT⟩; replace lpb := Nat.le_trans (Chg.size (S := []) (w := w1) (by repeat (first | with_reducible assumption | with_reducible exact Chg.refl _ _ | with_reducible refine Chg.drew ?_ | with_reducible refine Chg.alloc ?_ _ | with_reducible refine Chg.trans ?_ (by with_reducible assumption)))) lpb; replace lpc := Nat.le_trans (Chg.size (S := []) (w := w1) (by repeat (first | with_reducible assumption | with_reducible exact Chg.refl _ _ | with_reducible refine Chg.drew ?_ | with_reducible refine Chg.alloc ?_ _ | with_reducible refine Chg.trans ?_ (by with_reducible assumption)))) lpc)
      | (go_at_call 25; refine (Rg.new_any n _ lo (by omega)).mono ?_; rintro e wB ⟨ob, rb, ga, gb, rfl, lob, lrb, lga, lgb, hO, hcO⟩; replace lob := Nat.le_trans (Chg.size (S := []) (w := w1) (by repeat (first | with_reducible assumption | with_reducible exact Chg.refl _ _ | with_reducible refine Chg.drew ?_ | with_reducible refine Chg.alloc ?_ _ | with_reducible refine Chg.trans ?_ (by with_reducible assumption)))) lob; replace lrb := Nat.le_trans (Chg.size (S := []) (w := w1) (by repeat (first | with_reducible assumption | with_reducible exact Chg.refl _ _ | with_reducible refine Chg.drew ?_ | with_reducible refine Chg.alloc ?_ _ | with_reducible refine Chg.trans ?_ (by with_reducible assumption)))) lrb; replace lga := Nat.le_trans (Chg.size (S := []) (w := w1) (by repeat (first | with_reducible assumption | with_reducible exact Chg.refl _ _ | with_reducible refine Chg.drew ?_ | with_reducible refine Chg.alloc ?_ _ | with_reducible refine Chg.trans ?_ (by with_reducible assumption)))) lga; replace lgb := Nat.le_trans (Chg.size (S := []) (w := w1) (by repeat (first | with_reducible assumption | with_reducible exact Chg.refl _ _ | with_reducible refine Chg.drew ?_ | with_reducible refine Chg.alloc ?_ _ | with_reducible refine Chg.trans ?_ (by with_reducible assumption)))) lgb)
      | (go_at_call 26; refine (Go.Proofs.YtldgdpekhjignaaGreat.new_any _).mono ?_; rintro e wC ⟨wb, wm, rfl, hW, hcW, lW0⟩; have lW : ∀ x ∈ foot wb wm vs0, w1.heap.size ≤ x := fun x hx => Nat.le_trans (Chg.size (S := []) (w := w1) (by repeat (first | with_reducible assumption | with_reducible exact Chg.refl _ _ | with_reducible refine Chg.drew ?_ | with_reducible refine Chg.alloc ?_ _ | with_reducible refine Chg.trans ?_ (by with_reducible assumption)))) (lW0 x hx); clear lW0))
    all_goals go_wp2_with fail
    all_goals go_meet
    all_goals
      refine ⟨pb, pc, _, ob, rb, ga, gb, wb, wm, _, rfl, Lib.hid (mem_new (by simp) lo hi ?_ ?_ ?_ ?_), Lib.hid (by repeat (first | with_reducible assumption | with_reducible exact Chg.refl _ _ | with_reducible refine Chg.drew ?_ | with_reducible refine Chg.alloc ?_ _ | with_reducible refine Chg.trans ?_ (by with_reducible assumption))), Lib.hid (fun x hx => ?_)⟩
      · rw [← HMM.out]; exact hT.chg0 (by repeat (first | with_reducible assumption | with_reducible exact Chg.refl _ _ | with_reducible refine Chg.drew ?_ | with_reducible refine Chg.alloc ?_ _ | with_reducible refine Chg.trans ?_ (by with_reducible assumption)))
      · repeat (first | with_reducible exact Blk.new _ _ _ | exact Blk.new' hs1.symm | exact Blk.new' rfl | with_reducible refine Blk.drew ?_ | (refine Blk.chg (S := []) ?_ (by with_reducible assumption) (by simp)))
      · exact hO.chg0 (by repeat (first | with_reducible assumption | with_reducible exact Chg.refl _ _ | with_reducible refine Chg.drew ?_ | with_reducible refine Chg.alloc ?_ _ | with_reducible refine Chg.trans ?_ (by with_reducible assumption)))
      · exact hW.chg0 (by repeat (first | with_reducible assumption | with_reducible exact Chg.refl _ _ | with_reducible refine Chg.drew ?_ | with_reducible refine Chg.alloc ?_ _ | with_reducible refine Chg.trans ?_ (by with_reducible assumption)))
      · rcases mem_footT.1 hx with hx | hx | hx
        · rcases mem_fixB.1 hx with h | h | h | h | h | h | h | h | h
          all_goals simp only [B0] at h
          all_goals first
            | omega
            | (rw [h]; exact Nat.le_trans (show kc ≤ w1.heap.size by omega) (Chg.size (S := []) (by repeat (first | with_reducible assumption | with_reducible exact Chg.refl _ _ | with_reducible refine Chg.drew ?_ | with_reducible refine Chg.alloc ?_ _ | with_reducible refine Chg.trans ?_ (by with_reducible assumption)))))
            | (have h9 := Chg.size (S := []) (w := w1) (w' := wC) (by repeat (first | with_reducible assumption | with_reducible exact Chg.refl _ _ | with_reducible refine Chg.drew ?_ | with_reducible refine Chg.alloc ?_ _ | with_reducible refine Chg.trans ?_ (by with_reducible assumption))); omega)
            | (have h9 := Chg.size (S := []) (w := w1) (w' := wA) (by repeat (first | with_reducible assumption | with_reducible exact Chg.refl _ _ | with_reducible refine Chg.drew ?_ | with_reducible refine Chg.alloc ?_ _ | with_reducible refine Chg.trans ?_ (by with_reducible assumption))); simp only [Array.length_toList] at h; omega)
            | (have h9 := Chg.size (S := []) (w := w1) (w' := wB) (by repeat (first | with_reducible assumption | with_reducible exact Chg.refl _ _ | with_reducible refine Chg.drew ?_ | with_reducible refine Chg.alloc ?_ _ | with_reducible refine Chg.trans ?_ (by with_reducible assumption))); simp only [Array.length_toList] at h; omega)
            | (have h9 := Chg.size (S := []) (w := w1) (w' := wC) (by repeat (first | with_reducible assumption | with_reducible exact Chg.refl _ _ | with_reducible refine Chg.drew ?_ | with_reducible refine Chg.alloc ?_ _ | with_reducible refine Chg.trans ?_ (by with_reducible assumption))); simp only [Array.length_toList] at h; omega)
        · simp [J0, Value.ownBlock] at hx
        · have := lW x hx; omega
  case rest =>
    obtain ⟨pb, pc, lc, ob, rb, ga, gb, wb, wm, tb, rfl, HM, HC, HF⟩ := hcut
    have HCW := Lib.hid hA
    clear hmk hw2 h2n hm2 HMM hA hK HI d1 d2 d3 d4
    obtain ⟨B, hB⟩ : ∃ B : Bx, B = B0 pb pc kc lc ob rb ga gb wb wm tb := ⟨_, rfl⟩
    have HB : Hid (B.tb = tb) := Lib.hid (by rw [hB]; rfl)
    rw [← hB] at HM HF
    clear hB
    obtain rfl := HB.out
    go_wp2_with fail
    go_loopw [7] (fun iv wr => ∃ (j : Nat) (x : Int) (Jj : Jx) (fr : List Nat), j ≤ n ∧ iv = .int .i64 x ∧ x = (j : Int) - 1 ∧ Hid (MemJ wr B n ka kb Jj (I0 n fr) ∧ fr ++ (List.range j).reverse = (List.range n).reverse ∧ Jj.nw = 0) ∧ Hid (Chg [] w wr) ∧ Hid (∀ x ∈ footT B Jj, kc ≤ x)) (fun iv _ => (intOf iv + 1).toNat)
    case atStart => exact ⟨n, _, J0, [], by omega, rfl, rfl, Lib.hid ⟨HM.out, by simp, rfl⟩, Lib.hid (HCW.out.trans HC.out), HF⟩
    case round =>
      clear HM HC HF
      obtain ⟨j, x, Jj, fr, hj, rfl, hx, HM, HC, HF⟩ := hrel
      by_cases hlt : 0 < j
      · obtain ⟨p, rfl⟩ : ∃ p, j = p + 1 := ⟨j - 1, by omega⟩
        obtain rfl : x = (p : Nat) := by omega
        clear hx
        have hfl : fr.length ≤ 64 := by
          have := congrArg List.length HM.out.2.1
          simp at this
          omega
        have c8 : wr.cell? ⟨B.tb, 8, none⟩ = some Jj.frv := HM.out.1.cT 8
        have f8 := HM.out.1.fT 8
        have hown : wr.ownsRow 0 3 1 Jj.frv fr.length (fr.map Rg.iv) := HM.out.1.free
        have hltb := HM.out.1.lt B.tb (mem_footT.2 (.inl (mem_fixB.2 (by simp))))
        obtain ⟨A, cp, hv⟩ := Sl.form (Sl.of_own hown)
        have HV := Lib.hid hv
        rw [hv] at c8
        have hA := (Chg.refl [] wr).alloc (.cells #[.int .i64 p] 3)
        have HA := Lib.hid ((Chg.refl Jj.frv.ownBlock.toList wr).alloc (.cells #[.int .i64 p] 3))
        have hr1 := own_chg hown hA (by simp)
        rw [hv] at hr1
        have HR1 := Lib.hid hr1
        have HS1 := Lib.hid (lit_row wr p)
        have HTG := Lib.hid (own_tag hown)
        have HTB : Hid (tagW wr B.tb = some 63) := Lib.hid HM.out.1.tags.1
        have HNB : Hid (B.tb ∉ Jj.frv.ownBlock.toList) := Lib.hid (fun hm => by
          have h1 := HTG.out _ hm
          rw [HTB.out] at h1
          exact absurd h1 (by decide))
        clear hown hv hA hr1
        generalize hfk : fr.length = k5 at *
        go_wp2_with (first
          | (at_builtin; refine wpList_app elZ rfl (.tmp 36) (.tmp 38) rfl 0 rfl HR1.out rfl HS1.out (Rg.iv_one [p]) (by unfold maxLen; omega) (by omega) (Nat.zero_le _) ?_; intro v6 w6 hown6 hc6 hb6; have HB6 : Hid (v6.ownBlock = Jj.frv.ownBlock ∨ v6.ownBlock = some (wr.alloc (.cells #[.int .i64 p] 3)).heap.size) := Lib.hid (by rw [HV.out]; exact hb6); clear hb6; have hcA := HA.out.trans' hc6 (by rw [HV.out]; exact fun x hx => .inl hx); have f86 := (HM.out.1.tblk.chg hcA HNB.out).frozen 8; have c86 := (HM.out.1.tblk.chg hcA HNB.out).cell 8; simp only [List.getElem?_toArray, List.getElem?_cons_succ, List.getElem?_cons_zero] at c86; have HO6 := Lib.hid hown6; obtain ⟨A6, c6, rfl⟩ := Sl.form (Sl.of_own hown6); have HC6 := Lib.hid hcA; clear c8 f8 hc6 hcA hown6)
          | fail)
        have HFIN : Hid (∃ J', (MemJ (w6.setCell ⟨B.tb, 8, none⟩ (.slice A6 (k5 + 1) c6)) B n ka kb J' (I0 n (fr ++ [p])) ∧ (fr ++ [p]) ++ (List.range p).reverse = (List.range n).reverse ∧ J'.nw = 0) ∧ Chg [] w (w6.setCell ⟨B.tb, 8, none⟩ (.slice A6 (k5 + 1) c6)) ∧ ∀ x ∈ footT B J', kc ≤ x) := Lib.hid (by
          have hnew : ∀ x ∈ (Value.slice A6 (k5 + 1) c6).ownBlock.toList, x ∈ Jj.frv.ownBlock.toList ∨ wr.heap.size ≤ x := by
            intro x hx
            rcases HB6.out with e | e
            · rw [e] at hx; exact .inl hx
            · rw [e] at hx; simp at hx; right; omega
          have hb := (HM.out.1.tblk.chg HC6.out HNB.out).set_ 8 (.slice A6 (k5 + 1) c6)
          obtain ⟨hM, hS⟩ := HM.out.1.setT (c' := ⟨0, 0, 0, 0, 0, 0⟩) (fr' := fr ++ [p]) (frv' := .slice A6 (k5 + 1) c6) hb (by
            rw [List.length_append, List.map_append, hfk]
            refine own_chg HO6.out ((Chg.refl [B.tb] _).setCell (p := ⟨B.tb, 8, none⟩) (.inl (by simp)) _) (fun x hx hm => ?_)
            simp only [List.mem_cons, List.not_mem_nil, or_false] at hm
            subst hm
            rcases hnew _ hx with h1 | h1
            · exact HNB.out h1
            · omega) hnew ((HC6.out.more (fun x hx => List.mem_cons_of_mem _ hx)).setCell (p := ⟨B.tb, 8, none⟩) (.inl (by simp)) _)
          have hsz := HC.out.size
          refine ⟨_, ⟨hM, ?_, HM.out.2.2⟩, HC.out.trans' hS.chg (fun x hx => .inr ?_), fun x hx => ?_⟩
          · rw [← HM.out.2.1, List.range_succ, List.reverse_append]; simp
          · rw [hgg]; exact HF.out x hx
          · rcases hS.ft x hx with h1 | h1
            · exact HF.out x h1
            · omega)
        clear HO6 HC6 HB6 HM HC HF HA HR1 HS1 HTG HTB HNB HV
        go_wp2_with fail
        go_roundw
        case rel =>
          obtain ⟨J', z1, z2, z3⟩ := HFIN.out
          exact ⟨p, _, J', _, by omega, rfl, rfl, Lib.hid z1, Lib.hid z2, Lib.hid z3⟩
        case measure => first | (simp [intOf]; done) | (simp [intOf]; omega)
      · obtain rfl : j = 0 := by omega
        have hxn : ¬ 0 ≤ x := by omega
        clear hx
        have HFIN : Hid (∃ F, FT wr B.tb n F 0 ⟨0, [], ⟨0, 0, 0, 0, 0, 0⟩⟩ ∧ Chg [] w wr ∧ ∀ x ∈ F, kc ≤ x) := Lib.hid (by
          obtain ⟨h1, h2, h3⟩ := HM.out
          have e : fr = (List.range n).reverse := by simpa using h2
          rw [e] at h1
          exact ⟨footT B Jj, ⟨B, ka, kb, Jj, _, rfl, h1, In.new_inv n, rfl, rfl, rfl, by omega⟩, HC.out, HF.out⟩)
        clear HM HC HF
        go_wp2_with fail
        go_ret
        obtain ⟨F, z⟩ := HFIN.out
        exact ⟨_, rfl, F, z⟩
end Go.Proofs.YtldgdpekhjignaaGreat.Ft
namespace Go.Proofs.YtldgdpekhjignaaGreat.Ft
open Go.RowKit Go.Maps

set_option maxHeartbeats 1000000 in
theorem new_no (n : Int) (ka kb : Int) (w : World) (h : n < 1 ∨ 64 < n) :
    Calls Tryz.prog 7 #[.int .i64 n, .agg #[.int .u64 ka, .int .u64 kb]] w fun e w' => e = .returned (.pointer none) ∧ Chg [] w w' := by
  have HA := Lib.hid ((Chg.refl [] w).alloc (.cells #[.int .u64 ka, .int .u64 kb] 24))
  rcases (show n < 1 ∨ (¬ n < 1 ∧ 64 < n) by omega) with h1 | ⟨h1, h2⟩
  all_goals
    clear h
    go_enter Tryz.func7, Tryz.ntmps7
    go_wp2_with fail
    go_ret
    exact ⟨rfl, HA.out⟩
@[reducible] def fL (p : Int) : Fl := ⟨⟨0, 0, 0, 0, 0, 0, 0, 0, 0, 0, 0, 0, 0, 0, 0, 0⟩, p, ⟨0, 0, 0, 0, 0, 0, 0, 0, 0, 0, 0, 0, 0, 0, 0, 0⟩, 0⟩
theorem fL_ok (p : Int) (h : (Lit.int .i64 p).wf = true) : okF (fL p) := ⟨okA_z0, h, okA_z0, (by decide : (Lit.int .i64 0).wf = true)⟩
def s0 : Sx := ⟨0, [], ⟨0, 0, 0, 0, 0, 0⟩⟩
def s1 : Sx := ⟨0, [⟨fL 1, 0, 0, 8⟩], ⟨0, 0, 0, 0, 0, 0⟩⟩
def s2 : Sx := ⟨0, [⟨fL 2, 2, 1, 16⟩], ⟨0, 0, 1, 1, 0, 0⟩⟩
def s3 : Sx := ⟨0, [⟨fL 2, 2, 2, 40⟩], ⟨1, 0, 1, 1, 0, 0⟩⟩
theorem st_1 : pendS 1 s0 (fL 1) = (s1, true) := by rfl
theorem st_2 : learnS 1 s1 (fL 2) 2 = (s2, 0) := by rfl
theorem nx_16 : nextF 1 16 = 2 := by decide +kernel
theorem st_3 : lookS s2 (fL 2) 16 = (s3, 2, true) := by
  have h : getE s2.L (fL 2) = some ⟨fL 2, 2, 1, 16⟩ := by rfl
  rw [look_some h (by decide)]
  have : stEn ⟨fL 2, 2, 1, 16⟩ 16 = ⟨fL 2, 2, 2, 16⟩ := by unfold stEn; show (⟨fL 2, 2, nextF 1 16, 16⟩ : En) = _; rw [nx_16]
  rw [this]
  rfl
theorem bC_small {c : Cn} (h1 : bN c.hits) (h2 : bN c.misses) (h3 : bN c.learnt) (h4 : bN c.evicted) (h5 : bN c.expired) (h6 : bN c.clashes) : bC c := ⟨h1, h2, h3, h4, h5, h6⟩
theorem bC_1 : bC s0.c ∧ bC s1.c ∧ bC s2.c := by
  refine ⟨⟨?_, ?_, ?_, ?_, ?_, ?_⟩, ⟨?_, ?_, ?_, ?_, ?_, ?_⟩, ⟨?_, ?_, ?_, ?_, ?_, ?_⟩⟩ <;> (constructor <;> decide)
set_option maxRecDepth 100000 in
set_option maxHeartbeats 4000000 in
theorem lives26 (w : World) : Calls Tryz.prog 8 #[] w fun r w' => r = .returned (.bool true) ∧ Chg [] w w' := by
  have F0 := Lib.hid (new_any 1 0 0 w (by omega) (by omega))
  go_enter Tryz.func8, Tryz.ntmps8
  go_wp2_with fail
  refine F0.out.mono ?_
  rintro r w1 ⟨tb, F, rfl, hT, hc1, hF⟩
  have HT := Lib.hid hT
  have HC1 := Lib.hid hc1
  have HF := Lib.hid hF
  have hlt := hT.lt
  have HLT := Lib.hid hlt
  clear hT hc1 hF F0 hlt
  go_upto_region 4 with fail
  go_cut [2, 3] (fun x y wx => ∃ ga gb, x = .pointer (some ⟨ga, 0, none⟩) ∧ y = .pointer (some ⟨gb, 0, none⟩) ∧ Hid (w1.heap.size ≤ ga ∧ w1.heap.size ≤ gb) ∧ Hid (Blk wx ga 38 (arrF (fL 1))) ∧ Hid (Blk wx gb 38 (arrF (fL 2))) ∧ Hid (Chg [] w1 wx))
  case first =>
    have hA := ((Chg.refl [] w1).alloc (.cells (arrF (fL 0)) 38)).alloc (.cells (arrF (fL 0)) 38)
    have hB1 : Blk ((w1.alloc (.cells (arrF (fL 0)) 38)).alloc (.cells (arrF (fL 0)) 38)) w1.heap.size 38 (arrF (fL 0)) := (Blk.new _ _ _).alloc _
    have hB2 : Blk ((w1.alloc (.cells (arrF (fL 0)) 38)).alloc (.cells (arrF (fL 0)) 38)) (w1.heap.size + 1) 38 (arrF (fL 0)) := Blk.new' (by simp)
    go_wp2_with (first
      | (refine wpList_store_blk (vs := arrF (fL 1)) rfl 38 (.tmp 2) (.tmp 11) rfl rfl hB1 rfl rfl rfl infF rfl ?_; intro w5 hB5 hc5; have hB6 := hB2.chg hc5 (by simp))
      | (refine wpList_store_blk (vs := arrF (fL 2)) rfl 38 (.tmp 3) (.tmp 12) rfl rfl hB6 rfl rfl rfl infF rfl ?_; intro w7 hB7 hc7; have hB8 := hB5.chg hc7 (by simp))
      | fail)
    go_meet
    refine ⟨_, _, rfl, rfl, Lib.hid ⟨Nat.le_refl _, by omega⟩, Lib.hid hB8, Lib.hid hB7, Lib.hid ?_⟩
    exact (hA.trans' hc5 (by intro y hy; simp at hy; subst hy; exact .inr (Nat.le_refl _))).trans' hc7 (by intro y hy; simp at hy; subst hy; exact .inr (by omega))
  case rest =>
    obtain ⟨ga, gb, rfl, rfl, HG, HA, HB, HC⟩ := hcut
    have hT1 : FT wc tb 1 F 0 s0 := HT.out.chg0 HC.out
    have hCW := HC1.out.trans HC.out
    have F1 := pend_any hT1 (fL_ok 1 (by decide)) (by decide) (by decide) (by omega) bC_1.1
    rw [st_1] at F1
    have F1 := Lib.hid F1
    have hr1 := HA.out.rangeQ
    have HCW := Lib.hid hCW
    have HNF : Hid (ga ∉ F ∧ gb ∉ F) := Lib.hid ⟨fun h => by have := HLT.out _ h; have := HG.out.1; omega, fun h => by have := HLT.out _ h; have := HG.out.2; omega⟩
    have hz := HC.out.size
    have hzb := HB.out.lt
    clear hT1 hCW HT HC
    go_wp2_with (first
      | (refine wpList_row 38 (.tmp 2) rfl rfl ga 0 rfl (arrF (fL 1)) _ hr1 Tryz.underlying38 rfl infF ?_)
      | fail)
    refine F1.out.mono ?_
    rintro r w2 ⟨rfl, F2, hT2, hc2, hf2⟩
    have F2' := learn_any hT2 (fL_ok 2 (by decide)) 2 (by decide) (by decide) (by omega) bC_1.2.1
    rw [st_2] at F2'
    have FL := Lib.hid F2'
    have HB2 := Lib.hid (HB.out.chg hc2 HNF.out.2)
    have hr2 := HB2.out.rangeQ
    have hF0 := HF.out
    have HCW2 := Lib.hid (HCW.out.trans' hc2 (fun x hx => .inr (hF0 x hx)))
    have HF2 : Hid (∀ x ∈ F2, w.heap.size ≤ x) := Lib.hid (fun x hx => (hf2 x hx).elim (hF0 x) (fun h => by have := HCW.out.size; omega))
    have HN2 : Hid (gb ∉ F2) := Lib.hid (fun h => (hf2 _ h).elim HNF.out.2 (fun h => by omega))
    clear hT2 hc2 hf2 F1 F2' hr1 hF0
    go_wp2_with (first
      | (refine wpList_row 38 (.tmp 3) rfl rfl gb 0 rfl (arrF (fL 2)) _ hr2 Tryz.underlying38 rfl infF ?_)
      | fail)
    refine FL.out.mono ?_
    rintro r w3 ⟨rfl, F3, hT3, hc3, hf3⟩
    have F3' := look_any hT3 (fL_ok 2 (by decide)) 16 (by decide) (by decide) (by omega) bC_1.2.2
    rw [st_3] at F3'
    have FK := Lib.hid F3'
    have HB3 := Lib.hid (HB2.out.chg hc3 HN2.out)
    have hr3 := HB3.out.rangeQ
    have HCW3 := Lib.hid (HCW2.out.trans' hc3 (fun x hx => .inr (HF2.out x hx)))
    have HF3 : Hid (∀ x ∈ F3, w.heap.size ≤ x) := Lib.hid (fun x hx => (hf3 x hx).elim (HF2.out x) (fun h => by have := HCW2.out.size; omega))
    clear hT3 hc3 hf3 FL F3' hr2
    go_wp2_with (first
      | (refine wpList_row 38 (.tmp 3) rfl rfl gb 0 rfl (arrF (fL 2)) _ hr3 Tryz.underlying38 rfl infF ?_)
      | fail)
    refine FK.out.mono ?_
    rintro r w4 ⟨rfl, F4, hT4, hc4, hf4⟩
    have HCW4 := Lib.hid (HCW3.out.trans' hc4 (fun x hx => .inr (HF3.out x hx)))
    have FLn := Lib.hid (len_any hT4)
    have FC := Lib.hid (fun W (hc : Chg [] w4 W) => counts_any (hT4.chg0 hc))
    have FN := Lib.hid (fun W => new_no 65 0 0 W (.inr (by omega)))
    clear hT4 hc4 hf4 FK hr3 HB HB2 HB3 HA
    go_wp2_with fail
    refine FLn.out.mono ?_
    rintro r w5 ⟨rfl, rfl⟩
    go_wp2_with fail
    refine (FC.out _ (Chg.refl _ _)).mono ?_
    rintro r w5 ⟨rfl, hc5⟩
    have HC5 := Lib.hid hc5
    clear hc5
    have x3 : ∀ w, (Instr.field 31 (.agg #[.int .i64 1, .int .i64 0, .int .i64 1, .int .i64 1, .int .i64 0, .int .i64 0]) 3).run Tryz.prog w = .ok (.int .i64 1) w := fun _ => by kernel_rfl
    have x0 : ∀ w, (Instr.field 31 (.agg #[.int .i64 1, .int .i64 0, .int .i64 1, .int .i64 1, .int .i64 0, .int .i64 0]) 0).run Tryz.prog w = .ok (.int .i64 1) w := fun _ => by kernel_rfl
    have ha : arrC s3.c = #[.int .i64 1, .int .i64 0, .int .i64 1, .int .i64 1, .int .i64 0, .int .i64 0] := rfl
    rw [ha]
    go_wp2_with fail
    refine (FC.out _ HC5.out).mono ?_
    rintro r w6 ⟨rfl, hc6⟩
    have HC6 := Lib.hid (HC5.out.trans hc6)
    clear hc6
    rw [ha]
    go_wp2_with fail
    refine (FN.out _).mono ?_
    rintro r w7 ⟨rfl, hc7⟩
    have HFIN := Lib.hid ((HCW4.out.trans HC6.out).trans hc7)
    clear hc7
    go_wp2_with fail
    go_ret
    exact ⟨rfl, HFIN.out⟩
end Go.Proofs.YtldgdpekhjignaaGreat.Ft
namespace Go.Proofs.YtldgdpekhjignaaGreat.Ft
open Go.RowKit Go.Maps Go.WideMaps Go.WideShapes

def wfI (x : Int) : Prop := (Lit.int .i64 x).wf = true
structure wfC (c : Cn) : Prop where
  hits : wfI c.hits
  misses : wfI c.misses
  learnt : wfI c.learnt
  evicted : wfI c.evicted
  expired : wfI c.expired
  clashes : wfI c.clashes
structure wfE (e : En) : Prop where
  fl : okF e.fl
  node : wfI e.node
  st : wfI e.st
  til : wfI e.til
@[reducible] def arrC' (c : Cn) : Array Value := #[.int .i64 c.hits, .int .i64 c.misses, .int .i64 c.learnt, .int .i64 c.evicted, .int .i64 c.expired, .int .i64 c.clashes]
def litsCn (c : Cn) : List Lit := [.int .i64 c.hits, .int .i64 c.misses, .int .i64 c.learnt, .int .i64 c.evicted, .int .i64 c.expired, .int .i64 c.clashes]
theorem arrC_inj {c d : Cn} (h : Value.agg (arrC' c) = .agg (arrC' d)) : c = d := by
  obtain ⟨_, _, _, _, _, _⟩ := c
  obtain ⟨_, _, _, _, _, _⟩ := d
  simpa [arrC'] using h
theorem arrE_inj {e f : En} (h : Value.agg (arrE e) = .agg (arrE f)) : e = f := by
  obtain ⟨⟨A, p, B, q⟩, _, _, _⟩ := e
  obtain ⟨⟨C, r, D, s⟩, _, _, _⟩ := f
  cases A; cases B; cases C; cases D
  simpa [arrE, and_assoc] using h
set_option maxRecDepth 100000 in
theorem key_cn {c : Cn} (h : wfC c) : keyOf Tryz.prog 31 (.agg (arrC' c)) = some (.string (keyBytes (litsCn c))) := by
  have hcI : Tryz.prog.cellsOf 3 = 1 := by kernel_rfl
  have hcC : Tryz.prog.cellsOf 31 = 6 := by kernel_rfl
  have hkC : Tryz.prog.keyType 31 = true := by kernel_rfl
  obtain ⟨d, hd⟩ := typesTwo
  unfold keyOf
  simp only [Tryz.underlying31]
  rw [if_pos (by simp [hkC, Value.formed, Tryz.underlying31, hcC]), hd]
  have e : (Value.agg (arrC' c)).cells.toList = [.int .i64 c.hits, .int .i64 c.misses, .int .i64 c.learnt, .int .i64 c.evicted, .int .i64 c.expired, .int .i64 c.clashes] := rfl
  rw [e]
  unfold Program.keyLits
  simp only [Tryz.underlying31]
  rw [if_pos ⟨by rw [hcC]; rfl, by simp⟩]
  simp only [List.mapM_cons, List.mapM_nil, hcI, List.drop_succ_cons, List.drop_zero, List.take_succ_cons, List.take_zero]
  rw [keyLits_int (d := d + 1) h.hits, keyLits_int (d := d + 1) h.misses, keyLits_int (d := d + 1) h.learnt, keyLits_int (d := d + 1) h.evicted, keyLits_int (d := d + 1) h.expired, keyLits_int (d := d + 1) h.clashes]
  simp [litsCn]
theorem lawCn : KeyLaw Tryz.prog 31 := deep_law_laid laidOutV (m := 4) (by omega) (of_decide_eq_true (by kernel_rfl)) (by kernel_rfl) (by kernel_rfl)
/-- '==' of what was counted. -/
theorem eq_cn (w : World) {c d : Cn} (hc : wfC c) (hd : wfC d) : (Op.equalIn 10000 31 (.agg (arrC' c)) (.agg (arrC' d))).run Tryz.prog w = .ok (decide (c = d)) w := by
  obtain ⟨r, hr, hi⟩ := run_equal_deep w (m := 4) (by omega) (k := 31) (by kernel_rfl) (by kernel_rfl) (key_cn hc) (key_cn hd)
  have e1 : r = decide (c = d) := by
    by_cases h : c = d
    · rw [decide_eq_true h]; exact hi.2 (by rw [h])
    · rw [decide_eq_false h]
      cases r with
      | false => rfl
      | true =>
        have h2 := hi.1 rfl
        exact absurd (arrC_inj (lawCn.inj (key_cn hc) (by rw [h2]; exact key_cn hd))) h
  rw [← e1]; exact hr
def litsFl (f : Fl) : List Lit := litsA f.src ++ (.int .i64 f.sport :: (litsA f.dst ++ [.int .i64 f.dport]))
set_option maxRecDepth 100000 in
theorem keyLits_flow {d : Nat} {f : Fl} (h : okF f) : Tryz.prog.keyLits (d + 3) 38 (encF f) = some (litsFl f) := by
  have hcA : Tryz.prog.cellsOf 36 = 16 := by kernel_rfl
  have hcI : Tryz.prog.cellsOf 3 = 1 := by kernel_rfl
  have hcF : Tryz.prog.cellsOf 38 = 34 := by kernel_rfl
  unfold Program.keyLits
  simp only [Tryz.underlying38]
  rw [if_pos ⟨by rw [hcF]; rfl, by simp⟩]
  have g0 : ((encF f).drop 0).take 16 = encA f.src := rfl
  have g1 : ((encF f).drop 16).take 1 = [.int .i64 f.sport] := rfl
  have g2 : ((encF f).drop 17).take 16 = encA f.dst := rfl
  have g3 : ((encF f).drop 33).take 1 = [.int .i64 f.dport] := rfl
  have k0 := keyLits_ad (d := d) h.1
  have k1 := keyLits_int (d := d + 1) h.2.1
  have k2 := keyLits_ad (d := d) h.2.2.1
  have k3 := keyLits_int (d := d + 1) h.2.2.2
  simp only [List.mapM_cons, List.mapM_nil, hcA, hcI, g0, g1, g2, g3]
  rw [show d + 2 = d + 1 + 1 from rfl] at *
  rw [k0, k1, k2, k3]
  simp [litsFl]
theorem typesFour : ∃ d, Tryz.prog.types.size + 1 = d + 4 := ⟨Tryz.prog.types.size - 3, by have : 3 ≤ Tryz.prog.types.size := of_decide_eq_true (by kernel_rfl); omega⟩
def keyEn (e : En) : Lit := .string (keyBytes (litsFl e.fl ++ [.int .i64 e.node, .int .i64 e.st, .int .i64 e.til]))
set_option maxRecDepth 100000 in
theorem key_en {e : En} (h : wfE e) : keyOf Tryz.prog 44 (.agg (arrE e)) = some (keyEn e) := by
  have hcF : Tryz.prog.cellsOf 38 = 34 := by kernel_rfl
  have hcI : Tryz.prog.cellsOf 3 = 1 := by kernel_rfl
  have hcE : Tryz.prog.cellsOf 44 = 37 := by kernel_rfl
  have hkE : Tryz.prog.keyType 44 = true := by kernel_rfl
  obtain ⟨d, hd⟩ := typesFour
  unfold keyOf
  simp only [Tryz.underlying44]
  rw [if_pos (by simp [hkE, Value.formed, Tryz.underlying44, hcE]), hd]
  have e1 : (Value.agg (arrE e)).cells.toList = encE e := rfl
  rw [e1]
  unfold Program.keyLits
  simp only [Tryz.underlying44]
  rw [if_pos ⟨by rw [hcE]; rfl, by simp⟩]
  have g0 : ((encE e).drop 0).take 34 = encF e.fl := rfl
  have g1 : ((encE e).drop 34).take 1 = [.int .i64 e.node] := rfl
  have g2 : ((encE e).drop 35).take 1 = [.int .i64 e.st] := rfl
  have g3 : ((encE e).drop 36).take 1 = [.int .i64 e.til] := rfl
  simp only [List.mapM_cons, List.mapM_nil, hcF, hcI, g0, g1, g2, g3]
  rw [keyLits_flow (d := d) h.fl, keyLits_int (d := d + 2) h.node, keyLits_int (d := d + 2) h.st, keyLits_int (d := d + 2) h.til]
  simp [keyEn]
theorem lawEn : KeyLaw Tryz.prog 44 := deep_law_laid laidOutV (m := 5) (by omega) (of_decide_eq_true (by kernel_rfl)) (by kernel_rfl) (by kernel_rfl)
/-- '==' of two entries. -/
theorem eq_en (w : World) {e f : En} (he : wfE e) (hf : wfE f) : (Op.equalIn 10000 44 (.agg (arrE e)) (.agg (arrE f))).run Tryz.prog w = .ok (decide (e = f)) w := by
  obtain ⟨r, hr, hi⟩ := run_equal_deep w (m := 5) (by omega) (k := 44) (by kernel_rfl) (by kernel_rfl) (key_en he) (key_en hf)
  have e1 : r = decide (e = f) := by
    by_cases h : e = f
    · rw [decide_eq_true h]; exact hi.2 (by rw [h])
    · rw [decide_eq_false h]
      cases r with
      | false => rfl
      | true =>
        have h2 := hi.1 rfl
        exact absurd (arrE_inj (lawEn.inj (key_en he) (by rw [h2]; exact key_en hf))) h
  rw [← e1]; exact hr
end Go.Proofs.YtldgdpekhjignaaGreat.Ft
namespace Go.Proofs.YtldgdpekhjignaaGreat.Ft
open Go.RowKit Go.Maps

section
variable {w : World} {p : Option Addr}
/-- The method 'is' says no. -/
def IsNo (w : World) (p : Option Addr) : Prop := ∀ W, Chg [] w W → Calls Tryz.prog 27 #[.pointer p] W fun e w' => e = .returned (.bool false) ∧ W = w'
theorem IsNo.chg0 {w' : World} (h : IsNo w p) (hc : Chg [] w w') : IsNo w' p := fun W h2 => h W (hc.trans h2)
theorem isno_nil (w : World) : IsNo w none := fun W _ => by
  go_enter Tryz.func27, Tryz.ntmps27
  go_wp2_with fail
  go_ret
  exact ⟨rfl, rfl⟩
@[reducible] def arrTab0 : Array Value := #[.int .i64 0, .int .i64 0, .int .i64 0, .int .i64 0, .int .i64 0, .int .i64 0, .pointer none, .slice none 0 0, .slice none 0 0, .pointer none, .pointer none]
theorem isno_blk {g : Nat} (h : Blk w g 63 arrTab0) : IsNo w (some ⟨g, 0, none⟩) := fun W hc => by
  have c6 : W.cell? ⟨g, 6, none⟩ = some (.pointer none) := (h.chg hc (by simp)).cell 6
  go_enter Tryz.func27, Tryz.ntmps27
  go_wp2_with fail
  go_ret
  exact ⟨rfl, rfl⟩
theorem nlen (h : IsNo w p) : Calls Tryz.prog 9 #[.pointer p] w fun e w' => e = .returned (.int .i64 0) ∧ Chg [] w w' := by
  have F1 := Lib.hid (h w (Chg.refl _ _))
  go_enter Tryz.func9, Tryz.ntmps9
  go_wp2_with fail
  refine F1.out.mono ?_
  rintro e w1 ⟨rfl, rfl⟩
  go_wp2_with fail
  go_ret
  exact ⟨rfl, Chg.refl _ _⟩
theorem ncap (h : IsNo w p) : Calls Tryz.prog 15 #[.pointer p] w fun e w' => e = .returned (.int .i64 0) ∧ Chg [] w w' := by
  have F1 := Lib.hid (h w (Chg.refl _ _))
  go_enter Tryz.func15, Tryz.ntmps15
  go_wp2_with fail
  refine F1.out.mono ?_
  rintro e w1 ⟨rfl, rfl⟩
  go_wp2_with fail
  go_ret
  exact ⟨rfl, Chg.refl _ _⟩
theorem ntick (h : IsNo w p) : Calls Tryz.prog 21 #[.pointer p] w fun e w' => e = .returned (.slice none 0 0) ∧ Chg [] w w' := by
  have F1 := Lib.hid (h w (Chg.refl _ _))
  go_enter Tryz.func21, Tryz.ntmps21
  go_wp2_with fail
  refine F1.out.mono ?_
  rintro e w1 ⟨rfl, rfl⟩
  go_wp2_with fail
  go_ret
  exact ⟨rfl, Chg.refl _ _⟩
theorem nall (h : IsNo w p) : Calls Tryz.prog 12 #[.pointer p] w fun e w' => e = .returned (.slice none 0 0) ∧ Chg [] w w' := by
  have F1 := Lib.hid (h w (Chg.refl _ _))
  go_enter Tryz.func12, Tryz.ntmps12
  go_wp2_with fail
  refine F1.out.mono ?_
  rintro e w1 ⟨rfl, rfl⟩
  go_wp2_with fail
  go_ret
  exact ⟨rfl, Chg.refl _ _⟩
set_option maxHeartbeats 1000000 in
theorem ncounts (h : IsNo w p) : Calls Tryz.prog 10 #[.pointer p] w fun e w' => e = .returned (.agg arrC0) ∧ Chg [] w w' := by
  have hA := (Chg.refl [] w).alloc (.cells arrC0 31)
  have hB : Blk (w.alloc (.cells arrC0 31)) w.heap.size 31 arrC0 := Blk.new _ _ _
  have F1 := Lib.hid (h _ hA)
  have HA := Lib.hid hA
  clear h hA
  go_enter Tryz.func10, Tryz.ntmps10
  go_wp2_with fail
  refine F1.out.mono ?_
  rintro e w' ⟨rfl, rfl⟩
  generalize hw1 : (w.alloc (.cells arrC0 31)) = w1 at *
  generalize hgg : w.heap.size = g at *
  go_wp2_with (first
    | (refine wpList_store_blk (vs := arrC0) rfl 31 (.tmp 2) (.tmp 6) rfl rfl hB rfl rfl rfl infC rfl ?_; intro w5 hB5 hc5)
    | fail)
  refine bodyPost_ret (results_blk rfl rfl hB5 _ Tryz.underlying31 rfl (by kernel_rfl)) rfl ⟨rfl, HA.out.trans' hc5 (by intro y hy; simp at hy; subst hy; exact .inr (by omega))⟩
set_option maxHeartbeats 1000000 in
theorem nplace (h : IsNo w p) (f : Fl) : Calls Tryz.prog 30 #[.pointer p, f.v] w fun e w' => e = .returned (.tuple #[.int .i64 0, .bool false]) ∧ Chg [] w w' := by
  have hA := (Chg.refl [] w).alloc (.cells (arrF f) 38)
  have F1 := Lib.hid (h _ hA)
  have HA := Lib.hid hA
  clear h hA
  go_enter Tryz.func30, Tryz.ntmps30
  go_wp2_with fail
  refine F1.out.mono ?_
  rintro e w' ⟨rfl, rfl⟩
  go_wp2_with fail
  go_ret2
  exact ⟨rfl, HA.out⟩
set_option maxRecDepth 100000 in
set_option maxHeartbeats 1000000 in
theorem nfind (h : IsNo w p) (f : Fl) : Calls Tryz.prog 13 #[.pointer p, f.v] w fun e w' => e = .returned (.tuple #[.agg arrE0, .bool false]) ∧ Chg [] w w' := by
  have hA := ((Chg.refl [] w).alloc (.cells (arrF f) 38)).alloc (.cells arrE0 44)
  have hB : Blk ((w.alloc (.cells (arrF f) 38)).alloc (.cells arrE0 44)) w.heap.size 38 (arrF f) := (Blk.new _ _ _).alloc _
  have hE : Blk ((w.alloc (.cells (arrF f) 38)).alloc (.cells arrE0 44)) (w.heap.size + 1) 44 arrE0 := Blk.new' (by simp)
  have FP := Lib.hid (nplace (h.chg0 hA) f)
  have HI := Lib.hid (And.intro hA hE)
  have hR := hB.rangeQ
  clear h hA hB hE
  go_enter Tryz.func13, Tryz.ntmps13
  go_upto_region 1 with fail
  generalize ((w.alloc (.cells (arrF f) 38)).alloc (.cells arrE0 44)) = w1 at *
  generalize hgg : w.heap.size = g at *
  go_wp2_with (first
    | (refine wpList_row 38 (.tmp 3) rfl rfl g 0 rfl (arrF f) _ hR Tryz.underlying38 rfl infF ?_)
    | fail)
  refine FP.out.mono ?_
  rintro e w2 ⟨rfl, hc2⟩
  have HC2 := Lib.hid (HI.out.1.trans hc2)
  have hE2 := HI.out.2.chg hc2 (by simp)
  clear hR hc2 FP
  go_wp2_with (first
    | (refine wpList_store_blk (vs := arrE0) rfl 44 (.tmp 4) (.tmp 16) rfl rfl hE2 rfl rfl rfl infE37 rfl ?_; intro w5 hB5 hc5)
    | fail)
  refine bodyPost_ret (results_blk2 rfl rfl hB5 _ Tryz.underlying44 rfl (by kernel_rfl)) rfl ⟨rfl, HC2.out.trans' hc5 (by intro y hy; simp at hy; subst hy; exact .inr (by omega))⟩
set_option maxHeartbeats 1000000 in
theorem nlook (h : IsNo w p) (f : Fl) (fl : Int) : Calls Tryz.prog 17 #[.pointer p, f.v, .int .i64 fl] w fun e w' => e = .returned (.tuple #[.int .i64 0, .bool false]) ∧ Chg [] w w' := by
  have hA := (Chg.refl [] w).alloc (.cells (arrF f) 38)
  have F1 := Lib.hid (h _ hA)
  have HA := Lib.hid hA
  clear h hA
  go_enter Tryz.func17, Tryz.ntmps17
  go_wp2_with fail
  refine F1.out.mono ?_
  rintro e w' ⟨rfl, rfl⟩
  go_wp2_with fail
  go_ret2
  exact ⟨rfl, HA.out⟩
set_option maxHeartbeats 1000000 in
theorem npend (h : IsNo w p) (f : Fl) : Calls Tryz.prog 18 #[.pointer p, f.v] w fun e w' => e = .returned (.bool false) ∧ Chg [] w w' := by
  have hA := (Chg.refl [] w).alloc (.cells (arrF f) 38)
  have F1 := Lib.hid (h _ hA)
  have HA := Lib.hid hA
  clear h hA
  go_enter Tryz.func18, Tryz.ntmps18
  go_wp2_with fail
  refine F1.out.mono ?_
  rintro e w' ⟨rfl, rfl⟩
  go_wp2_with fail
  go_ret
  exact ⟨rfl, HA.out⟩
set_option maxHeartbeats 1000000 in
theorem nlearn (h : IsNo w p) (f : Fl) (n : Int) : Calls Tryz.prog 20 #[.pointer p, f.v, .int .i64 n] w fun e w' => e = .returned (.int .i64 1) ∧ Chg [] w w' := by
  have hA := (Chg.refl [] w).alloc (.cells (arrF f) 38)
  have F1 := Lib.hid (h _ hA)
  have HA := Lib.hid hA
  clear h hA
  go_enter Tryz.func20, Tryz.ntmps20
  go_wp2_with fail
  refine F1.out.mono ?_
  rintro e w' ⟨rfl, rfl⟩
  go_wp2_with fail
  go_ret
  exact ⟨rfl, HA.out⟩
set_option maxHeartbeats 1000000 in
theorem nforget (h : IsNo w p) (f : Fl) : Calls Tryz.prog 19 #[.pointer p, f.v] w fun e w' => e = .returned (.bool false) ∧ Chg [] w w' := by
  have hA := (Chg.refl [] w).alloc (.cells (arrF f) 38)
  have hB : Blk (w.alloc (.cells (arrF f) 38)) w.heap.size 38 (arrF f) := Blk.new _ _ _
  have F1 := Lib.hid (nplace (h.chg0 hA) f)
  have HA := Lib.hid hA
  have hR := hB.rangeQ
  clear h hA hB
  go_enter Tryz.func19, Tryz.ntmps19
  go_upto_region 1 with fail
  generalize (w.alloc (.cells (arrF f) 38)) = w1 at *
  generalize hgg : w.heap.size = g at *
  go_wp2_with (first
    | (refine wpList_row 38 (.tmp 3) rfl rfl g 0 rfl (arrF f) _ hR Tryz.underlying38 rfl infF ?_)
    | fail)
  refine F1.out.mono ?_
  rintro e w' ⟨rfl, hc⟩
  have HC := Lib.hid (HA.out.trans hc)
  clear hR hc F1
  go_wp2_with fail
  go_ret
  exact ⟨rfl, HC.out⟩
end
end Go.Proofs.YtldgdpekhjignaaGreat.Ft
