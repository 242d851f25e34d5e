/-
  WALKS over package model: Flows (the map's keys, sorted). Condition: at most 300 events.
-/
import Derived.Test.YtgbdbeaflilmlaaModelJ
import Derived.Test.YtgbdbeaflilmlaaFlowSf2
import Derived.Test.YtgbdbeaflilmlaaOmr
set_option linter.unusedVariables false
set_option linter.unusedSimpArgs false
namespace Go.Proofs.Ytgbdbeaflilmlaa
open Go.RowKit Go.Maps

def SlFo (w : World) (B : Nat) (v : Value) (l : List Fl) : Prop := Sl w B 34 v l.length (l.flatMap encF)
set_option maxRecDepth 100000 in
set_option maxHeartbeats 2000000 in
theorem mflows_any {W w : World} {mb m kk : Nat} {L : List (Fl × Lf)} (h : MoS W w mb m kk (DR L)) (hI : LI kk L) (hK : kk ≤ 300) :
    Calls Try.prog 32 #[.pointer (some ⟨mb, 0, none⟩)] w fun e w' => ∃ v F, e = .returned v ∧ SrtF F ∧ (∀ f, f ∈ F ↔ okF f ∧ f ∈ L.map (·.1)) ∧ SlFo w' w.heap.size v F ∧ Chg [] w w' := by
  obtain ⟨nn, V, s, hm, _, _⟩ := h
  have F1 := Lib.hid (mis_any hm.blk)
  have c0 : w.cell? ⟨mb, 0, none⟩ = some (.map (some m)) := hm.blk.cell 0
  have hom := hm.om
  have hml := hom.lt
  have HKF : Hid (∀ x v, MD V (DR L) x = some v → x ∈ L.map (·.1)) := Lib.hid fun x v hx => by
    unfold MD at hx
    cases hd : DR L x with
    | none => rw [hd] at hx; cases hx
    | some y => exact List.mem_map.2 ⟨_, DR_mem hd, rfl⟩
  have HKB : Hid (∀ x, x ∈ L.map (·.1) → ∃ v, MD V (DR L) x = some v) := Lib.hid fun x hx => by
    unfold MD
    cases hd : DR L x with
    | none => exact absurd hx (DR_none hd)
    | some y => exact ⟨_, rfl⟩
  have hln : (L.map (·.1)).length ≤ 300 := by have := hI.len; simp; omega
  clear hm hI
  generalize MD V (DR L) = M at *
  generalize L.map (·.1) = NL at *
  go_enter Try.func32, Try.ntmps32
  go_wp2_with fail
  refine F1.out.mono ?_
  rintro e w1 ⟨rfl, rfl⟩
  clear F1
  go_wp2_with (first
    | (at_range; refine wpList_range_om (K := KF) rfl _ 89 rfl Try.underlying89 rfl hom ?_; intro w0 left0 cnt0 hrg0 hc0 hs0')
    | go_in)
  go_frame
  generalize hre : w.heap.size = r at *
  have hmr : m ≠ r := by omega
  go_loopw [3] (fun v' wr' => ∃ (left : Lit → Bool) (cnt : Nat) (ss : List (Fl × Value)), OMR KF wr' m r nn M s left cnt ss ∧
      wr'.ownsRow (r + 1) 73 34 v' (ss.map Prod.fst).length ((ss.map Prod.fst).flatMap encF) ∧ Chg [] w wr')
    (fun _ wr' => wr'.rangeLeft m r)
  case atStart => exact ⟨_, _, [], hrg0, World.ownsRow_nil .., hc0⟩
  case round =>
    obtain ⟨left, cnt, ss, hrg, hrow, hcw⟩ := hrel
    have hszw := hcw.size
    have hrl := hrg.lt
    go_wp2_with (first
      | (at_next; refine wpList_next_om (K := KF) rfl _ rfl rfl hrg ?_ ?_)
      | go_in)
    · intro hnd hin0
      have hin : ∀ p : Fl × Value, p ∈ ss ↔ (okF p.1 ∧ M p.1 = some p.2) := fun p => by first | exact hin0 p | exact hin0 p.1 p.2
      have hDlen : (ss.map Prod.fst).length ≤ 300 := by
        have := hnd.length_le_of_subset (l₂ := NL) (fun y hy => by
          obtain ⟨p, hp, rfl⟩ := List.mem_map.1 hy
          exact HKF.out _ _ ((hin p).1 hp).2)
        omega
      have HMEM : Hid (∀ f, f ∈ ss.map Prod.fst ↔ okF f ∧ f ∈ NL) := Lib.hid fun f => by
        constructor
        · intro hf
          obtain ⟨p, hp, rfl⟩ := List.mem_map.1 hf
          exact ⟨((hin p).1 hp).1, HKF.out _ _ ((hin p).1 hp).2⟩
        · rintro ⟨h1, h2⟩
          obtain ⟨v, hv⟩ := HKB.out f h2
          exact List.mem_map.2 ⟨(f, v), (hin (f, v)).2 ⟨h1, hv⟩, rfl⟩
      have FS := Lib.hid (fsort_any ((Sl.of_own hrow).less (Nat.zero_le _) : SlF wr _ (ss.map Prod.fst)) (by omega) (fun x hx => ((HMEM.out x).1 hx).1))
      have HCW := Lib.hid hcw
      clear hrow hnd hin hin0 hrg hcw hDlen
      go_wp2_with fail
      refine FS.out.mono ?_
      rintro e w5 ⟨v5, F, rfl, hp, hs, hsl, hc5⟩
      have HZ := Lib.hid (And.intro hp (And.intro hs (And.intro hsl hc5)))
      clear hp hs hsl hc5 FS
      go_wp2_with fail
      go_ret
      refine ⟨_, F, rfl, HZ.out.2.1, fun f => ?_, HZ.out.2.2.1.less (by omega), HCW.out.trans HZ.out.2.2.2⟩
      rw [HZ.out.1.mem_iff, mem_onceF, HMEM.out]
    · intro x v w2 left2 cnt2 hok hMx hrg2 hlt2 hc2 hsz2 hen
      simp only [show ∀ y, KF.val y = Fl.v y from fun _ => rfl] at hen ⊢
      have hrow2 := own_chg hrow hc2 (fun y hy => by have := (own_lt hrow y hy).1; simp; omega)
      have HC2 := Lib.hid (hcw.trans' hc2 (fun y hy => by simp at hy; subst hy; exact .inr (by omega)))
      have hlss : (ss.map Prod.fst).length ≤ 300 := by
        have h9 := hrg.came
        have := h9.1.length_le_of_subset (l₂ := NL) (fun y hy => by
          obtain ⟨p, hp, rfl⟩ := List.mem_map.1 hy
          exact HKF.out _ _ (h9.2 p hp).2)
        omega
      have hrl2 := hrg2.lt
      have hcA := (Chg.refl [] w2).alloc (.cells (arrF zF) 73)
      have hBf : Blk (w2.alloc (.cells (arrF zF) 73)) w2.heap.size 73 (arrF zF) := Blk.new _ _ _
      have HRG := Lib.hid (hrg2.alloc (.cells (arrF zF) 73))
      have HL1 := Lib.hid (And.intro hrg.left_eq hlt2)
      have hszr : r < w2.heap.size := by omega
      clear hMx hok hrg hlt2 hrow hc2 hrg2 hsz2
      generalize hL0 : ss.map Prod.fst = L0 at *
      have HL0 := Lib.hid hL0
      clear hL0
      go_upto_region 7 with (first
        | (refine wpList_store_blk rfl 73 _ _ rfl rfl hBf rfl rfl rfl infF (one_arrF x) ?_; intro w3 hB3 hc3)
        | fail)
      have HRG3 := Lib.hid (HRG.out.kept (row := some w2.heap.size) (by simpa using Chg.toGrown (r := some w2.heap.size) (by simpa using hc3)) (by intro e; injection e with e; omega) (by intro e; injection e with e; omega))
      have hcA3 : Chg [] w2 w3 := hcA.trans' hc3 (by intro y hy; simp at hy; subst hy; exact .inr (Nat.le_refl _))
      have hrow3 := own_chg hrow2 hcA3 (by simp)
      have r3 := hB3.rangeQ
      have hcat := litFl w3 x
      have hone : Hid (∀ u ∈ encF x, u.oneCell' = true) := Lib.hid (encF_one x)
      have hz3 := hcA3.size
      have HC3 := Lib.hid (HC2.out.trans hcA3)
      generalize hgk : w2.heap.size = gk at *
      have hrow4 := own_chg hrow3 ((Chg.refl [] w3).alloc (.cells (arrF x) 73)) (by simp)
      clear hcA hBf hB3 hc3 hcA3 hrow2 hrow3
      go_wp2_with (first
        | (refine wpList_row 73 (.tmp 4) rfl rfl gk 0 rfl (arrF x) _ r3 Try.underlying73 rfl infF ?_)
        | (at_builtin; refine wpList_app elFl rfl (.tmp 17) (.tmp 19) rfl (r + 1) rfl hrow4 rfl hcat hone.out (by unfold maxLen; omega) (by omega) (by first | omega | (simp; omega)) ?_; intro v5 w5 hown5 hc5 hb5; go_frame)
        | go_in)
      have hlt4 := own_lt hrow4
      replace hc5 : Chg u3.ownBlock.toList (w3.alloc (.cells (arrF x) 73)) w5 := hc5
      have hrg5 := (HRG3.out.alloc (.cells (arrF x) 73)).kept hc5.toGrown (by intro e; have := (hlt4 m (by rw [← e]; simp)).1; omega) (by intro e; have := (hlt4 r (by rw [← e]; simp)).1; omega)
      have hlf := hrg5.left_eq
      have HR5 := Lib.hid hrg5
      have HC5 := Lib.hid ((HC3.out.alloc (.cells (arrF x) 73)).trans' hc5 (fun y hy => .inr (by have := (hlt4 y hy).1; omega)))
      clear hrg5 hc5 hb5 hlt4 hrow4
      go_roundw
      case rel =>
        refine ⟨_, cnt2, ss ++ [(x, v)], HR5.out, ?_, HC5.out⟩
        rw [List.map_append, HL0.out, ← show L0.flatMap encF ++ encF x = (L0 ++ [(x, v)].map Prod.fst).flatMap encF by simp, List.length_append]
        exact hown5
      case measure =>
        rw [hlf, HL1.out.1]; exact HL1.out.2
end Go.Proofs.Ytgbdbeaflilmlaa
