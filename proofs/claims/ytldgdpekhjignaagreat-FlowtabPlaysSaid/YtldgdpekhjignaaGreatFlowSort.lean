/-
  WALKS over package flow: Sort, with what the library's SortFunc does as a premise of the lemma. Condition: at most 1000 flows.
-/
import Derived.Test.YtldgdpekhjignaaGreatFlowOut
import Derived.Deep.DeepCutAuto
import Derived.Deep.CutBlock
set_option linter.unusedVariables false
set_option linter.unusedSimpArgs false
namespace Go.Proofs.YtldgdpekhjignaaGreat
open Go.RowKit Go.Maps

/-- What slices.SortFunc does with flows, each once. -/
def SortFlSays : Prop := ∀ (w : World) (base gl : Nat) (v : Value) (L : List Fl), w.cell? ⟨gl, 0, none⟩ = some (.func (.func 67) #[] #[]) → OwF w base v L → (∀ f ∈ L, okF f) → L.Nodup → L.length ≤ 1000 → gl ∉ v.ownBlock.toList →
  Calls Tryz.prog 88 #[v, .func (.func 89) #[] #[.pointer (some ⟨gl, 0, none⟩)]] w fun e w' => e = .returned (.tuple #[]) ∧
    ∃ L', L'.Perm L ∧ SrtF L' ∧ Sl w' base 34 v L'.length (L'.flatMap encF) ∧ Chg v.ownBlock.toList w w'

set_option maxRecDepth 100000 in
set_option maxHeartbeats 2000000 in
theorem ordered_any (HS : SortFlSays) {w : World} {v : Value} {l : List Fl} (h : SlF w v l) (hl : l.length ≤ 1000) (hok : ∀ x ∈ l, okF x) :
    Calls Tryz.prog 66 #[v, .func (.func 67) #[] #[]] w fun e w' => ∃ v' L, e = .returned v' ∧ L.Perm (onceF l) ∧ SrtF L ∧ Sl w' w.heap.size 34 v' L.length (L.flatMap encF) ∧ Chg [] w w' := by
  have hmm := @run_makeMap Tryz.prog
  obtain ⟨A, c, rfl⟩ := Sl.form h
  have HSS : Hid SortFlSays := Lib.hid HS
  have HO := Lib.hid (fun W (hc : Chg [] w W) i x hx => SlF.one (h.chg0 hc) rfl (i := i) (x := x) hx)
  have HX : Hid (∀ i, i < l.length → ∃ x, l[i]? = some x ∧ okF x) := Lib.hid fun i hi => ⟨_, List.getElem?_eq_getElem hi, hok _ (List.getElem_mem hi)⟩
  have HOK := Lib.hid hok
  have hg1 := (Chg.refl [] w).alloc (.cells #[.func (.func 67) #[] #[]] 117)
  have hg2 := hg1.alloc (.map #[] 0)
  have hbl : Blk ((w.alloc (.cells #[.func (.func 67) #[] #[]] 117)).alloc (.map #[] 0)) w.heap.size 117 #[.func (.func 67) #[] #[]] := (Blk.new _ _ _).alloc _
  have hom : OM KF ((w.alloc (.cells #[.func (.func 67) #[] #[]] 117)).alloc (.map #[] 0)) (w.heap.size + 1) 0 (fun _ => none) 0 := by
    have := OM.new (K := KF) (w.alloc (.cells #[.func (.func 67) #[] #[]] 117))
    simpa using this
  have hsz : ((w.alloc (.cells #[.func (.func 67) #[] #[]] 117)).alloc (.map #[] 0)).heap.size = w.heap.size + 2 := by simp
  have HI := Lib.hid (And.intro hg2 (And.intro hbl (And.intro hom hsz)))
  clear h hok hg1 hg2 hbl hom hsz HS
  generalize hN : l.length = N at *
  go_enter Tryz.func66, Tryz.ntmps66
  go_upto_region 2 with fail
  obtain ⟨hg2, hbl, hom, hsz⟩ := HI.out
  generalize (w.alloc (.cells #[.func (.func 67) #[] #[]] 117)).alloc (.map #[] 0) = w2 at *
  have HI2 := Lib.hid (And.intro hg2 (And.intro hbl (And.intro hom hsz)))
  clear hg2 hbl hom hsz HI hmm
  generalize hgl : w.heap.size = gl at *
  have h0 : w2.ownsRow w2.heap.size 38 34 (.slice none 0 0) (onceF (l.take 0)).length ((onceF (l.take 0)).flatMap encF) := World.ownsRow_nil ..
  have HOM0 : Hid (OM KF w2 (gl + 1) 0 (MCF (l.take 0)) 0) := Lib.hid (by rw [List.take_zero, MCF_nil]; exact HI2.out.2.2.1)
  go_wp2_with fail
  go_loopw [6, 12] (fun ov iv wr => ∃ (k s : Nat), k ≤ N ∧ iv = .int .i64 k ∧ Hid (OM KF wr (gl + 1) k (MCF (l.take k)) s) ∧ wr.ownsRow w2.heap.size 38 34 ov (onceF (l.take k)).length ((onceF (l.take k)).flatMap encF) ∧ Hid (Chg [gl + 1] w2 wr)) (fun _ iv _ => N - (intOf iv).toNat)
  case atStart => exact ⟨0, 0, by omega, rfl, HOM0, h0, Lib.hid (Chg.refl _ _)⟩
  case round =>
    obtain ⟨k, s, hk, rfl, HM, hrow, HC⟩ := hrel
    have hsz := HI2.out.2.2.2
    have hcw : Chg [] w wr := HI2.out.1.trans' HC.out (by intro y hy; simp at hy; subst hy; exact .inr (by omega))
    have hwz := HC.out.size
    by_cases hlt : k < N
    · obtain ⟨x, hx, hxo⟩ := HX.out k hlt
      obtain ⟨b, o, rfl, hrg⟩ := HO.out wr hcw k x hx
      have HRG := Lib.hid hrg
      have htk : l.take (k + 1) = l.take k ++ [x] := by rw [List.take_add_one, hx]; rfl
      have hA := (Chg.refl [] wr).alloc (.cells (arrF ⟨⟨0, 0, 0, 0, 0, 0, 0, 0, 0, 0, 0, 0, 0, 0, 0, 0⟩, 0, ⟨0, 0, 0, 0, 0, 0, 0, 0, 0, 0, 0, 0, 0, 0, 0, 0⟩, 0⟩) 38)
      have hB : Blk (wr.alloc (.cells (arrF ⟨⟨0, 0, 0, 0, 0, 0, 0, 0, 0, 0, 0, 0, 0, 0, 0, 0⟩, 0, ⟨0, 0, 0, 0, 0, 0, 0, 0, 0, 0, 0, 0, 0, 0, 0, 0⟩, 0⟩) 38)) wr.heap.size 38 (arrF ⟨⟨0, 0, 0, 0, 0, 0, 0, 0, 0, 0, 0, 0, 0, 0, 0, 0⟩, 0, ⟨0, 0, 0, 0, 0, 0, 0, 0, 0, 0, 0, 0, 0, 0, 0, 0⟩, 0⟩) := Blk.new _ _ _
      clear hrg hx HX HO
      go_upto_region 6 with (first
        | (refine wpList_row 38 (.tmp 14) rfl rfl b _ rfl _ _ HRG.out Tryz.underlying38 rfl infF ?_)
        | (refine wpList_store_blk rfl 38 _ _ rfl rfl hB rfl rfl rfl (by kernel_rfl) (one_arrF x) ?_; intro w5 hB5 hc5)
        | fail)
      have hc5' := hA.trans' hc5 (by intro y hy; simp at hy; subst hy; exact .inr (Nat.le_refl _))
      have hz5 := hc5'.size
      have hB5' : Blk w5 wr.heap.size 38 (arrF x) := hB5
      clear hB5 hc5 hA hB
      generalize hg8 : wr.heap.size = g8 at *
      have hM5 := (HM.out.chg0 hc5').chg0 (Chg.refl [] w5).drew
      generalize hcn : ((l.take k).count x : Int) = cn at *
      have hlk : (Instr.lookup 134 (.map (some (gl + 1))) x.v false).run Tryz.prog w5.drew = .ok (.int .i64 cn) w5.drew := by
        have := hM5.look Tryz.underlying134 (zeroZ _) (x := x) hxo
        rw [MCF_get, hcn] at this
        exact this
      obtain ⟨v0, st, wm, we, M1, s1, e1, e2, ho2, hc2, ho1, hc1, hM1⟩ := hM5.bump lawFl Tryz.underlying134 (by unfold maxLen; omega) zeroZ (x := x) hxo (.int .i64 (cn + 1))
      have hlk2 : (Instr.lookup 134 (.map (some (gl + 1))) x.v false).run Tryz.prog wm = .ok (.int .i64 cn) wm := by
        have := ho1.look Tryz.underlying134 (zeroZ _) (x := x) hxo
        rw [hM1, MCF_get, hcn] at this
        exact this
      have hgm : gl + 1 < g8 := by omega
      have hS0 : (fun W : World => Blk W g8 38 (arrF x)) w5.drew := hB5'.drew
      have hS1 : (fun W : World => Blk W g8 38 (arrF x)) wm := hB5'.drew.chg hc1 (by simp; omega)
      have hS2 : (fun W : World => Blk W g8 38 (arrF x)) we := hB5'.drew.chg hc2 (by simp; omega)
      have HSR : ∀ W : World, (Blk W g8 38 (arrF x)) → W.rangeAt g8 0 (arrF x).toList := fun W h => h.rangeQ
      have hcnb : 0 ≤ cn ∧ cn ≤ 1000 := by
        have h1 := List.count_le_length (a := x) (l := l.take k)
        rw [List.length_take] at h1
        omega
      have hwn : IntKind.i64.wrap (cn + 1) = cn + 1 := by rw [IntKind.wrap_i64]; omega
      have HMe : Hid (∃ s2, OM KF we (gl + 1) (k + 1) (MCF (l.take (k + 1))) s2) := Lib.hid (by
        have : (fun y => if y = x then some (.int .i64 (cn + 1)) else MCF (l.take k) y) = MCF (l.take (k + 1)) := by
          rw [htk, ← MCF_snoc, hcn]
        rw [← this]; exact ⟨_, ho2⟩)
      have HCE := Lib.hid ((HC.out.trans' (T := [gl + 1]) ((hc5'.more (by simp)).trans ((Chg.refl [gl + 1] w5).drew.trans hc2)) (by simp)))
      have HRE := Lib.hid (own_chg (own_chg hrow hc5' (by simp)) ((Chg.refl [gl + 1] w5).drew.trans hc2) (fun y hy hm => by have := (own_lt hrow y hy).1; simp at hm; omega))
      have HLK3 : Hid ((Instr.lookup 134 (.map (some (gl + 1))) x.v false).run Tryz.prog we = .ok (.int .i64 (cn + 1)) we) := Lib.hid (by
        have := ho2.look Tryz.underlying134 (zeroZ _) (x := x) hxo
        rw [if_pos rfl] at this
        exact this)
      have HCO := Lib.hid (count_once (l.take k) x)
      have HON := Lib.hid (onceF_snoc (l.take k) x)
      rw [← htk] at HON
      have hol := onceF_len (l.take k)
      rw [List.length_take] at hol
      clear hM5 ho2 hc2 ho1 hc1 hM1 HM hrow HC hc5' hB5' htk HRG hxo HI2 HOM0 h0 hcw
      refine wp_region_noPanic ?_
      refine wp_region_held_drew (S := fun W : World => Blk W g8 38 (arrF x)) (by kernel_rfl) hS0 (fun _ => ?_)
      refine wpAnyH_take (i := 0) (v := ?_) rfl (by kernel_rfl) (by kernel_rfl) (by kernel_rfl) (fun _ _ _ h => h) (yields_pure (by rfl) (fun w => ?_)) (by with_reducible assumption) ?_
      rotate_left
      · (go_simp <;> with_reducible rfl)
      try simp only [List.getElem_toArray, List.getElem_cons_succ, List.getElem_cons_zero, Act.put, List.setIfInBounds_toArray, List.set_cons_zero, List.set_cons_succ]
      refine wpAnyH_take (i := 1) rfl (by kernel_rfl) (by kernel_rfl) (by kernel_rfl) (fun _ _ _ h => h) (yields_row (by rfl) 38 (.tmp 8) rfl g8 0 rfl (arrF x) _ HSR Tryz.underlying38 rfl infF) (by with_reducible assumption) ?_
      try simp only [List.getElem_toArray, List.getElem_cons_succ, List.getElem_cons_zero, Act.put, List.setIfInBounds_toArray, List.set_cons_zero, List.set_cons_succ]
      refine wpAnyH_ready (rs := [2, 4]) (by kernel_rfl) (by simp) (AllReadyH.cons rfl (fun K hK => ?_) (AllReadyH.cons rfl (fun K hK => ?_) AllReadyH.nil))
      · refine step_lookup rfl 134 (.tmp 16) (.tmp 17) rfl rfl rfl hlk ?_
        refine hK.out _ _ (by with_reducible assumption) (fun _ => ?_)
        clear hK K
        try simp only [List.getElem_toArray, List.getElem_cons_succ, List.getElem_cons_zero, Act.put, List.setIfInBounds_toArray, List.set_cons_zero, List.set_cons_succ]
        refine wpAnyH_take (i := 3) (v := ?_) rfl (by kernel_rfl) (by kernel_rfl) (by kernel_rfl) (fun _ _ _ h => h) (yields_pure (by rfl) (fun w => ?_)) (by with_reducible assumption) ?_
        rotate_left
        · (go_simp <;> with_reducible rfl)
        try simp only [List.getElem_toArray, List.getElem_cons_succ, List.getElem_cons_zero, Act.put, List.setIfInBounds_toArray, List.set_cons_zero, List.set_cons_succ]
        refine wpAnyH_ready (rs := [4]) (by kernel_rfl) (by simp) (AllReadyH.cons rfl (fun K hK => ?_) AllReadyH.nil)
        refine step_mapEntry rfl 134 (.tmp 16) (.tmp 17) rfl rfl rfl e1 ?_
        refine hK.out _ _ (by with_reducible assumption) (fun _ => ?_)
        clear hK K
        try simp only [List.getElem_toArray, List.getElem_cons_succ, List.getElem_cons_zero, Act.put, List.setIfInBounds_toArray, List.set_cons_zero, List.set_cons_succ]
        refine wpAnyH_take (i := 5) (v := ?_) rfl (by kernel_rfl) (by kernel_rfl) (by kernel_rfl) (fun _ _ _ h => h) (yields_pure (by rfl) (fun w => ?_)) (by with_reducible assumption) ?_
        rotate_left
        · (go_simp <;> with_reducible rfl)
        try simp only [List.getElem_toArray, List.getElem_cons_succ, List.getElem_cons_zero, Act.put, List.setIfInBounds_toArray, List.set_cons_zero, List.set_cons_succ]
        refine wpAnyH_ready (rs := [6]) (by kernel_rfl) (by simp) (AllReadyH.cons rfl (fun K hK => ?_) AllReadyH.nil)
        refine step_entryStore rfl 134 (.tmp 16) (.tmp 21) (.tmp 19) rfl rfl rfl rfl rfl e2 ?_
        refine hK.out _ _ (by with_reducible assumption) (fun _ => ?_)
        clear hK K
        try simp only [List.getElem_toArray, List.getElem_cons_succ, List.getElem_cons_zero, Act.put, List.setIfInBounds_toArray, List.set_cons_zero, List.set_cons_succ]
        refine wpAnyH_done (by kernel_rfl) ?_ _
        refine NoPanic.normal ?_
        have hR8 := Lib.hid hS2.rangeQ
        have hlk3 := HLK3.out
        have hrowe := HRE.out
        have hwe := HCE.out.size
        by_cases hc0 : cn = 0
        · have hb : (cn + 1 == 1) = true := by simp [hc0]
          have hon : onceF (l.take (k + 1)) = onceF (l.take k) ++ [x] := by
            rw [HON.out, if_neg (HCO.out.1 (by omega))]
          have HON1 := Lib.hid hon
          have hcat := litFl we x
          have hone : Hid (∀ u ∈ encF x, u.oneCell' = true) := Lib.hid (encF_one x)
          have hrow5 := own_chg hrowe ((Chg.refl [] we).alloc (.cells (arrF x) 38)) (by simp)
          clear hc0 hon hrowe hlk hlk2 e1 e2 HON hS0 hS1 hS2
          go_wp2_with (first
            | (refine wpList_row 38 (.tmp 8) rfl rfl g8 0 rfl _ _ hR8.out Tryz.underlying38 rfl infF ?_)
            | (at_builtin; refine wpList_app elFl rfl (.tmp 26) (.tmp 28) rfl w2.heap.size rfl hrow5 rfl hcat hone.out (by unfold maxLen; omega) (by omega) (by first | omega | (simp; omega)) ?_; intro v9 w9 hown9 hc9 hb9)
            | fail)
          have hlt9 := own_lt hrow5
          have hcA9 := (Chg.refl [gl + 1] we).alloc (.cells (arrF x) 38)
          have HC9 : Hid (Chg [gl + 1] w2 w9) := Lib.hid ((HCE.out.trans hcA9).trans' hc9 (fun y hy => .inr (hlt9 y hy).1))
          have HM9 : Hid (∃ s2, OM KF w9 (gl + 1) (k + 1) (MCF (l.take (k + 1))) s2) := Lib.hid (by
            obtain ⟨s2, hs2⟩ := HMe.out
            exact ⟨s2, (hs2.chg0 ((Chg.refl [] we).alloc _)).chg hc9 (fun hm => by have := (hlt9 _ hm).1; omega)⟩)
          clear hc9 hb9 hcat hrow5 hcA9
          go_roundw
          case rel =>
            obtain ⟨s2, hs2⟩ := HM9.out
            refine ⟨k + 1, s2, by omega, by go_num, Lib.hid hs2, ?_, HC9⟩
            rw [HON1.out, ← flat_snoc, List.length_append]
            exact hown9
          case measure => simp [intOf]; omega
        · have hb : (cn + 1 == 1) = false := by simp; omega
          have hon : onceF (l.take (k + 1)) = onceF (l.take k) := by
            rw [HON.out, if_pos (by
              by_cases hm : x ∈ onceF (l.take k)
              · exact hm
              · exact absurd (HCO.out.2 hm) (by omega))]
          have HON1 := Lib.hid hon
          clear hc0 hon hlk hlk2 e1 e2 HON hS0 hS1 hS2
          go_wp2_with (first
            | (refine wpList_row 38 (.tmp 8) rfl rfl g8 0 rfl _ _ hR8.out Tryz.underlying38 rfl infF ?_)
            | fail)
          go_roundw
          case rel =>
            obtain ⟨s2, hs2⟩ := HMe.out
            exact ⟨k + 1, s2, by omega, by go_num, Lib.hid hs2, by rw [HON1.out]; exact hrowe, HCE⟩
          case measure => simp [intOf]; omega
      · refine step_mapEntry rfl 134 (.tmp 16) (.tmp 17) rfl rfl rfl e1 ?_
        refine hK.out _ _ (by with_reducible assumption) (fun _ => ?_)
        clear hK K
        try simp only [List.getElem_toArray, List.getElem_cons_succ, List.getElem_cons_zero, Act.put, List.setIfInBounds_toArray, List.set_cons_zero, List.set_cons_succ]
        refine wpAnyH_take (i := 5) (v := ?_) rfl (by kernel_rfl) (by kernel_rfl) (by kernel_rfl) (fun _ _ _ h => h) (yields_pure (by rfl) (fun w => ?_)) (by with_reducible assumption) ?_
        rotate_left
        · (go_simp <;> with_reducible rfl)
        try simp only [List.getElem_toArray, List.getElem_cons_succ, List.getElem_cons_zero, Act.put, List.setIfInBounds_toArray, List.set_cons_zero, List.set_cons_succ]
        refine wpAnyH_ready (rs := [2]) (by kernel_rfl) (by simp) (AllReadyH.cons rfl (fun K hK => ?_) AllReadyH.nil)
        refine step_lookup rfl 134 (.tmp 16) (.tmp 17) rfl rfl rfl hlk2 ?_
        refine hK.out _ _ (by with_reducible assumption) (fun _ => ?_)
        clear hK K
        try simp only [List.getElem_toArray, List.getElem_cons_succ, List.getElem_cons_zero, Act.put, List.setIfInBounds_toArray, List.set_cons_zero, List.set_cons_succ]
        refine wpAnyH_take (i := 3) (v := ?_) rfl (by kernel_rfl) (by kernel_rfl) (by kernel_rfl) (fun _ _ _ h => h) (yields_pure (by rfl) (fun w => ?_)) (by with_reducible assumption) ?_
        rotate_left
        · (go_simp <;> with_reducible rfl)
        try simp only [List.getElem_toArray, List.getElem_cons_succ, List.getElem_cons_zero, Act.put, List.setIfInBounds_toArray, List.set_cons_zero, List.set_cons_succ]
        refine wpAnyH_ready (rs := [6]) (by kernel_rfl) (by simp) (AllReadyH.cons rfl (fun K hK => ?_) AllReadyH.nil)
        refine step_entryStore rfl 134 (.tmp 16) (.tmp 21) (.tmp 19) rfl rfl rfl rfl rfl e2 ?_
        refine hK.out _ _ (by with_reducible assumption) (fun _ => ?_)
        clear hK K
        try simp only [List.getElem_toArray, List.getElem_cons_succ, List.getElem_cons_zero, Act.put, List.setIfInBounds_toArray, List.set_cons_zero, List.set_cons_succ]
        refine wpAnyH_done (by kernel_rfl) ?_ _
        refine NoPanic.normal ?_
        have hR8 := Lib.hid hS2.rangeQ
        have hlk3 := HLK3.out
        have hrowe := HRE.out
        have hwe := HCE.out.size
        by_cases hc0 : cn = 0
        · have hb : (cn + 1 == 1) = true := by simp [hc0]
          have hon : onceF (l.take (k + 1)) = onceF (l.take k) ++ [x] := by
            rw [HON.out, if_neg (HCO.out.1 (by omega))]
          have HON1 := Lib.hid hon
          have hcat := litFl we x
          have hone : Hid (∀ u ∈ encF x, u.oneCell' = true) := Lib.hid (encF_one x)
          have hrow5 := own_chg hrowe ((Chg.refl [] we).alloc (.cells (arrF x) 38)) (by simp)
          clear hc0 hon hrowe hlk hlk2 e1 e2 HON hS0 hS1 hS2
          go_wp2_with (first
            | (refine wpList_row 38 (.tmp 8) rfl rfl g8 0 rfl _ _ hR8.out Tryz.underlying38 rfl infF ?_)
            | (at_builtin; refine wpList_app elFl rfl (.tmp 26) (.tmp 28) rfl w2.heap.size rfl hrow5 rfl hcat hone.out (by unfold maxLen; omega) (by omega) (by first | omega | (simp; omega)) ?_; intro v9 w9 hown9 hc9 hb9)
            | fail)
          have hlt9 := own_lt hrow5
          have hcA9 := (Chg.refl [gl + 1] we).alloc (.cells (arrF x) 38)
          have HC9 : Hid (Chg [gl + 1] w2 w9) := Lib.hid ((HCE.out.trans hcA9).trans' hc9 (fun y hy => .inr (hlt9 y hy).1))
          have HM9 : Hid (∃ s2, OM KF w9 (gl + 1) (k + 1) (MCF (l.take (k + 1))) s2) := Lib.hid (by
            obtain ⟨s2, hs2⟩ := HMe.out
            exact ⟨s2, (hs2.chg0 ((Chg.refl [] we).alloc _)).chg hc9 (fun hm => by have := (hlt9 _ hm).1; omega)⟩)
          clear hc9 hb9 hcat hrow5 hcA9
          go_roundw
          case rel =>
            obtain ⟨s2, hs2⟩ := HM9.out
            refine ⟨k + 1, s2, by omega, by go_num, Lib.hid hs2, ?_, HC9⟩
            rw [HON1.out, ← flat_snoc, List.length_append]
            exact hown9
          case measure => simp [intOf]; omega
        · have hb : (cn + 1 == 1) = false := by simp; omega
          have hon : onceF (l.take (k + 1)) = onceF (l.take k) := by
            rw [HON.out, if_pos (by
              by_cases hm : x ∈ onceF (l.take k)
              · exact hm
              · exact absurd (HCO.out.2 hm) (by omega))]
          have HON1 := Lib.hid hon
          clear hc0 hon hlk hlk2 e1 e2 HON hS0 hS1 hS2
          go_wp2_with (first
            | (refine wpList_row 38 (.tmp 8) rfl rfl g8 0 rfl _ _ hR8.out Tryz.underlying38 rfl infF ?_)
            | fail)
          go_roundw
          case rel =>
            obtain ⟨s2, hs2⟩ := HMe.out
            exact ⟨k + 1, s2, by omega, by go_num, Lib.hid hs2, by rw [HON1.out]; exact hrowe, HCE⟩
          case measure => simp [intOf]; omega
    · obtain rfl : k = N := by omega
      have htl : l.take k = l := by rw [← hN, List.take_length]
      rw [htl] at hrow
      have hlf : wr.cell? ⟨gl, 0, none⟩ = some (.func (.func 67) #[] #[]) := (HI2.out.2.1.chg HC.out (by simp)).cell 0
      have hlt0 := own_lt hrow
      have hol := onceF_len l
      have FS := Lib.hid (HSS.out wr w2.heap.size gl _ (onceF l) hlf hrow (fun f hf => HOK.out f (mem_onceF.1 hf)) (nodup_onceF l) (by omega) (fun hm => by have := (hlt0 _ hm).1; omega))
      have HL0 := Lib.hid hlt0
      have HCW := Lib.hid hcw
      clear hrow htl HX HO HM HOM0 h0 hlt0 hcw
      go_wp2_with (first
        | (go_at_call 88; refine FS.out.mono ?_; rintro e w9 ⟨rfl, L', hp, hs, hS9, hc9⟩)
        | fail)
      go_ret
      exact ⟨_, L', rfl, hp, hs, hS9.less (by omega), HCW.out.trans' hc9 (fun y hy => .inr (by have := (HL0.out y hy).1; omega))⟩
end Go.Proofs.YtldgdpekhjignaaGreat
