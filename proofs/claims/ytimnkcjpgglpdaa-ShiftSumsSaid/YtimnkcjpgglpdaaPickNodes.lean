/-
  WALKS: the backends of a table, in package pick. Condition: the table reads as at most 300 integers, each one that an int holds.
-/
import Derived.Test.YtimnkcjpgglpdaaPickTwo
import Derived.Maps.OwnOps
import Derived.Maps.OwnSet
import Derived.Maps.RangeWalk
import Derived.Sort.OwnSortedInts
set_option linter.unusedVariables false
set_option linter.unusedSimpArgs false
namespace Go.Proofs.Ytimnkcjpgglpdaa
open Go.RowKit Go.Maps Go.Sort

theorem elZ : El Try.prog 22 3 (.int .i64 0) 1 8 := ⟨Try.underlying22, by kernel_rfl, rfl, by omega⟩
theorem lawZ : Keyed Try.prog 3 := int_keyed Try.underlying3
theorem zeroZ (w : World) : (zeroValue 3).run Try.prog w = .ok (.int .i64 0) w := by kernel_rfl

/-- The map's keys are the numbers above 0 of m. -/
def KeysPos (D : DataW Unit) (m : List Int) : Prop := ∀ x, Maps.has D (.int .i64 x) = true ↔ (0 < x ∧ x ∈ m)
theorem KeysPos.nil : KeysPos (.map []) [] := fun x => by simp [Maps.has_eq]
theorem KeysPos.put {D : DataW Unit} {m : List Int} (h : KeysPos D m) (hD : Maps.IsMap D) {x : Int} (hx : 0 < x) (d : DataW Unit) : KeysPos (D.put (.int .i64 x) d) (m ++ [x]) := fun y => by
  by_cases hy : y = x
  · subst hy
    rw [Maps.has_put_same hD (by simp [WideAt.IsKeyLit])]
    simp [hx]
  · rw [Maps.has_put_other (fun e => hy (by injection e)), h y]
    simp [hy]
theorem KeysPos.skip {D : DataW Unit} {m : List Int} (h : KeysPos D m) {x : Int} (hx : ¬ 0 < x) : KeysPos D (m ++ [x]) := fun y => by
  rw [h y]
  constructor
  · rintro ⟨a, b⟩; exact ⟨a, by simp [b]⟩
  · rintro ⟨a, b⟩
    refine ⟨a, ?_⟩
    simp at b
    rcases b with b | b
    · exact b
    · omega

/-- The keys that have come. -/
def Met (D : DataW Unit) (left : Lit → Bool) (ss : List Int) : Prop := ss.Nodup ∧ ∀ x, x ∈ ss ↔ (Maps.has D (.int .i64 x) = true ∧ left (.int .i64 x) = false)
theorem Met.start (D : DataW Unit) : Met D (Maps.has D) [] := ⟨List.nodup_nil, fun x => by simp⟩
theorem Met.step {D : DataW Unit} {left : Lit → Bool} {ss : List Int} (h : Met D left ss) {x : Int} {y : DataW Unit} (hl : left (.int .i64 x) = true) (hat : ∀ z, D.atKey (.int .i64 x) z = y) :
    Met D (fun z => left z && !z.sameKey (.int .i64 x)) (ss ++ [x]) := by
  have hx : x ∉ ss := fun hm => by have := ((h.2 x).1 hm).2; rw [hl] at this; cases this
  refine ⟨List.nodup_append.2 ⟨h.1, by simp, fun a ha b hb => by simp at hb; subst hb; exact fun e => hx (e ▸ ha)⟩, fun y' => ?_⟩
  by_cases hy : y' = x
  · subst hy
    simp [Maps.has_true_of_atKey hat, Lit.sameKey]
  · rw [List.mem_append, h.2 y']
    have hk : (Lit.int .i64 y').sameKey (.int .i64 x) = false := Maps.sameKey_ne (fun e => hy (by injection e))
    simp [hy, hk]
theorem Met.done {D : DataW Unit} {left : Lit → Bool} {ss m : List Int} (h : Met D left ss) (hl : ∀ kl, left kl = false) (hk : KeysPos D m) : ∀ x, x ∈ ss ↔ (0 < x ∧ x ∈ m) := fun x => by
  rw [h.2 x, hk x]; simp [hl]

/-- What the library's sort says. -/
def SortSays : Prop := ∀ (blk off cap : Nat) (zs : List Int) (w : World), Holds (Value.int .i64) w blk off zs.toArray → blk < w.heap.size → zs.length < 4611686018427387904 →
    Calls Try.prog 45 #[.slice (some ⟨blk, off, none⟩) zs.length cap] w fun e w' =>
      e = .returned (.tuple #[]) ∧ ∃ n os, w' = grow (putRow (Value.int .i64) (Sort.ahead w n) blk off (zs.mergeSort fun x y => decide (x ≤ y)).toArray) os
def SortNone : Prop := ∀ (p : Option Addr) (cap : Nat) (w : World), Calls Try.prog 45 #[.slice p 0 cap] w fun e w' => e = .returned (.tuple #[]) ∧ w' = w

set_option maxRecDepth 100000 in
set_option maxHeartbeats 1000000 in
theorem nodes_any' (hsort : SortSays) (hnone : SortNone) {w : World} {B : Nat} {v : Value} {l : List Int} (h : SlZ w B v l) (hl : l.length ≤ 600) (hwz : ∀ x ∈ l, (Lit.int .i64 x).wf = true) :
    Calls Try.prog 17 #[v] w fun e w' => ∃ v' ns, e = .returned v' ∧ IsNodes l ns ∧ SlZ w' w.heap.size v' ns ∧ Below w.heap.size w w' := by
  have hmm := @run_makeMap Try.prog
  obtain ⟨i0, hi, hz0, hz1, hz2⟩ := info_parts elZ.info
  obtain ⟨A, c, hv⟩ := Sl.form h
  have HV := Lib.hid hv
  have HW := Lib.hid hwz
  have HS := Lib.hid h
  rw [hv]
  clear hv hwz h
  have e1 : (w.alloc (.map #[] 0)).heap.size = w.heap.size + 1 := by simp
  generalize hL : l.length = len at *
  go_enter Try.func17, Try.ntmps17
  go_wp2
  go_loopw [11] (fun i wr => ∃ (k : Nat) (D : DataW Unit), k ≤ len ∧ i = .int .i64 k ∧ wr.ownsMap Try.prog 3 (plainElem Try.prog 3) w.heap.size k D ∧ KeysPos D (l.take k) ∧ Below w.heap.size w wr)
    (fun i _ => len - (intOf i).toNat)
  case atStart => exact ⟨0, _, Nat.zero_le _, rfl, World.ownsMap_made _ _ _ _, by simpa using KeysPos.nil, (Below.refl _ _).alloc (Nat.le_refl _) _⟩
  case round =>
    obtain ⟨k, D, hk, rfl, hown, hkp, hnx⟩ := hrel
    by_cases hlt : k < len
    · obtain ⟨b, off, c', hv, _, hb, _, hc⟩ := HS.out.all (by omega)
      have hv' := HV.out.symm.trans hv
      rw [hL] at hv'
      simp only [Value.slice.injEq, true_and] at hv'
      obtain ⟨rfl, rfl⟩ := hv'
      clear hv
      have hcx := (hnx.cell (p := ⟨b, off + k, none⟩) hb).trans (hc k (by omega))
      clear hc
      have hx : l[k]? = some (l[k]?.getD 0) := by rw [List.getElem?_eq_getElem (by omega)]; rfl
      have ht : l.take (k + 1) = l.take k ++ [l[k]?.getD 0] := by rw [List.take_add_one, List.getElem?_eq_getElem (by omega)]; rfl
      have hwx : (Lit.int .i64 (l[k]?.getD 0)).wf = true := HW.out _ (List.mem_of_getElem? hx)
      generalize l[k]?.getD 0 = x at *
      clear hx
      have HT := Lib.hid ht
      have HK := Lib.hid hkp
      clear ht hkp
      by_cases hx0 : 0 < x
      · have hkey : keyOf Try.prog 3 (.int .i64 x) = some (.int .i64 x) := keyOf_int_mk Try.underlying3 hwx
        go_wp2_with (first
          | (at_lookup; refine wpList_lookup_own_int _ rfl _ _ 77 rfl 3 3 .i64 lawZ Try.underlying77 Try.underlying3 (zeroZ _) w.heap.size k _ rfl hown _ _ rfl hkey ?_; intro c hat hwc)
          | (at_mapUpdate; refine wpList_mapUpdate_own _ rfl _ _ _ 77 rfl 3 3 lawZ Try.underlying77 _ w.heap.size k _ rfl hown (by unfold maxLen; omega) _ _ _ rfl rfl hkey _ [] (plainElem_int Try.underlying3 (wrap64_wf _)) ?_; intro w1 hown1 hgrow1)
          | go_in)
        go_roundw
        case rel => exact ⟨k + 1, _, by omega, by go_num, hown1, by rw [HT.out]; exact HK.out.put hown.isMap hx0 _, hnx.grown hgrow1 hnx.size (fun j hj => by cases hj; exact Nat.le_refl _)⟩
        case measure => simp [intOf]; omega
      · go_wp2
        go_roundw
        case rel => exact ⟨k + 1, _, by omega, by go_num, hown.mono (by omega), by rw [HT.out]; exact HK.out.skip hx0, hnx⟩
        case measure => simp [intOf]; omega
    · obtain rfl : k = len := by omega
      have hkl : KeysPos D l := by rw [← hL, List.take_length] at hkp; exact hkp
      have HK := Lib.hid hkl
      clear hkl hkp
      have hbl := hown.lt
      have hsz : Maps.size D ≤ k := hown.size_le
      go_wp2_with (first
        | (at_range; refine wpList_range_own _ rfl _ 77 rfl 3 3 lawZ Try.underlying77 _ w.heap.size k _ rfl hown ?_; intro w0 hrg0 hg0 hs0)
        | go_in)
      go_frame
      have hr0 : w.heap.size < wr.heap.size := hbl
      generalize hre : wr.heap.size = r at *
      go_loopw [6] (fun v' wr' => ∃ (left : Lit → Bool) (cnt : Nat) (ss : List Int), wr'.ranges Try.prog 3 (plainElem Try.prog 3) w.heap.size r k D left cnt ∧ ss.length + cnt ≤ Maps.size D ∧
          wr'.ownsRow (w.heap.size + 1) 3 1 v' ss.length (ss.map (Value.int .i64)) ∧ Met D left ss ∧ Below w.heap.size w wr')
        (fun _ wr' => wr'.rangeLeft w.heap.size r)
      case atStart =>
        exact ⟨_, _, [], hrg0, by simp, World.ownsRow_nil .., Met.start D, hnx.grown hg0 hnx.size (fun j hj => by cases hj)⟩
      case round =>
        obtain ⟨left, cnt, ss, hrg, hcs, hrow, hM, hnx'⟩ := hrel
        have hw := hnx'.size
        go_wp2_with (first
          | (at_next; refine wpList_next_ranges_ii _ rfl _ rfl 3 3 .i64 .i64 lawZ Try.underlying3 Try.underlying3 w.heap.size r k _ _ _ rfl hrg ?_ ?_)
          | go_in)
        · intro hc0 hl0
          have hin := hM.done hl0 HK.out
          have hN := IsNodes.of_keys hM.1 hin
          rcases hrow.2 with ⟨rfl, hn0⟩ | ⟨g, cap, cur, rfl, hbase, hb, h1, h2, h3, h4⟩
          · have hss : ss = [] := List.eq_nil_of_length_eq_zero hn0
            subst hss
            go_wp2_with (first | (go_at_call 45; refine (hnone _ _ _).mono ?_; rintro e w' ⟨rfl, rfl⟩) | fail)
            go_ret
            exact ⟨_, [], rfl, by simpa using hN, Sl.nil _ _ _, hnx'⟩
          · have hH := holds_of_blockI hb (by simpa using h4)
            have hgl : g < wr.heap.size := (Array.getElem?_eq_some_iff.1 hb).1
            have hc := hsort g 0 cap ss _ hH hgl (by omega)
            go_wp2_with (first | (go_at_call 45; refine hc.mono ?_; rintro e w' ⟨rfl, nn, os, rfl⟩) | fail)
            go_ret
            refine ⟨_, _, rfl, hN, ?_, hnx'.grown (grownBy_sortedI _) hnx'.size (fun j hj => by cases hj; omega)⟩
            unfold SlZ
            rw [List.length_mergeSort]
            exact (Sl.of_own (ownsRow_sortedI (by simp) hbase hb h1 h2 h3)).less (by omega)
        · intro x c w2 cnt2 hwx hwc hlx hat hrg2 hlt hg2 hs2 hen
          have hrow2 := hrow.kept hg2 (Or.inr (row_ne_iter hrow hrg).symm)
          clear hs2
          go_wp2_with (first
            | (at_builtin; refine wpList_append_own _ rfl _ _ 22 rfl (w.heap.size + 1) 3 i0 (.int .i64 0) 1 8 Try.underlying22 hi hz0 hz1 hz2 rfl (by decide) _ _ _ rfl (hrow2.alloc _) ⟨w2.heap.size, 0, none⟩ 1 1 [.int .i64 x] rfl rfl (cell_one_new _ _ _) (by simp [Value.oneCell']) (by unfold maxLen at *; omega) (by omega) (by have := hnx'.size; have := hg2.size; simp; omega) ?_; intro v3 w3 hown' hg3 hnil3; go_frame)
            | go_in)
          have hrg3 := (hrg2.alloc _).kept hg3 (row_ne_low hrow2 (by omega)) (row_ne_iter hrow2 hrg2)
          go_roundw
          case rel =>
            refine ⟨_, cnt2, ss ++ [x], hrg3, by simp; omega, by simpa using hown', hM.step hlx hat, ?_⟩
            exact ((hnx'.grown hg2 hnx'.size (fun j hj => by cases hj; omega)).alloc (by have := hg2.size; omega) _).grown hg3 (by have := hg2.size; simp; omega) (fun j hj => by have := (hrow2.lt j hj).1; omega)
          case measure => rw [hrg3.left_eq, hrg.left_eq]; exact hlt
end Go.Proofs.Ytimnkcjpgglpdaa
