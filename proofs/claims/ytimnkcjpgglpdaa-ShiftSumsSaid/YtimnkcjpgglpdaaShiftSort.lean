/-
  The library's sort of rows, as package shift calls it. No condition.
-/
import Derived.Test.YtimnkcjpgglpdaaShiftRows
import Derived.Test.YtimnkcjpgglpdaaShelfR
import Derived.Test.YtimnkcjpgglpdaaSortK
import Derived.Shelf.SlSortCmp.NoneTotal
set_option linter.unusedVariables false
set_option linter.unusedSimpArgs false
namespace Go.Proofs.Ytimnkcjpgglpdaa
open Go.RowKit Go.Sort Go.Proofs Go.Lib Go.Shelf

/-- A row of a backend that an int holds. -/
abbrev P4 : Type := { r : R4 // 0 < r.node ∧ r.node < 9223372036854775808 }
instance : Inhabited P4 := ⟨⟨⟨1, 0, 0, 0⟩, by decide⟩⟩
def encP (x : P4) : List Value := encR x.1
theorem encP_len (x : P4) : (encP x).length = 4 := rfl
def cfP (x y : P4) : Int := x.1.node - y.1.node

set_option maxHeartbeats 400000 in
theorem cmpRow (x y : P4) (W : World) : Calls Try.prog 50 #[.agg (encP x).toArray, .agg (encP y).toArray] W fun e w' => e = .returned (.int .i64 (cfP x y)) ∧ ∃ q os', w' = grow (W.drewN q) os' := by
  obtain ⟨⟨xn, xh, xs, xk⟩, hx⟩ := x
  obtain ⟨⟨yn, yh, ys, yk⟩, hy⟩ := y
  simp only at hx hy
  obtain ⟨hx1, hx2⟩ := hx
  obtain ⟨hy1, hy2⟩ := hy
  have hw1 : IntKind.i64.wrap (xn - yn) = xn - yn := by rw [IntKind.wrap_i64]; omega
  simp only [encP, encR, cfP]
  clear hx1 hx2 hy1 hy2
  go_enter Try.func50, Try.ntmps50
  go_wp2
  go_ret
  exact ⟨rfl, 0, _, by rw [alloc_eq_grow, alloc_eq_grow, grow_grow]; rfl⟩
theorem ltP (x y : P4) : ltOf cfP x y = decide (x.1.node < y.1.node) := by
  unfold ltOf cfP
  by_cases h : x.1.node < y.1.node
  · simp [h]; omega
  · simp [h]; omega
theorem swoP : SWO (ltOf cfP) where
  irrefl x := by rw [ltP]; simp
  trans x y z h1 h2 := by rw [ltP] at *; simp at *; omega
  ntrans x y z h1 h2 := by rw [ltP] at *; simp at *; omega

theorem sortRows : SortRows := by
  intro w base v L hown hpos hnd hlen
  have eg : ∀ args w, (callFunc 50 args).run Try.prog w = .ok (.enter 50 args) w := enters_of Try.func50 (by kernel_rfl) rfl
  rcases hown.2 with ⟨rfl, h0⟩ | ⟨g, cap, cur, rfl, hbase, hb, h1, h2, h3, h4⟩
  · obtain rfl : L = [] := List.eq_nil_of_length_eq_zero h0
    have hcon := AnyF.slices_SortFunc_none Try.sortRow none 0 (.func (.func 50) #[] #[]) w
    refine hcon.mono ?_
    rintro e w' ⟨rfl, rfl⟩
    exact ⟨rfl, [], List.Perm.refl _, by simp, Sl.nil _ _ _, Chg.refl _ _⟩
  · obtain ⟨d, hd⟩ : ∃ d : List P4, d.map (·.1) = L := by
      refine ⟨L.attach.map fun r => ⟨r.1, hpos r.1 r.2⟩, ?_⟩
      rw [List.map_map]
      simp [Function.comp_def]
    have hdl : d.length = L.length := by rw [← hd, List.length_map]
    have hfl : L.flatMap encR = d.flatMap encP := by rw [← hd, List.flatMap_map]; rfl
    have hH : HoldsK encP 4 w g 0 d.toArray := holdsK_own encP_len (by omega) hb (by rw [hdl, ← hfl]; exact h4)
    have hgl : g < w.heap.size := (Array.getElem?_eq_some_iff.1 hb).1
    have hcon := AnyQ.slices_SortFunc Try.sortRow 4 Try.isAgg35 Try.sizeOf35 encP encP_len (fun x => encR_one x.1) cfP swoP 50 #[] g 0 cap d.toArray w eg
      (fun _ _ _ _ x y => cmpRow x y _) hH hgl (by simp; omega)
    have hsz : d.toArray.size = L.length := by simp [hdl]
    rw [hsz] at hcon
    refine Calls.mono hcon ?_
    rintro e w' ⟨rfl, d', n, os, hp, hs, rfl⟩
    rw [← hsz] at hp hs
    obtain ⟨e1, e2, e3⟩ := sorted_of hp hs
    have e2' : d'.toList.Perm d := by simpa using e2
    have hH' := holdsK_sortWorldK encP 4 w g 0 n d.toArray d' os hgl hH e1
    have hperm : (d'.toList.map (·.1)).Perm L := by rw [← hd]; exact e2'.map _
    refine ⟨rfl, d'.toList.map (·.1), hperm, ?_, ?_, chg_sortK _ _⟩
    · have hnd' : ((d'.toList.map (·.1)).map R4.node).Nodup := (hperm.map R4.node).nodup_iff.2 hnd
      rw [List.map_map] at hnd' ⊢
      have hp1 := List.pairwise_map.1 hnd'
      rw [List.pairwise_map]
      exact (e3.and hp1).imp fun {a b} ⟨h1, h2⟩ => by
        rw [ltP] at h1
        simp at h1 h2 ⊢
        omega
    · have := sl_of_holdsK encP_len (by omega) hH' hbase (by omega : d'.size ≤ cap)
      have hl' : (d'.toList.map (·.1)).length = L.length := hperm.length_eq
      unfold SlR
      rw [hl', List.flatMap_map]
      have hs' : d'.size = L.length := by omega
      rw [hs'] at this
      exact this

theorem rows_any {w : World} {B B' : Nat} {v v' : Value} {l l' : List Int} (h : SlZ w B v l) (h' : SlZ w B' v' l') (hl : l.length ≤ 200) (hl' : l'.length ≤ 200)
    (hwz : ∀ x ∈ l, (Lit.int .i64 x).wf = true) (hwz' : ∀ x ∈ l', (Lit.int .i64 x).wf = true) :
    Calls Try.prog 21 #[v, v'] w fun e w' => ∃ v2 L, e = .returned v2 ∧ IsRows (Mk l l' (max l.length l'.length)) L ∧ SlR w' w.heap.size v2 L ∧ RowKit.Below w.heap.size w w' :=
  rows_any' sortRows h h' hl hl' hwz hwz'
end Go.Proofs.Ytimnkcjpgglpdaa
