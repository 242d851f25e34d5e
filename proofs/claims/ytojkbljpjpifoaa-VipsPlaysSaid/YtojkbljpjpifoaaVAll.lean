/-
  WALKS over package vips: all services, in order; whether there is one at an address. Condition: the table is one that New made, or none at all.
-/
import Derived.Test.YtojkbljpjpifoaaVTab2
import Derived.Test.YtojkbljpjpifoaaVInv
import Derived.Test.YtojkbljpjpifoaaShelfV
import Derived.Test.YtojkbljpjpifoaaSortK
import Derived.Shelf.SlSortCmp.NoneTotal
import Derived.Shelf.SlSortCmp.QuietGrown
set_option linter.unusedVariables false
set_option linter.unusedSimpArgs false
namespace Go.Proofs.Ytojkbljpjpifoaa
open Go.RowKit Go.Maps Go.Sort Go.Proofs Go.Lib Go.Shelf

instance : Inhabited PS := ⟨⟨⟨adZ, 1⟩, ⟨by intro x hx; simp [Ad.l] at hx; rcases hx with rfl; decide, by decide⟩, by decide, by decide⟩⟩
def encP (x : PS) : List Value := encS x.1
theorem encP_len (x : PS) : (encP x).length = 17 := rfl
theorem encS_one (S : Sv) : ∀ u ∈ encS S, u.oneCell' = true := by
  intro u hu
  rw [encS, List.mem_append] at hu
  rcases hu with hu | hu
  · obtain ⟨x, _, rfl⟩ := List.mem_map.1 hu; rfl
  · simp at hu; subst hu; rfl
theorem ltP (x y : PS) : ltOf cfS x y = ltS x.1 y.1 := by unfold ltOf; exact cfS_lt x y
theorem swoP : SWO (ltOf cfS) where
  irrefl x := by rw [ltP]; exact ltS_irrefl _
  trans x y z h1 h2 := by rw [ltP] at *; exact ltS_trans h1 h2
  ntrans x y z h1 h2 := by
    rw [ltP] at *
    cases e : ltS x.1 z.1 with
    | false => rfl
    | true =>
      by_cases e1 : x.1 = y.1
      · rw [e1, h2] at e; cases e
      · have h3 := (ltS_total e1).resolve_left (by rw [h1]; simp)
        have := ltS_trans h3 e
        rw [h2] at this; cases this

theorem Gro.of_grow {w w' : World} (h : Gro w w') : ∃ q os', w' = grow (w.drewN q) os' := h
set_option maxRecDepth 100000 in
set_option maxHeartbeats 2000000 in
theorem cmpS (x y : PS) (W : World) : Calls Try.prog 41 #[.agg (encP x).toArray, .agg (encP y).toArray] W fun e w' => e = .returned (.int .i64 (cfS x y)) ∧ ∃ q os', w' = grow (W.drewN q) os' := by
  obtain ⟨⟨A, p⟩, hx, hp1, hp2⟩ := x
  obtain ⟨⟨B, q⟩, hy, hq1, hq2⟩ := y
  simp only at hp1 hp2 hq1 hq2
  have hw : IntKind.i64.wrap (p - q) = p - q := by rw [IntKind.wrap_i64]; omega
  have HG : Gro W ((W.alloc (.cells (arrS ⟨A, p⟩) 72)).alloc (.cells (arrS ⟨B, q⟩) 72)) := ((Gro.refl W).alloc _).alloc _
  have HE := Lib.hid (fun W => eq_ad W hx.1 hy.1)
  have HL := Lib.hid (fun W => less_any hx.1 hy.1 W)
  show Calls Try.prog 41 #[.agg (arrS ⟨A, p⟩), .agg (arrS ⟨B, q⟩)] W fun e w' => e = .returned (.int .i64 (if A = B then p - q else if lessA A B = true then -1 else 1)) ∧ Gro W w'
  clear hp1 hp2 hq1 hq2 hx hy
  by_cases he : A = B
  · have hee := HE.out ((W.alloc (.cells (arrS ⟨A, p⟩) 72)).alloc (.cells (arrS ⟨B, q⟩) 72))
    rw [decide_eq_true he] at hee
    rw [if_pos he]
    clear he HE HL
    go_enter Try.func41, Try.ntmps41
    go_wp2_with fail
    go_ret
    exact ⟨rfl, HG⟩
  · have hee := HE.out ((W.alloc (.cells (arrS ⟨A, p⟩) 72)).alloc (.cells (arrS ⟨B, q⟩) 72))
    rw [decide_eq_false he] at hee
    rw [if_neg he]
    clear he HE
    generalize lessA A B = r at *
    cases r with
    | true =>
      go_enter Try.func41, Try.ntmps41
      go_wp2_with fail
      refine (HL.out _).mono ?_
      rintro e w1 ⟨rfl, hg1⟩
      go_wp2_with fail
      go_ret
      exact ⟨rfl, HG.trans hg1⟩
    | false =>
      go_enter Try.func41, Try.ntmps41
      go_wp2_with fail
      refine (HL.out _).mono ?_
      rintro e w1 ⟨rfl, hg1⟩
      go_wp2_with fail
      go_ret
      exact ⟨rfl, HG.trans hg1⟩
end Go.Proofs.Ytojkbljpjpifoaa
