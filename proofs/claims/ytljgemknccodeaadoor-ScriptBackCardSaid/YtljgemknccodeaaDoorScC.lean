/-
  CONTRACT: the program's numbers of words. Condition: Gl, lengths.
-/
import Derived.Test.YtljgemknccodeaaDoorScB
set_option linter.unusedVariables false
set_option linter.unusedSimpArgs false
namespace Go.Proofs.YtljgemknccodeaaDoor
open Go.RowKit

def numsP : List Bs → Option (List Int)
  | [] => some []
  | p :: r => match numP p with
    | none => none
    | some v => (numsP r).map (v :: ·)
theorem numsP_snoc {p : Bs} {v : Int} (h : numP p = some v) : ∀ {A : List Bs} {xs : List Int}, numsP A = some xs → numsP (A ++ [p]) = some (xs ++ [v])
  | [], xs, e => by simp [numsP] at e; subst e; simp [numsP, h]
  | q :: A, xs, e => by
    simp only [numsP, List.cons_append] at e ⊢
    cases hq : numP q with
    | none => rw [hq] at e; cases e
    | some x =>
      rw [hq] at e
      simp only at e ⊢
      cases hA : numsP A with
      | none => rw [hA] at e; cases e
      | some ys =>
        rw [hA] at e
        rw [numsP_snoc h hA]
        simp at e ⊢
        subst e
        rfl
theorem numsP_bad {p : Bs} (h : numP p = none) : ∀ {L : List Bs}, p ∈ L → numsP L = none
  | q :: L, hm => by
    simp only [numsP]
    rcases List.mem_cons.1 hm with rfl | hm
    · rw [h]
    · rw [numsP_bad h hm]
      cases numP q <;> rfl
def padI (xs : List Int) : Array Value := #[.int .i64 (xs.getD 0 0), .int .i64 (xs.getD 1 0), .int .i64 (xs.getD 2 0)]
theorem padI_at {xs : List Int} {k : Nat} (hk : k < 3) : (padI xs)[k]? = some (.int .i64 (xs.getD k 0)) := by
  match k, hk with
  | 0, _ => rfl
  | 1, _ => rfl
  | 2, _ => rfl
theorem padI_set {xs : List Int} {v : Int} (hk : xs.length < 3) : (padI xs).setIfInBounds xs.length (.int .i64 v) = padI (xs ++ [v]) := by
  match xs, hk with
  | [], _ => rfl
  | [a], _ => rfl
  | [a, b], _ => rfl
def NumsR (L : List Bs) (w w' : World) (e : Ending) : Prop := ∃ xs ok, e = .returned (.tuple #[.agg (padI xs), .bool ok]) ∧ numsP L = (if ok then some xs else none) ∧ Chg [] w w'
set_option maxRecDepth 100000 in
set_option maxHeartbeats 4000000 in
theorem numbers_any {w : World} {B : Nat} {v : Value} {L : List Bs} (h : SlS w B v L) (hL : L.length ≤ 3) (hg : Gl w) (hb : ∀ p ∈ L, p.length ≤ 1000000) :
    Calls Tryd.prog 25 #[v] w fun e w' => NumsR L w w' e := by
  obtain ⟨A, c, rfl⟩ := Sl.form h
  have HS := Lib.hid (fun W (hW : Chg [] w W) i p hp => SlS.at_ (h.chg0 hW) (k := i) (p := p) hp)
  have HX : Hid (∀ i, i < L.length → ∃ x, L[i]? = some x ∧ x.length ≤ 1000000) := Lib.hid fun i hi => ⟨_, List.getElem?_eq_getElem hi, hb _ (List.getElem_mem hi)⟩
  have HG := Lib.hid hg
  have h0 := ((Chg.refl [] w).alloc (.cells (padI []) 57)).alloc (.cells (padI []) 57)
  have b2 : Blk ((w.alloc (.cells (padI []) 57)).alloc (.cells (padI []) 57)) w.heap.size 57 (padI []) := (Blk.new _ _ _).alloc _
  have b4 : Blk ((w.alloc (.cells (padI []) 57)).alloc (.cells (padI []) 57)) (w.heap.size + 1) 57 (padI []) := Blk.new' (by simp)
  have HI := Lib.hid (And.intro h0 (And.intro b2 b4))
  clear hg h hb h0 b2 b4
  generalize hn : L.length = n at *
  have HLN := Lib.hid hn
  clear hn
  go_enter Tryd.func25, Tryd.ntmps25
  go_wp2_with fail
  go_loopw [11] (fun iv wr => ∃ (k : Nat) (xs : List Int), k ≤ n ∧ iv = .int .i64 k ∧ Hid (numsP (L.take k) = some xs ∧ xs.length = k) ∧ Hid (Chg [] w wr) ∧ Hid (Blk wr w.heap.size 57 (padI []) ∧ Blk wr (w.heap.size + 1) 57 (padI xs))) (fun iv _ => n - (intOf iv).toNat)
  case atStart => exact ⟨0, [], by omega, rfl, Lib.hid ⟨by simp [numsP], rfl⟩, Lib.hid HI.out.1, Lib.hid HI.out.2⟩
  case round =>
    obtain ⟨k, xs, hk, rfl, HN, HC, HB⟩ := hrel
    by_cases hlt : k < n
    · have hcn : (k : Int) < (n : Int) := by omega
      obtain ⟨p, hp, hpl⟩ := HX.out k hlt
      obtain ⟨b, o, c', hv, hcap, c0⟩ := HS.out wr HC.out k p hp
      simp only [Value.slice.injEq] at hv
      obtain ⟨rfl, hnn, rfl⟩ := hv
      have FA := Lib.hid (atoi_lib p hpl (HG.out.chg HC.out))
      have HP := Lib.hid hp
      clear hp hnn HS HX
      go_wp2_with fail
      refine FA.out.mono ?_
      rintro e w1 ⟨v, ev, rfl, hcase, hc1⟩
      have HC1 := Lib.hid (HC.out.trans hc1)
      have HB1 := Lib.hid (And.intro (HB.out.1.chg hc1 (by simp)) (HB.out.2.chg hc1 (by simp)))
      clear c0 hc1 FA
      rcases hcase with ⟨rfl, hok⟩ | ⟨q, rfl, hnone⟩
      · have hv64 : I64s v := Lib.atoiAll_bounds hok
        have FI := Lib.hid (itoa_lib v hv64 (HG.out.chg HC1.out))
        go_wp2_with fail
        refine FI.out.mono ?_
        rintro e w2 ⟨rfl, hc2⟩
        have HC2 := Lib.hid (HC1.out.trans hc2)
        have HB2 := Lib.hid (And.intro (HB1.out.1.chg hc2 (by simp)) (HB1.out.2.chg hc2 (by simp)))
        clear hc2 FI HB HB1
        by_cases hE : Lib.itoa v = p
        · have heq : ((bsA (Lib.itoa v)).toList == (bsA p).toList) = true := by rw [eqS]; exact decide_eq_true hE
          have HNV := Lib.hid (numsP_snoc (show numP p = some v by unfold numP; rw [hok]; simp only; rw [if_pos hE]) HN.out.1)
          have hxk : xs.length = k := HN.out.2
          have hk3 : k < 3 := by omega
          have c4 : w2.cell? ⟨w.heap.size + 1, k, none⟩ = some (.int .i64 (xs.getD k 0)) := by rw [HB2.out.2.cell, padI_at hk3]
          have f4 := HB2.out.2.frozen k
          have hB' : Blk (w2.setCell ⟨w.heap.size + 1, k, none⟩ (.int .i64 v)) (w.heap.size + 1) 57 (padI (xs ++ [v])) := by
            have := HB2.out.2.set_ k (.int .i64 v)
            have e9 := padI_set (xs := xs) (v := v) (by omega)
            rw [hxk] at e9
            rwa [e9] at this
          have HB3 := Lib.hid (And.intro (HB2.out.1.far (p := ⟨w.heap.size + 1, k, none⟩) (by show w.heap.size ≠ w.heap.size + 1; omega) (.int .i64 v)) hB')
          have HC3 := Lib.hid (HC2.out.setCell (p := ⟨w.heap.size + 1, k, none⟩) (.inr (by show w.heap.size ≤ w.heap.size + 1; omega)) (.int .i64 v))
          have HN3 : Hid (numsP (L.take (k + 1)) = some (xs ++ [v]) ∧ (xs ++ [v]).length = k + 1) := Lib.hid ⟨by rw [List.take_add_one, HP.out]; exact HNV.out, by simp [hxk]⟩
          clear hB' HB2 HC2 HNV HN hE hok HP hxk
          go_wp2_with fail
          go_roundw
          case rel => exact ⟨k + 1, xs ++ [v], by omega, by go_num, HN3, HC3, HB3⟩
          case measure => simp [intOf] <;> omega
        · have heq : ((bsA (Lib.itoa v)).toList == (bsA p).toList) = false := by rw [eqS]; exact decide_eq_false hE
          have HNN := Lib.hid (numsP_bad (by unfold numP; rw [hok]; simp only; rw [if_neg hE]) (L := L) (List.mem_of_getElem? HP.out))
          have hB := HB2.out.1
          have hB4 := HB2.out.2
          go_wp2_with (first
            | (refine wpList_load_blk rfl 57 (.tmp 4) rfl hB4 rfl _ Tryd.underlying57 rfl (by kernel_rfl) ?_)
            | (refine wpList_store_blk rfl 57 _ _ rfl rfl hB rfl rfl rfl (by kernel_rfl) rfl ?_; intro w5 hB5 hc5)
            | fail)
          refine bodyPost_ret (results_blk2 rfl rfl hB5 _ Tryd.underlying57 rfl (by kernel_rfl)) rfl ?_
          exact ⟨xs, false, rfl, HNN.out, HC2.out.trans' hc5 (by intro x hx; simp at hx; subst hx; exact .inr (Nat.le_refl _))⟩
      · have HNN := Lib.hid (numsP_bad hnone (L := L) (List.mem_of_getElem? HP.out))
        have hB := HB1.out.1
        have hB4 := HB1.out.2
        go_wp2_with (first
          | (refine wpList_load_blk rfl 57 (.tmp 4) rfl hB4 rfl _ Tryd.underlying57 rfl (by kernel_rfl) ?_)
          | (refine wpList_store_blk rfl 57 _ _ rfl rfl hB rfl rfl rfl (by kernel_rfl) rfl ?_; intro w5 hB5 hc5)
          | fail)
        refine bodyPost_ret (results_blk2 rfl rfl hB5 _ Tryd.underlying57 rfl (by kernel_rfl)) rfl ?_
        exact ⟨xs, false, rfl, HNN.out, HC1.out.trans' hc5 (by intro x hx; simp at hx; subst hx; exact .inr (Nat.le_refl _))⟩
    · obtain rfl : k = n := by omega
      have HNN : Hid (numsP L = some xs) := Lib.hid (by have := HN.out.1; rwa [List.take_of_length_le (by rw [HLN.out]; exact Nat.le_refl _)] at this)
      have hB := HB.out.1
      have hB4 := HB.out.2
      go_wp2_with (first
        | (refine wpList_load_blk rfl 57 (.tmp 4) rfl hB4 rfl _ Tryd.underlying57 rfl (by kernel_rfl) ?_)
        | (refine wpList_store_blk rfl 57 _ _ rfl rfl hB rfl rfl rfl (by kernel_rfl) rfl ?_; intro w5 hB5 hc5)
        | fail)
      refine bodyPost_ret (results_blk2 rfl rfl hB5 _ Tryd.underlying57 rfl (by kernel_rfl)) rfl ?_
      exact ⟨xs, true, rfl, HNN.out, HC.out.trans' hc5 (by intro x hx; simp at hx; subst hx; exact .inr (Nat.le_refl _))⟩
end Go.Proofs.YtljgemknccodeaaDoor
