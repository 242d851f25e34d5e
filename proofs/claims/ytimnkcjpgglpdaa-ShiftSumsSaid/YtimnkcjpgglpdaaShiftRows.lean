/-
  WALK: the rows of two tables, in package shift. Conditions: the tables read as at most 200 integers; the library's sort does what it says.
-/
import Derived.Test.YtimnkcjpgglpdaaShiftW
import Derived.Deep.DeepCutAuto
set_option linter.unusedVariables false
set_option linter.unusedSimpArgs false
namespace Go.Proofs.Ytimnkcjpgglpdaa
open Go.RowKit Go.Maps Go.Sort

theorem Chg.toGrown {w w' : World} {r : Option Nat} (h : Chg r.toList w w') : w.grownBy w' r :=
  ⟨h.os, h.tape, h.output, h.size, fun k hk hne => h.block k hk (fun hm => by simp at hm; exact hne hm.symm)⟩
theorem elR : El Try.prog 30 35 (.agg #[.int .i64 0, .int .i64 0, .int .i64 0, .int .i64 0]) 4 32 := ⟨Try.underlying30, by kernel_rfl, rfl, by omega⟩
def SlR (w : World) (B : Nat) (v : Value) (l : List R4) : Prop := Sl w B 4 v l.length (l.flatMap encR)

/-- What the library's sort of rows says. -/
def SortRows : Prop := ∀ (w : World) (base : Nat) (v : Value) (L : List R4), w.ownsRow base 35 4 v L.length (L.flatMap encR) → (∀ r ∈ L, 0 < r.node ∧ r.node < 9223372036854775808) → (L.map R4.node).Nodup → L.length ≤ 1000 →
  Calls Try.prog 49 #[v, .func (.func 50) #[] #[]] w fun e w' => e = .returned (.tuple #[]) ∧ ∃ L', L'.Perm L ∧ (L'.map R4.node).Pairwise (· < ·) ∧ SlR w' base v L' ∧ Chg v.ownBlock.toList w w'

def SmallM (N : Int) (M : Int → Option R4) : Prop := ∀ n, (0 ≤ gH M n ∧ gH M n ≤ N) ∧ (0 ≤ gS M n ∧ gS M n ≤ N) ∧ (0 ≤ gK M n ∧ gK M n ≤ N)
theorem SmallM.mk (was is_ : List Int) (k : Nat) : SmallM k (Mk was is_ k) := fun n => by
  unfold gH gS gK
  cases e : Mk was is_ k n with
  | none => simp
  | some r =>
    have := Mk_node e
    simp; omega
theorem SmallM.upd {N : Int} {M : Int → Option R4} (h : SmallM N M) (n : Int) {a b c : Int} (ha : 0 ≤ a ∧ a ≤ 1) (hb : 0 ≤ b ∧ b ≤ 1) (hc : 0 ≤ c ∧ c ≤ 1) : SmallM (N + 1) (upd M n a b c) := fun x => by
  have hx := h x
  by_cases hn : n ≤ 0
  · rw [upd_low _ hn]; omega
  · by_cases e : x = n
    · subst e
      unfold gH gS gK
      rw [upd_at _ (by omega)]
      simp only [Option.map_some, Option.getD_some]
      omega
    · unfold gH gS gK
      rw [upd_off _ e]
      have e1 : ((M x).map R4.had).getD 0 = gH M x := rfl
      have e2 : ((M x).map R4.has).getD 0 = gS M x := rfl
      have e3 : ((M x).map R4.kept).getD 0 = gK M x := rfl
      rw [e1, e2, e3]; omega
theorem SmallM.le {N N' : Int} {M : Int → Option R4} (h : SmallM N M) (hN : N ≤ N') : SmallM N' M := fun n => by have := h n; omega

theorem aAt_wf {l : List Int} (h : ∀ x ∈ l, (Lit.int .i64 x).wf = true) (i : Nat) : (Lit.int .i64 (aAt l i)).wf = true := by
  unfold aAt
  cases e : l[i]? with
  | none => decide
  | some x => exact h x (List.mem_of_getElem? e)

theorem i64_lt {a : Int} (h : (Lit.int .i64 a).wf = true) : -9223372036854775808 ≤ a ∧ a < 9223372036854775808 := by
  simp [Lit.wf, IntKind.min, IntKind.max, IntKind.signed, IntKind.bits] at h; omega
theorem Mk_wf {was is_ : List Int} (h : ∀ i, (Lit.int .i64 (aAt was i)).wf = true) (h' : ∀ i, (Lit.int .i64 (aAt is_ i)).wf = true) (k : Nat) (n : Int) (r : R4) (e : Mk was is_ k n = some r) : n < 9223372036854775808 := by
  unfold Mk at e
  split at e
  · next hc =>
    rcases hc.2 with h1 | h1
    · obtain ⟨i, _, hi⟩ := (cnt_pos k).1 h1
      simp at hi
      exact (i64_lt (hi ▸ h i)).2
    · obtain ⟨i, _, hi⟩ := (cnt_pos k).1 h1
      simp at hi
      exact (i64_lt (hi ▸ h' i)).2
  · cases e
/-- One slot, counted thrice. -/
theorem counted {w : World} {b n : Nat} {D : DataW Unit} {M : Int → Option R4} (node n0 p q r : Int) (hown : w.ownsMap Try.prog 3 rowElem b n D) (hR : Reads dR D M) (hn : n < 10000) (hw : (Lit.int .i64 node).wf = true)
    {N : Int} (hs : SmallM N M) (hN : N ≤ 1000) (hp : 0 ≤ p ∧ p ≤ 1) (hq : 0 ≤ q ∧ q ≤ 1) (hr : 0 ≤ r ∧ r ≤ 1) :
    Calls Try.prog 48 #[.map (some b), .int .i64 node, .agg #[.int .i64 n0, .int .i64 p, .int .i64 q, .int .i64 r]] w fun e w' => e = .returned (.tuple #[]) ∧
      ∃ D', w'.ownsMap Try.prog 3 rowElem b (n + 1) D' ∧ Hid (Reads dR D' (upd M node p q r)) ∧ Hid (SmallM (N + 1) (upd M node p q r)) ∧ w.grownBy w' (some b) := by
  have h := hs node
  refine (count_any node n0 p q r hown hR hn hw (by omega) (by omega) (by omega) hp hq hr).mono ?_
  rintro e w' ⟨he, ⟨D', h1, h2⟩, h3⟩
  exact ⟨he, D', h1, Lib.hid h2, Lib.hid (hs.upd node hp hq hr), h3⟩

set_option maxRecDepth 100000 in
set_option maxHeartbeats 2000000 in
theorem rows_any' (hsort : SortRows) {w : World} {B B' : Nat} {v v' : Value} {l l' : List Int} (h : SlZ w B v l) (h' : SlZ w B' v' l') (hl : l.length ≤ 200) (hl' : l'.length ≤ 200)
    (hwz : ∀ x ∈ l, (Lit.int .i64 x).wf = true) (hwz' : ∀ x ∈ l', (Lit.int .i64 x).wf = true) :
    Calls Try.prog 21 #[v, v'] w fun e w' => ∃ v2 L, e = .returned v2 ∧ IsRows (Mk l l' (max l.length l'.length)) L ∧ SlR w' w.heap.size v2 L ∧ Below w.heap.size w w' := by
  have hmm := @run_makeMap Try.prog
  have HB := Lib.hid (fun i w1 (hc : Chg [] w w1) => both_any (w := w1) i (h.chg0 hc) (h'.chg0 hc) (by omega) (by omega))
  have HWA := Lib.hid (aAt_wf hwz)
  have HWB := Lib.hid (aAt_wf hwz')
  have HSt := Lib.hid (Mk_step l l')
  obtain ⟨A1, c1, rfl⟩ := Sl.form h
  obtain ⟨A2, c2, rfl⟩ := Sl.form h'
  have HM0 := Lib.hid (Mk_zero l l')
  have HSm := Lib.hid (SmallM.mk l l')
  have HNd := Lib.hid (fun k n r => @Mk_node l l' k n r)
  have HWf := Lib.hid (Mk_wf HWA.out HWB.out)
  obtain ⟨K, hK⟩ : ∃ K, K = max l.length l'.length := ⟨_, rfl⟩
  have HKR := Lib.hid hK
  have hK2 : K ≤ 200 := by omega
  clear h h' hwz hwz'
  generalize l.length = n at *
  generalize l'.length = m at *
  have HSort := Lib.hid hsort
  clear hsort
  have hKI : max (n : Int) (m : Int) = (K : Int) := by omega
  clear hK
  go_enter Try.func21, Try.ntmps21
  go_wp2_with fail
  go_loopw [18] (fun i wr => ∃ (k : Nat) (D : DataW Unit), k ≤ K ∧ i = .int .i64 k ∧ wr.ownsMap Try.prog 3 rowElem w.heap.size (3 * k) D ∧ Hid (Reads dR D (Mk l l' k)) ∧ RowKit.Below w.heap.size w wr)
    (fun i _ => K - (intOf i).toNat)
  case atStart => exact ⟨0, _, Nat.zero_le _, rfl, World.ownsMap_made _ _ _ _, Lib.hid (by rw [HM0.out]; exact Reads.nil), (RowKit.Below.refl _ _).alloc (Nat.le_refl _) _⟩
  case round =>
    obtain ⟨k, D, hk, rfl, hown, HR, hnx⟩ := hrel
    have hcw : Chg [] w wr := Chg.of_below hnx
    by_cases hlt : k < K
    · have F1 := Lib.hid (HB.out k wr hcw)
      have HT := Lib.hid (HSt.out k)
      have hwa := HWA.out k
      have hwb := HWB.out k
      have HS0 := Lib.hid (HSm.out k)
      generalize aAt l k = a at *
      generalize aAt l' k = b at *
      have C1 := Lib.hid (counted a 0 1 0 0 hown HR.out (by omega) hwa HS0.out (by omega) (by omega) (by omega) (by omega))
      clear HB HWA HWB HSt HM0 HSm HNd HSort HKR HWf hcw
      go_wp2_with fail
      refine F1.out.mono ?_
      rintro e w1 ⟨rfl, rfl⟩
      clear F1
      go_wp2_with fail
      refine C1.out.mono ?_
      rintro e w1 ⟨rfl, D1, hown1, HR1, HS1, hg1⟩
      clear C1
      have C2 := Lib.hid (counted b 0 0 1 0 hown1 HR1.out (by omega) hwb HS1.out (by omega) (by omega) (by omega) (by omega))
      go_wp2_with fail
      refine C2.out.mono ?_
      rintro e w2 ⟨rfl, D2, hown2, HR2, HS2, hg2⟩
      clear C2
      have hnx2 : Hid (RowKit.Below w.heap.size w w2) := Lib.hid ((hnx.grown hg1 hnx.size (fun j hj => by cases hj; exact Nat.le_refl _)).grown hg2 (by have := hnx.size; have := hg1.size; omega) (fun j hj => by cases hj; exact Nat.le_refl _))
      by_cases hab : a = b
      · have hab' : (a == b) = true := by simp [hab]
        have C3 := Lib.hid (counted a 0 0 0 1 hown2 HR2.out (by omega) hwa HS2.out (by omega) (by omega) (by omega) (by omega))
        rw [if_pos hab] at HT
        clear hab
        go_wp2_with fail
        refine C3.out.mono ?_
        rintro e w3 ⟨rfl, D3, hown3, HR3, HS3, hg3⟩
        clear C3
        go_wp2_with fail
        go_roundw
        case rel => exact ⟨k + 1, D3, by omega, by go_num, hown3.mono (by omega), Lib.hid (by rw [← HT.out]; exact HR3.out), hnx2.out.grown hg3 hnx2.out.size (fun j hj => by cases hj; exact Nat.le_refl _)⟩
        case measure => simp [intOf]; omega
      · have hab' : (a == b) = false := by simp [hab]
        rw [if_neg hab] at HT
        clear hab
        go_wp2_with fail
        go_roundw
        case rel => exact ⟨k + 1, D2, by omega, by go_num, hown2.mono (by omega), Lib.hid (by rw [← HT.out]; exact HR2.out), hnx2.out⟩
        case measure => simp [intOf]; omega
    · obtain rfl : k = K := by omega
      clear HB HWA HWB HSt HM0 HSm hcw
      have hbl := hown.lt
      have hsz : Maps.size D ≤ 3 * k := hown.size_le
      go_wp2_with (first
        | (at_range; refine wpList_range_own _ rfl _ 81 rfl 3 35 lawZ Try.underlying81 _ w.heap.size (3 * k) _ rfl hown ?_; intro w0 hrg0 hg0 hs0)
        | go_in)
      go_frame
      have hr0 : w.heap.size < wr.heap.size := hbl
      generalize hre : wr.heap.size = r at *
      go_loopw [9] (fun v' wr' => ∃ (left : Lit → Bool) (cnt : Nat) (ss : List R4), wr'.ranges Try.prog 3 rowElem w.heap.size r (3 * k) D left cnt ∧ ss.length + cnt ≤ Maps.size D ∧
          wr'.ownsRow (w.heap.size + 1) 35 4 v' ss.length (ss.flatMap encR) ∧ Hid (Came (Mk l l' k) left R4.node ss) ∧ RowKit.Below w.heap.size w wr')
        (fun _ wr' => wr'.rangeLeft w.heap.size r)
      case atStart =>
        exact ⟨_, _, [], hrg0, by simp, World.ownsRow_nil .., Lib.hid (Came.start HR.out _), hnx.grown hg0 hnx.size (fun j hj => by cases hj)⟩
      case round =>
        obtain ⟨left, cnt, ss, hrg, hcs, hrow, hM, hnx'⟩ := hrel
        have hw := hnx'.size
        go_wp2_with (first
          | (at_next; refine wpList_next_ranges _ rfl _ rfl 3 lawZ rowElem (Value.int .i64) evR (fun key kl hk => by obtain ⟨x, hx, _⟩ := Maps.keyOf_int_inv Try.underlying3 hk; exact ⟨x, hx⟩) (fun v y hv => by obtain ⟨c, rfl, _⟩ := rowElem_inv hv; exact ⟨c, rfl⟩) w.heap.size r (3 * k) _ _ _ rfl hrg ?_ ?_)
          | go_in)
        · intro hc0 hl0
          have hin : Hid (∀ r, r ∈ ss ↔ Mk l l' k r.node = some r) := Lib.hid (hM.out.done hl0)
          have hpos : ∀ r ∈ ss, 0 < r.node ∧ r.node < 9223372036854775808 := fun r hr => by
            have h1 := (hin.out r).1 hr
            have h2 := (HNd.out k _ _ h1).2.1
            exact ⟨h2, HWf.out k _ _ h1⟩
          have FS := Lib.hid (HSort.out _ _ _ ss hrow hpos hM.out.1 (by omega))
          have hbk := fun j hj => hrow.lt j hj
          clear HSort hpos HNd HWf hl0
          go_wp2_with fail
          refine FS.out.mono ?_
          rintro e w5 ⟨rfl, L, hLp, hLs, hS, hc5⟩
          clear FS
          go_wp2_with fail
          go_ret
          exact ⟨_, L, rfl, ⟨hLs, fun r => by rw [hLp.mem_iff, ← HKR.out]; exact hin.out r⟩, Sl.less hS (by omega), hnx'.grown hc5.toGrown hnx'.size (fun j hj => by have := (hbk j hj).1; omega)⟩
        · intro x c kl yd yp w2 cnt2 hkey hlk hv hat hrg2 hlt hg2 hs2 hen
          obtain ⟨x', ex, rfl, hwx⟩ := Maps.keyOf_int_inv Try.underlying3 hkey
          cases ex
          have hc1 : rowElem (evR c) = some (dR c, []) := rowElem_mk c
          have hv' := hc1.symm.trans hv
          injection hv' with hv'
          injection hv' with hyd hyp
          have hmx : Mk l l' k x = some c := by
            cases e : Mk l l' k x with
            | none =>
              have h1 := (HR.out.2 x).2 e
              rw [Maps.has_true_of_atKey hat] at h1; cases h1
            | some r' =>
              have h1 := HR.out.at_some e (dR c)
              have h2 : D.atKey (.int .i64 x) (dR c) = yd := hat _
              rw [h2, ← hyd] at h1
              rw [dR_inj h1]
          have hcn : c.node = x := (HNd.out k _ _ hmx).1
          subst hcn
          have HC := Lib.hid (hM.out.step hmx hlk)
          have hrow2 := hrow.kept hg2 (Or.inr (row_ne_iter hrow hrg).symm)
          clear hs2 hv hat hyd hyp hc1 hmx hkey hwx HNd HWf HSort HKR
          simp only [evR] at hen
          obtain ⟨n0, nh, nsv, nk⟩ := c
          simp only at hen
          have hsq := hg2.size
          have hrow4 := (hrow2.alloc (.cells #[.int .i64 n0, .int .i64 nh, .int .i64 nsv, .int .i64 nk] 35)).alloc (.cells #[.int .i64 n0, .int .i64 nh, .int .i64 nsv, .int .i64 nk] 35)
          have hrg4 := (hrg2.alloc (.cells #[.int .i64 n0, .int .i64 nh, .int .i64 nsv, .int .i64 nk] 35)).alloc (.cells #[.int .i64 n0, .int .i64 nh, .int .i64 nsv, .int .i64 nk] 35)
          have hcat : Sl ((w2.alloc (.cells #[.int .i64 n0, .int .i64 nh, .int .i64 nsv, .int .i64 nk] 35)).alloc (.cells #[.int .i64 n0, .int .i64 nh, .int .i64 nsv, .int .i64 nk] 35)) 0 4 (.slice (some ⟨w2.heap.size + 1, 0, none⟩) 1 1) 1 (encR ⟨n0, nh, nsv, nk⟩) := by
            have := Sl.of_own (own_lit (base := 0) (w2.alloc (.cells #[.int .i64 n0, .int .i64 nh, .int .i64 nsv, .int .i64 nk] 35)) 35 4 1 #[.int .i64 n0, .int .i64 nh, .int .i64 nsv, .int .i64 nk] (Nat.zero_le _) (by simp [maxLen]) rfl)
            rw [World.size_alloc] at this
            exact this
          go_wp2_with (first
            | (at_builtin; refine wpList_app elR rfl (.tmp 50) (.tmp 52) rfl (w.heap.size + 1) rfl hrow4 rfl hcat (encR_one ⟨n0, nh, nsv, nk⟩) (by unfold maxLen at *; omega) (by omega) (by simp; omega) ?_; intro v3 w3 hown' hc3 hb3; go_frame)
            | go_in)
          have hg3 := hc3.toGrown
          have hrg3 := hrg4.kept hg3 (row_ne_low hrow2 (by omega)) (row_ne_iter hrow2 hrg2)
          go_roundw
          case rel =>
            refine ⟨_, cnt2, ss ++ [⟨n0, nh, nsv, nk⟩], hrg3, by simp; omega, by simpa using hown', HC, ?_⟩
            exact (((hnx'.grown hg2 hnx'.size (fun j hj => by cases hj; omega)).alloc (by omega) _).alloc (by simp; omega) _).grown hg3 (by simp; omega) (fun j hj => by have := (hrow2.lt j hj).1; omega)
          case measure => rw [hrg3.left_eq, hrg.left_eq]; exact hlt
end Go.Proofs.Ytimnkcjpgglpdaa
