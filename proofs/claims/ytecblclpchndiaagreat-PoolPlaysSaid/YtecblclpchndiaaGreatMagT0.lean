/-
  WALKS: all weights together, by the document's answer; whether a table is full. Conditions: at most 1000 members, 1000 slots.
-/
import Derived.Test.YtecblclpchndiaaGreatMagN
import Derived.Test.YtecblclpchndiaaGreatMagS
set_option linter.unusedVariables false
set_option linter.unusedSimpArgs false
namespace Go.Proofs.YtecblclpchndiaaGreat
open Go.RowKit Go.Maps

def sumW (l : List Mb) : Int := (l.map (·.w)).sum
def totalM (l : List Mb) : Int := if rightM l = 0 then sumW l else 0
theorem sumW_snoc (l : List Mb) (x : Mb) : sumW (l ++ [x]) = sumW l + x.w := by simp [sumW]
theorem sumW_le : ∀ {l : List Mb}, (∀ x ∈ l, 0 ≤ x.w ∧ x.w ≤ 4) → 0 ≤ sumW l ∧ sumW l ≤ 4 * l.length
  | [], _ => by simp [sumW]
  | x :: l, h => by
    have h1 := sumW_le (l := l) fun y hy => h y (List.mem_cons_of_mem _ hy)
    have h2 := h x (List.mem_cons_self ..)
    unfold sumW at *
    rw [List.map_cons, List.sum_cons, List.length_cons]
    omega

set_option maxRecDepth 100000 in
set_option maxHeartbeats 1000000 in
theorem total17_any {w : World} {B : Nat} {v : Value} {l : List Mb} (h : SlM w B v l) (hl : l.length ≤ 1000) :
    Calls Tryz.prog 30 #[v] w fun e w' => e = .returned (.int .i64 (totalM l)) ∧ Chg [] w w' := by
  have HF := Lib.hid (fun W (hW : Chg [] w W) => right17_any (h.chg0 hW) hl)
  obtain ⟨A, c, rfl⟩ := Sl.form h
  have HS := Lib.hid (fun W (hW : Chg [] w W) i x hx => (h.chg0 hW).at_ (i := i) (x := x) hx)
  have HT : Hid (totalM l = if rightM l = 0 then sumW l else 0) := Lib.hid rfl
  clear h
  by_cases hr : rightM l = 0
  · have hok := OkM.of hr
    have HX : Hid (∀ i, i < l.length → ∃ x, l[i]? = some x) := Lib.hid fun i hi => ⟨_, List.getElem?_eq_getElem hi⟩
    have HB : Hid (∀ k, 0 ≤ sumW (l.take k) ∧ sumW (l.take k) ≤ 64) := Lib.hid fun k => by
      have h1 := sumW_le (l := l.take k) fun x hx => by have := hok.ok x (List.mem_of_mem_take hx); omega
      have h2 := hok.len
      rw [List.length_take] at h1
      omega
    have HN : Hid (sumW (l.take l.length) = totalM l) := Lib.hid (by rw [List.take_length, HT.out, if_pos hr])
    clear HT hok
    rw [hr] at HF
    clear hr
    generalize hn : l.length = n at *
    go_enter Tryz.func30, Tryz.ntmps30
    go_wp2_with fail
    go_loopw [3, 4] (fun u iv wr => ∃ k : Nat, k ≤ n ∧ iv = .int .i64 k ∧ u = .int .i64 (sumW (l.take k)) ∧ Hid (Chg [] w wr)) (fun _ iv _ => n - (intOf iv).toNat)
    case atStart => exact ⟨0, by omega, rfl, by simp [sumW], Lib.hid (Chg.refl _ _)⟩
    case round =>
      obtain ⟨k, hk, rfl, rfl, HC⟩ := hrel
      by_cases hlt : k < n
      · have hcn : (k : Int) < (n : Int) := by omega
        obtain ⟨x, hx⟩ := HX.out k hlt
        obtain ⟨b, o, c', hv, hcap, _, _⟩ := HS.out wr HC.out k x hx
        simp only [Value.slice.injEq, true_and] at hv
        obtain ⟨rfl, rfl⟩ := hv
        have F1 := Lib.hid (HF.out wr HC.out)
        have HS1 : Hid (sumW (l.take (k + 1)) = sumW (l.take k) + x.w) := Lib.hid (by rw [List.take_add_one, hx]; exact sumW_snoc _ _)
        have b1 := HB.out k
        have b2 := HB.out (k + 1)
        rw [HS1.out] at b2
        generalize sumW (l.take k) = s at *
        have hw : IntKind.i64.wrap (s + x.w) = s + x.w := by rw [IntKind.wrap_i64]; omega
        have HXX := Lib.hid (fun W hW => HS.out W hW k x hx)
        clear hx HX HS HB
        go_wp2_with fail
        refine F1.out.mono ?_
        rintro e w2 ⟨rfl, hc2⟩
        have HC2 := Lib.hid (HC.out.trans hc2)
        obtain ⟨b1, o1, c1, hv, _, _, c1'⟩ := HXX.out w2 HC2.out
        simp only [Value.slice.injEq, true_and, Option.some.injEq, Addr.mk.injEq, and_true] at hv
        obtain ⟨⟨rfl, rfl⟩, rfl⟩ := hv
        obtain ⟨nd, wt⟩ := x
        simp only at c1' hw HS1 b2
        clear F1 HXX HC hc2
        go_wp2_with fail
        go_roundw
        case rel => exact ⟨k + 1, by omega, by go_num, by rw [HS1.out], HC2⟩
        case measure => simp [intOf] <;> omega
      · obtain rfl : k = n := by omega
        have hcn : ¬ (k : Int) < (k : Int) := by omega
        rw [HN.out]
        clear HF HS HX HB HN
        go_wp2_with fail
        go_ret
        exact ⟨rfl, HC.out⟩
  · have HN : Hid (totalM l = 0) := Lib.hid (by rw [HT.out, if_neg hr])
    generalize rightM l = r at *
    have hb : (r == 0) = false := by simp [hr]
    clear HT HS
    generalize l.length = n at *
    have F1 := Lib.hid (HF.out w (Chg.refl _ _))
    clear HF
    go_enter Tryz.func30, Tryz.ntmps30
    go_wp2_with fail
    go_loopw [3, 4] (fun u iv wr => u = .int .i64 0 ∧ iv = .int .i64 0 ∧ wr = w) (fun _ iv _ => 0)
    case atStart => exact ⟨rfl, rfl, rfl⟩
    case round =>
      obtain ⟨rfl, rfl, rfl⟩ := hrel
      by_cases hn0 : 0 < n
      · have hcn : (0 : Int) < (n : Int) := by omega
        go_wp2_with fail
        refine F1.out.mono ?_
        rintro e w1 ⟨rfl, hc1⟩
        go_wp2_with fail
        go_ret
        rw [HN.out]
        exact ⟨rfl, hc1⟩
      · have hcn : ¬ (0 : Int) < (n : Int) := by omega
        go_wp2_with fail
        go_ret
        rw [HN.out]
        exact ⟨rfl, Chg.refl _ _⟩

set_option maxRecDepth 100000 in
set_option maxHeartbeats 1000000 in
theorem full17_any {w : World} {B : Nat} {v : Value} {l : List Int} (h : SlZ w B v l) (hl : l.length ≤ 1000) :
    Calls Tryz.prog 32 #[v] w fun e w' => e = .returned (.bool (fullS l)) ∧ w = w' := by
  obtain ⟨A, c, rfl⟩ := Sl.form h
  have HS := Lib.hid (fun i (hi : i < l.length) => Sl.at_ h hi (by omega))
  have HX : Hid (∀ i, i < l.length → ∃ y, l[i]? = some y ∧ (y = 0 → fullS l = false)) := Lib.hid fun i hi => by
    refine ⟨_, List.getElem?_eq_getElem hi, fun h => ?_⟩
    unfold fullS
    rw [List.all_eq_false]
    exact ⟨_, List.getElem_mem hi, by simp [h]⟩
  have HA : Hid ((∀ i, i < l.length → ∃ y, l[i]? = some y ∧ y ≠ 0) → fullS l = true) := Lib.hid fun h => by
    unfold fullS
    rw [List.all_eq_true]
    intro y hy
    obtain ⟨i, hi⟩ := List.getElem?_of_mem hy
    obtain ⟨z, hz, hz0⟩ := h i (List.getElem?_eq_some_iff.1 hi).1
    rw [hi] at hz
    cases hz
    simpa using hz0
  clear h
  generalize hn : l.length = n at *
  go_enter Tryz.func32, Tryz.ntmps32
  go_wp2_with fail
  go_loopw [3] (fun iv wr => ∃ k : Nat, k ≤ n ∧ iv = .int .i64 k ∧ Hid (∀ i, i < k → ∃ y, l[i]? = some y ∧ y ≠ 0) ∧ wr = w) (fun iv _ => n - (intOf iv).toNat)
  case atStart => exact ⟨0, by omega, rfl, Lib.hid (fun i h => by omega), rfl⟩
  case round =>
    obtain ⟨k, hk, rfl, HP, rfl⟩ := hrel
    by_cases hlt : k < n
    · have hcn : (k : Int) < (n : Int) := by omega
      obtain ⟨y, hy, hst⟩ := HX.out k hlt
      obtain ⟨b, o, c', hv, _, _, hc⟩ := HS.out k hlt
      simp only [Value.slice.injEq, true_and] at hv
      obtain ⟨rfl, rfl⟩ := hv
      have c0 := hc 0 (by omega)
      simp only [Nat.mul_one, Nat.add_zero, List.getElem?_map, hy, Option.map_some] at c0
      have HY := Lib.hid hy
      have HST := Lib.hid hst
      clear hc hy HX HS hst
      by_cases he : y = 0
      · have HQ := Lib.hid (HST.out he)
        subst he
        go_wp2_with fail
        go_ret
        rw [HQ.out]
        exact ⟨rfl, rfl⟩
      · have HP2 : Hid (∀ i, i < k + 1 → ∃ y, l[i]? = some y ∧ y ≠ 0) := Lib.hid fun i hi => by
          by_cases e : i = k
          · subst e; exact ⟨y, HY.out, he⟩
          · exact HP.out i (by omega)
        have hb' : (y == 0) = false := by simp [he]
        clear HA
        go_wp2_with fail
        go_roundw
        case rel => exact ⟨k + 1, by omega, by go_num, HP2, trivial⟩
        case measure => simp [intOf] <;> omega
    · obtain rfl : k = n := by omega
      have hcn : ¬ (k : Int) < (k : Int) := by omega
      have HQ := Lib.hid (HA.out HP.out)
      clear HX HS HA
      go_wp2_with fail
      go_ret
      rw [HQ.out]
      exact ⟨rfl, rfl⟩
end Go.Proofs.YtecblclpchndiaaGreat
