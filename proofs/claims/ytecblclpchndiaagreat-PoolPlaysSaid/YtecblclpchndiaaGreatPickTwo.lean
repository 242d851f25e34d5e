/-
  WALKS: the two backends of a hash, in package pick and by the document's answer. Condition: the table reads as at most 300 integers.
-/
import Derived.Test.YtecblclpchndiaaGreatPickFirst
set_option linter.unusedVariables false
set_option linter.unusedSimpArgs false
namespace Go.Proofs.YtecblclpchndiaaGreat
open Go.RowKit Go.Shelf

theorem firstF_nil (at_ : Nat) (o : Int) : firstF [] at_ o = 0 := rfl

set_option maxRecDepth 100000 in
set_option maxHeartbeats 400000 in
theorem first_none (A : Option Addr) (cap u : Nat) (o : Int) (w : World) :
    Calls Tryz.prog 73 #[.slice A 0 cap, .int .u64 u, .int .i64 o] w fun e w' => e = .returned (.int .i64 0) ∧ Below w.heap.size w w' := by
  refine (callsIn_wide (n := 5)).1 ?_
  refine callsIn_of_wp_marks Tryz.func73 rfl trivial ?_ rfl
  simp only [Tryz.ntmps73, List.size_toArray, List.length_cons, List.length_nil, Nat.reduceAdd, Nat.reduceSub, Array.replicate_succ, Array.replicate_zero, List.push_toArray, List.append_toArray, List.nil_append, List.cons_append]
  gi_wp2
  refine ⟨.int .i64 0, ?_, rfl, (((Below.refl _ w).alloc (Nat.le_refl _) _).alloc (by simp) _)⟩
  simp [results, Tryz.f73, go_sem]

theorem first_any {w : World} {B : Nat} {v : Value} {l : List Int} (u : Nat) (o : Int) (h : SlZ w B v l) (hl : l.length ≤ 300) (hu : u < 18446744073709551616) :
    Calls Tryz.prog 73 #[v, .int .u64 u, .int .i64 o] w fun e w' => e = .returned (.int .i64 (firstF l (u % l.length) o)) ∧ Chg [] w w' := by
  rcases Nat.eq_zero_or_pos l.length with h0 | h0
  · obtain ⟨_, A, c, rfl, _⟩ := h
    obtain rfl : l = [] := List.eq_nil_of_length_eq_zero h0
    exact (first_none A c u o w).mono fun e w' ⟨he, hb⟩ => ⟨he, Chg.of_below hb⟩
  · obtain ⟨b, off, c, rfl, _, hb, _, hc⟩ := h.all h0
    exact (first_cells b off c u o l w h0 hl hu hb hc).mono fun e w' ⟨he, hb⟩ => ⟨he, Chg.of_below hb⟩

def twoA (l : List Int) (u : Nat) : Int := firstF l (u % l.length) 0
def twoB (l : List Int) (u : Nat) : Int := if twoA l u = 0 then 0 else firstF l (u / 4294967296 % l.length) (twoA l u)

set_option maxRecDepth 100000 in
set_option maxHeartbeats 400000 in
theorem two_any {w : World} {B : Nat} {v : Value} {l : List Int} (u : Nat) (h : SlZ w B v l) (hl : l.length ≤ 300) (hu : u < 18446744073709551616) :
    Calls Tryz.prog 57 #[v, .int .u64 u] w fun e w' => e = .returned (.tuple #[.int .i64 (twoA l u), .int .i64 (twoB l u)]) ∧ Chg [] w w' := by
  have F1 := Lib.hid (first_any u 0 h hl hu)
  have hA : firstF l (u % l.length) 0 = twoA l u := rfl
  have hB : twoB l u = if twoA l u = 0 then 0 else firstF l (u / 4294967296 % l.length) (twoA l u) := rfl
  rw [hA] at F1
  generalize twoA l u = a at *
  generalize hbe : twoB l u = b' at *
  clear hA hbe
  have hsr : Op.shift .shr .u64 (u : Int) .u64 32 = pure (.int .u64 ((u / 4294967296 : Nat) : Int)) := by
    rw [shift_shr .u64 .u64 _ _ (by omega) (by decide)]
    rfl
  have HB := Lib.hid hB
  clear hB
  go_enter Tryz.func57, Tryz.ntmps57
  go_wp2_with fail
  refine F1.out.mono ?_
  rintro e w1 ⟨rfl, hc1⟩
  have F2 := Lib.hid (first_any (u / 4294967296) a (h.chg0 hc1) hl (by omega))
  by_cases ha : a = 0
  · have hab : (a == 0) = true := by simp [ha]
    have hb0 : b' = 0 := by rw [HB.out]; simp [ha]
    subst ha
    clear F2 F1
    go_wp2_with fail
    go_ret2
    rw [hb0]
    exact ⟨rfl, hc1⟩
  · have hab : (a == 0) = false := by simp [ha]
    have hb0 : b' = firstF l (u / 4294967296 % l.length) a := by rw [HB.out]; simp [ha]
    have HB0 := Lib.hid hb0
    have h4 : u / 4294967296 < 18446744073709551616 := by omega
    clear hb0 F1 HB hu h4
    generalize u / 4294967296 = u4 at *
    go_wp2_with fail
    refine F2.out.mono ?_
    rintro e w2 ⟨rfl, hc2⟩
    rw [← HB0.out]
    go_wp2_with fail
    go_ret2
    exact ⟨rfl, hc1.trans hc2⟩

set_option maxHeartbeats 1000000 in
theorem from_any {w : World} {B : Nat} {v : Value} {l : List Int} (at_ : Nat) (o : Int) (h : SlZ w B v l) (hl : l.length ≤ 300) (ha : at_ < l.length) :
    Calls Tryz.prog 58 #[v, .int .i64 at_, .int .i64 o] w fun e w' => e = .returned (.int .i64 (firstF l at_ o)) ∧ w = w' := by
  obtain ⟨b, off, c, rfl, _, hb, _, hc⟩ := h.all (by omega)
  have HC := Lib.hid hc
  clear hc h
  have HF := Lib.hid (fun k => @firstF_hit l at_ o k)
  have HM := Lib.hid (@firstF_miss l at_ o)
  have HR : Hid (∀ j, rot l at_ j = l[(at_ + j) % l.length]?.getD 0) := Lib.hid fun j => rfl
  generalize hL : l.length = len at *
  go_enter Tryz.func58, Tryz.ntmps58
  go_wp2_with fail
  go_loop [7] (fun i => ∃ j : Nat, j ≤ len ∧ i = .int .i64 j ∧ ∀ q, q < j → okN o (rot l at_ q) = false) (fun i => len - (intOf i).toNat)
  case atStart => exact ⟨0, by omega, rfl, fun q hq => by omega⟩
  case round =>
    obtain ⟨j, hj, rfl, hf⟩ := hrel
    have HN := Lib.hid hf
    clear hf
    by_cases hlt : j < len
    · have hm : (at_ + j) % len < len := Nat.mod_lt _ (by omega)
      have hcx := HC.out _ hm
      rw [← HR.out j] at hcx
      have hw1 : IntKind.i64.wrap ((at_ : Int) + (j : Int)) = (at_ : Int) + (j : Int) := by rw [IntKind.wrap_i64]; omega
      have hq1 : (at_ : Int) + (j : Int) = ((at_ + j : Nat) : Int) := by push_cast; rfl
      have hqm : (at_ + j < len ∧ (at_ + j) % len = at_ + j) ∨ (len ≤ at_ + j ∧ (at_ + j) % len + len = at_ + j) := by
        rcases Nat.lt_or_ge (at_ + j) len with h | h
        · exact .inl ⟨h, Nat.mod_eq_of_lt h⟩
        · exact .inr ⟨h, by rw [Nat.mod_eq_sub_mod h, Nat.mod_eq_of_lt (by omega)]; omega⟩
      have hfin : okN o (rot l at_ j) = true → firstF l at_ o = rot l at_ j := fun hk => HF.out j hlt HN.out hk
      have hnext : okN o (rot l at_ j) = false → ∀ q, q < j + 1 → okN o (rot l at_ q) = false := fun hk q hq => by
        rcases Nat.lt_or_ge q j with h | h
        · exact HN.out q h
        · rw [show q = j by omega]; exact hk
      have HFi := Lib.hid hfin
      have HNe := Lib.hid hnext
      clear hfin hnext HF HM HN HR HC
      generalize hx : rot l at_ j = x at *
      generalize (at_ + j) % len = m at *
      generalize at_ + j = q at *
      clear hx
      rcases hqm with ⟨hql, rfl⟩ | ⟨hql, hmq⟩
      · by_cases hx0 : 0 < x
        · by_cases hxo : x = o
          · have hq : okN o x = false := okN_no.2 (by simp [hxo])
            have HQ := Lib.hid (HNe.out hq)
            clear hq HNe HFi
            subst hxo
            go_wp2_with fail
            go_round
            case rel => exact ⟨j + 1, by omega, by go_num, HQ.out⟩
            case measure => simp [intOf]; omega
          · have hq : okN o x = true := okN_iff.2 ⟨hx0, hxo⟩
            have HQ := Lib.hid (HFi.out hq)
            clear hq HNe HFi
            have hxb : (x == o) = false := by simp [hxo]
            go_wp2_with fail
            go_ret
            rw [HQ.out]
            exact ⟨rfl, rfl⟩
        · have hq : okN o x = false := okN_no.2 (by simp [hx0])
          have HQ := Lib.hid (HNe.out hq)
          clear hq HNe HFi
          go_wp2_with fail
          go_round
          case rel => exact ⟨j + 1, by omega, by go_num, HQ.out⟩
          case measure => simp [intOf]; omega
      · have hsb : (q : Int) - (len : Int) = (m : Int) := by omega
        have hw2 : IntKind.i64.wrap (m : Int) = (m : Int) := by rw [IntKind.wrap_i64]; omega
        by_cases hx0 : 0 < x
        · by_cases hxo : x = o
          · have hq : okN o x = false := okN_no.2 (by simp [hxo])
            have HQ := Lib.hid (HNe.out hq)
            clear hq HNe HFi
            subst hxo
            go_wp2_with fail
            go_round
            case rel => exact ⟨j + 1, by omega, by go_num, HQ.out⟩
            case measure => simp [intOf]; omega
          · have hq : okN o x = true := okN_iff.2 ⟨hx0, hxo⟩
            have HQ := Lib.hid (HFi.out hq)
            clear hq HNe HFi
            have hxb : (x == o) = false := by simp [hxo]
            go_wp2_with fail
            go_ret
            rw [HQ.out]
            exact ⟨rfl, rfl⟩
        · have hq : okN o x = false := okN_no.2 (by simp [hx0])
          have HQ := Lib.hid (HNe.out hq)
          clear hq HNe HFi
          go_wp2_with fail
          go_round
          case rel => exact ⟨j + 1, by omega, by go_num, HQ.out⟩
          case measure => simp [intOf]; omega
    · have hr : firstF l at_ o = 0 := HM.out fun k hk => HN.out k (by omega)
      have HQ := Lib.hid hr
      clear hr HM HN HF HR HC
      go_wp2_with fail
      go_ret
      rw [HQ.out]
      exact ⟨rfl, rfl⟩

set_option maxRecDepth 100000 in
set_option maxHeartbeats 400000 in
theorem two18_any {w : World} {B : Nat} {v : Value} {l : List Int} (u : Nat) (h : SlZ w B v l) (hl : l.length ≤ 300) (hu : u < 18446744073709551616) :
    Calls Tryz.prog 41 #[v, .int .u64 u] w fun e w' => e = .returned (.tuple #[.int .i64 (twoA l u), .int .i64 (twoB l u)]) ∧ w = w' := by
  rcases Nat.eq_zero_or_pos l.length with h0 | h0
  · obtain ⟨_, A, c, rfl, _⟩ := h
    obtain rfl : l = [] := List.eq_nil_of_length_eq_zero h0
    have hA : twoA [] u = 0 := rfl
    have hB : twoB [] u = 0 := rfl
    rw [hA, hB]
    simp only [List.length_nil] at *
    go_enter Tryz.func41, Tryz.ntmps41
    go_wp2_with fail
    go_ret2
    exact ⟨rfl, rfl⟩
  have hst1 : u % l.length < l.length := Nat.mod_lt _ h0
  have hst2 : u / 4294967296 % l.length < l.length := Nat.mod_lt _ h0
  have F1 := Lib.hid (from_any (u % l.length) 0 h hl hst1)
  have F2 : Hid (∀ a, _) := Lib.hid (fun a => from_any (u / 4294967296 % l.length) a h hl hst2)
  have hA : firstF l (u % l.length) 0 = twoA l u := rfl
  have hB : twoB l u = if twoA l u = 0 then 0 else firstF l (u / 4294967296 % l.length) (twoA l u) := rfl
  rw [hA] at F1
  obtain ⟨A, c, hv⟩ := Sl.form h
  clear h
  subst hv
  generalize twoA l u = a at *
  generalize hbe : twoB l u = b' at *
  clear hA hbe
  have HB := Lib.hid hB
  clear hB
  have h4 : u / 4294967296 < 18446744073709551616 := by omega
  have hue : (u : Int) / 4294967296 = ((u / 4294967296 : Nat) : Int) := rfl
  have hne : ¬ l.length = 0 := by omega
  have hdm : ((u : Int)).tmod (l.length : Int) = ((u % l.length : Nat) : Int) := by rw [Int.tmod_eq_emod_of_nonneg (by omega)]; rfl
  have hdm2 : ((u : Int)) % (l.length : Int) = ((u % l.length : Nat) : Int) := rfl
  have hem : (((u / 4294967296 : Nat) : Int)).tmod (l.length : Int) = ((u / 4294967296 % l.length : Nat) : Int) := by rw [Int.tmod_eq_emod_of_nonneg (by omega)]; rfl
  have hem2 : (((u / 4294967296 : Nat) : Int)) % (l.length : Int) = ((u / 4294967296 % l.length : Nat) : Int) := rfl
  generalize u / 4294967296 = u4 at *
  generalize u % l.length = m1 at *
  generalize hm2 : u4 % l.length = m2 at *
  generalize hL : l.length = len at *
  by_cases ha : a = 0
  · have hb0 : b' = 0 := by rw [HB.out]; simp [ha]
    subst ha
    clear F2
    go_enter Tryz.func41, Tryz.ntmps41
    go_wp2_with fail
    refine F1.out.mono ?_
    rintro e w1 ⟨rfl, rfl⟩
    go_wp2_with fail
    go_ret2
    rw [hb0]
    exact ⟨rfl, rfl⟩
  · have hab : (a == 0) = false := by simp [ha]
    have hb0 : b' = firstF l m2 a := by rw [HB.out]; simp [ha]
    have HB0 := Lib.hid hb0
    clear hb0 HB
    go_enter Tryz.func41, Tryz.ntmps41
    go_wp2_with fail
    refine F1.out.mono ?_
    rintro e w1 ⟨rfl, rfl⟩
    go_wp2_with fail
    with_reducible refine (F2.out a).mono ?_
    rintro e w1 ⟨rfl, rfl⟩
    rw [← HB0.out]
    go_wp2_with fail
    go_ret2
    exact ⟨rfl, rfl⟩
end Go.Proofs.YtecblclpchndiaaGreat
