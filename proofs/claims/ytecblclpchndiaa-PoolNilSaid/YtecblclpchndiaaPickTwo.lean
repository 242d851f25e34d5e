/-
  WALKS: the two backends of a hash, in package pick and by the document's answer. Condition: the table reads as at most 300 integers.
-/
import Derived.Test.YtecblclpchndiaaPickFirst
set_option linter.unusedVariables false
set_option linter.unusedSimpArgs false
namespace Go.Proofs.Ytecblclpchndiaa
open Go.RowKit Go.Shelf

theorem firstF_nil (at_ : Nat) (o : Int) : firstF [] at_ o = 0 := rfl

set_option maxRecDepth 100000 in
set_option maxHeartbeats 400000 in
theorem first_none (A : Option Addr) (cap u : Nat) (o : Int) (w : World) :
    Calls Try.prog 76 #[.slice A 0 cap, .int .u64 u, .int .i64 o] w fun e w' => e = .returned (.int .i64 0) ∧ Below w.heap.size w w' := by
  refine (callsIn_wide (n := 5)).1 ?_
  refine callsIn_of_wp_marks Try.func76 rfl trivial ?_ rfl
  simp only [Try.ntmps76, List.size_toArray, List.length_cons, List.length_nil, Nat.reduceAdd, Nat.reduceSub, Array.replicate_succ, Array.replicate_zero, List.push_toArray, List.append_toArray, List.nil_append, List.cons_append]
  gi_wp2
  refine ⟨.int .i64 0, ?_, rfl, (((Below.refl _ w).alloc (Nat.le_refl _) _).alloc (by simp) _)⟩
  simp [results, Try.f76, go_sem]

theorem first_any {w : World} {B : Nat} {v : Value} {l : List Int} (u : Nat) (o : Int) (h : SlZ w B v l) (hl : l.length ≤ 300) (hu : u < 18446744073709551616) :
    Calls Try.prog 76 #[v, .int .u64 u, .int .i64 o] w fun e w' => e = .returned (.int .i64 (firstF l (u % l.length) o)) ∧ Chg [] w w' := by
  rcases Nat.eq_zero_or_pos l.length with h0 | h0
  · obtain ⟨_, A, c, rfl, _⟩ := h
    obtain rfl : l = [] := List.eq_nil_of_length_eq_zero h0
    exact (first_none A c u o w).mono fun e w' ⟨he, hb⟩ => ⟨he, Chg.of_below hb⟩
  · obtain ⟨b, off, c, rfl, _, hb, _, hc⟩ := h.all h0
    exact (first_cells b off c u o l w h0 hl hu hb hc).mono fun e w' ⟨he, hb⟩ => ⟨he, Chg.of_below hb⟩

def twoA (l : List Int) (u : Nat) : Int := firstF l (u % l.length) 0
def twoB (l : List Int) (u : Nat) : Int := if twoA l u = 0 then 0 else firstF l (u / 4294967296 % l.length) (twoA l u)

set_option maxRecDepth 100000 in
set_option maxHeartbeats 400000 in
theorem two_any {w : World} {B : Nat} {v : Value} {l : List Int} (u : Nat) (h : SlZ w B v l) (hl : l.length ≤ 300) (hu : u < 18446744073709551616) :
    Calls Try.prog 61 #[v, .int .u64 u] w fun e w' => e = .returned (.tuple #[.int .i64 (twoA l u), .int .i64 (twoB l u)]) ∧ Chg [] w w' := by
  have F1 := Lib.hid (first_any u 0 h hl hu)
  have hA : firstF l (u % l.length) 0 = twoA l u := rfl
  have hB : twoB l u = if twoA l u = 0 then 0 else firstF l (u / 4294967296 % l.length) (twoA l u) := rfl
  rw [hA] at F1
  generalize twoA l u = a at *
  generalize hbe : twoB l u = b' at *
  clear hA hbe
  have hsr : Op.shift .shr .u64 (u : Int) .u64 32 = pure (.int .u64 ((u / 4294967296 : Nat) : Int)) := by
    rw [shift_shr .u64 .u64 _ _ (by omega) (by decide)]
    rfl
  have HB := Lib.hid hB
  clear hB
  go_enter Try.func61, Try.ntmps61
  go_wp2_with fail
  refine F1.out.mono ?_
  rintro e w1 ⟨rfl, hc1⟩
  have F2 := Lib.hid (first_any (u / 4294967296) a (h.chg0 hc1) hl (by omega))
  by_cases ha : a = 0
  · have hab : (a == 0) = true := by simp [ha]
    have hb0 : b' = 0 := by rw [HB.out]; simp [ha]
    subst ha
    clear F2 F1
    go_wp2_with fail
    go_ret2
    rw [hb0]
    exact ⟨rfl, hc1⟩
  · have hab : (a == 0) = false := by simp [ha]
    have hb0 : b' = firstF l (u / 4294967296 % l.length) a := by rw [HB.out]; simp [ha]
    have HB0 := Lib.hid hb0
    have h4 : u / 4294967296 < 18446744073709551616 := by omega
    clear hb0 F1 HB hu h4
    generalize u / 4294967296 = u4 at *
    go_wp2_with fail
    refine F2.out.mono ?_
    rintro e w2 ⟨rfl, hc2⟩
    rw [← HB0.out]
    go_wp2_with fail
    go_ret2
    exact ⟨rfl, hc1.trans hc2⟩

end Go.Proofs.Ytecblclpchndiaa
