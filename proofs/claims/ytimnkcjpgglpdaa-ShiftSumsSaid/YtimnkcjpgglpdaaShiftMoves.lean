/-
  WALKS: how many slots moved, for how many hashes others are chosen; in package shift and by the document's answer. Conditions: the tables read as at most 200 integers, the hashes are at most 50.
-/
import Derived.Test.YtimnkcjpgglpdaaShiftSort
import Derived.Test.YtimnkcjpgglpdaaShiftRef
set_option linter.unusedVariables false
set_option linter.unusedSimpArgs false
namespace Go.Proofs.Ytimnkcjpgglpdaa
open Go.RowKit

def diff (l l' : List Int) (i : Nat) : Bool := aAt l i != aAt l' i
def movedF (l l' : List Int) : Nat := (max l.length l'.length - min l.length l'.length) + cnt (diff l l') (min l.length l'.length)
def diffR (l l' : List Int) (i : Nat) : Bool := decide (l.length ≤ i) || decide (l'.length ≤ i) || diff l l' i
theorem cnt_diffR (l l' : List Int) : ∀ k, cnt (diffR l l') k = cnt (diff l l') (min k (min l.length l'.length)) + (k - min l.length l'.length)
  | 0 => by simp [cnt_zero]
  | k + 1 => by
    rw [cnt_succ, cnt_diffR l l' k]
    by_cases h : k < min l.length l'.length
    · have e1 : diffR l l' k = diff l l' k := by unfold diffR; simp; omega
      rw [e1, show min (k + 1) (min l.length l'.length) = k + 1 by omega, show min k (min l.length l'.length) = k by omega, cnt_succ]
      omega
    · have e1 : diffR l l' k = true := by unfold diffR; simp; omega
      rw [e1, show min (k + 1) (min l.length l'.length) = min l.length l'.length by omega, show min k (min l.length l'.length) = min l.length l'.length by omega]
      simp; omega
theorem movedF_ref (l l' : List Int) : cnt (diffR l l') (max l.length l'.length) = movedF l l' := by
  rw [cnt_diffR]; unfold movedF
  rw [show min (max l.length l'.length) (min l.length l'.length) = min l.length l'.length by omega]; omega

theorem SlZ.one {w : World} {B : Nat} {A : Option Addr} {c : Nat} {l : List Int} {n : Nat} (h : SlZ w B (.slice A n c) l) (hn : l.length = n) {i : Nat} (hi : i < n) :
    ∃ b o, A = some ⟨b, o, none⟩ ∧ w.cell? ⟨b, o + i, none⟩ = some (.int .i64 (aAt l i)) := by
  obtain ⟨b, o, c', hv, _, _, _, hx⟩ := h.all (by omega)
  simp only [Value.slice.injEq] at hv
  obtain ⟨rfl, _, _⟩ := hv
  exact ⟨b, o, rfl, hx i (by omega)⟩

set_option maxRecDepth 100000 in
set_option maxHeartbeats 1000000 in
theorem moved_any {w : World} {B B' : Nat} {v v' : Value} {l l' : List Int} (h : SlZ w B v l) (h' : SlZ w B' v' l') (hl : l.length ≤ 200) (hl' : l'.length ≤ 200) :
    Calls Try.prog 23 #[v, v'] w fun e w' => e = .returned (.int .i64 (movedF l l')) ∧ ∃ d, w' = w.drewN d := by
  obtain ⟨A1, c1, rfl⟩ := Sl.form h
  obtain ⟨A2, c2, rfl⟩ := Sl.form h'
  have H1 := Lib.hid h
  have H2 := Lib.hid h'
  clear h h'
  have hM : movedF l l' = (max l.length l'.length - min l.length l'.length) + cnt (diff l l') (min l.length l'.length) := rfl
  generalize hn : l.length = n at *
  generalize hm : l'.length = m at *
  obtain ⟨K, hK⟩ : ∃ K, K = max n m := ⟨_, rfl⟩
  obtain ⟨q, hq⟩ : ∃ q, q = min n m := ⟨_, rfl⟩
  rw [← hK, ← hq] at hM
  have hKI : max (n : Int) (m : Int) = (K : Int) := by omega
  have hqI : min (n : Int) (m : Int) = (q : Int) := by omega
  have hd : (K : Int) - (q : Int) = ((K - q : Nat) : Int) := by omega
  have hqn : q ≤ n ∧ q ≤ m ∧ q ≤ 200 ∧ K - q ≤ 200 := by omega
  obtain ⟨hq1, hq2, hq3, hq4⟩ := hqn
  clear hK hq
  have hw0 : IntKind.i64.wrap ((K - q : Nat) : Int) = ((K - q : Nat) : Int) := by rw [IntKind.wrap_i64]; omega
  generalize K - q = z at *
  have HM := Lib.hid hM
  clear hM
  go_enter Try.func23, Try.ntmps23
  go_wp2_with fail
  go_loopw [7, 23] (fun nv iv wr => ∃ k : Nat, k ≤ q ∧ iv = .int .i64 k ∧ nv = .int .i64 ((z + cnt (diff l l') k : Nat)) ∧ ∃ d, wr = w.drewN d) (fun _ iv _ => q - (intOf iv).toNat)
  case atStart => exact ⟨0, by omega, rfl, by simp [cnt_zero], 0, rfl⟩
  case round =>
    obtain ⟨k, hk, rfl, rfl, d, rfl⟩ := hrel
    by_cases hlt : k < q
    · obtain ⟨b, o, rfl, hca⟩ := H1.out.one hn (i := k) (by omega)
      obtain ⟨b', o', rfl, hcb⟩ := H2.out.one hm (i := k) (by omega)
      have hca' := ((Chg.refl [] w).drewN d).cell hca (by simp)
      have hcb' := ((Chg.refl [] w).drewN d).cell hcb (by simp)
      have hs : cnt (diff l l') (k + 1) = cnt (diff l l') k + if (aAt l k != aAt l' k) = true then 1 else 0 := cnt_succ _ _
      have hcl : cnt (diff l l') k ≤ k := cnt_le _ _
      have hdd : Hid (∀ q, (w.drewN d).drewN q = w.drewN (d + q)) := Lib.hid fun q => World.drewN_drewN _ _ _
      generalize cnt (diff l l') k = N at *
      generalize aAt l k = a at *
      generalize aAt l' k = a' at *
      have hkn : (k : Int) < (n : Int) := by omega
      have hkm : (k : Int) < (m : Int) := by omega
      have hw1 : IntKind.i64.wrap (((z + N : Nat) : Int) + 1) = ((z + N : Nat) : Int) + 1 := by rw [IntKind.wrap_i64]; omega
      have hlI : (k : Int) < (q : Int) := by omega
      generalize hzn : z + N = zn at *
      clear hca hcb H1 H2 HM
      generalize w.drewN d = wd at *
      cases hp : (a != a') with
      | true =>
        have hE : Hid (z + cnt (diff l l') (k + 1) = zn + 1) := Lib.hid (by rw [hs, hp]; simp; omega)
        clear hs
        go_wp2_with fail
        go_quiet (fail)
        go_wp2_with fail
        go_roundw
        case rel => exact ⟨k + 1, by omega, by go_num, by rw [hE.out]; push_cast; rfl, _, hdd.out _⟩
        case measure => simp [intOf]; omega
      | false =>
        have hE : Hid (z + cnt (diff l l') (k + 1) = zn) := Lib.hid (by rw [hs, hp]; simp; omega)
        clear hs
        go_wp2_with fail
        go_quiet (fail)
        go_wp2_with fail
        go_roundw
        case rel => exact ⟨k + 1, by omega, by go_num, by rw [hE.out], _, hdd.out _⟩
        case measure => simp [intOf]; omega
    · obtain rfl : k = q := by omega
      have HM' := Lib.hid HM.out.symm
      generalize z + cnt (diff l l') k = r at *
      clear HM H1 H2
      go_wp2_with fail
      go_ret
      exact ⟨by rw [← HM'.out]; rfl, d, rfl⟩

set_option maxRecDepth 100000 in
set_option maxHeartbeats 1000000 in
theorem moved19_any {w : World} {B B' : Nat} {v v' : Value} {l l' : List Int} (h : SlZ w B v l) (h' : SlZ w B' v' l') (hl : l.length ≤ 200) (hl' : l'.length ≤ 200) :
    Calls Try.prog 24 #[v, v'] w fun e w' => e = .returned (.int .i64 (movedF l l')) ∧ ∃ d, w' = w.drewN d := by
  obtain ⟨A1, c1, rfl⟩ := Sl.form h
  obtain ⟨A2, c2, rfl⟩ := Sl.form h'
  have H1 := Lib.hid h
  have H2 := Lib.hid h'
  clear h h'
  have hM := movedF_ref l l'
  have hDR : Hid (∀ i, diffR l l' i = (decide (l.length ≤ i) || decide (l'.length ≤ i) || (aAt l i != aAt l' i))) := Lib.hid fun i => rfl
  generalize hn : l.length = n at *
  generalize hm : l'.length = m at *
  obtain ⟨K, hK⟩ : ∃ K, K = max n m := ⟨_, rfl⟩
  rw [← hK] at hM
  have HKR := Lib.hid hK
  have hK2 : K ≤ 200 := by omega
  have HM := Lib.hid hM
  clear hM hK
  go_enter Try.func24, Try.ntmps24
  go_wp2_with fail
  go_loopw [5, 6] (fun nv iv wr => ∃ k : Nat, k ≤ K ∧ iv = .int .i64 k ∧ nv = .int .i64 (cnt (diffR l l') k) ∧ ∃ d, wr = w.drewN d) (fun _ iv _ => K - (intOf iv).toNat)
  case atStart => exact ⟨0, by omega, rfl, by simp [cnt_zero], 0, rfl⟩
  case round =>
    obtain ⟨k, hk, rfl, rfl, d, rfl⟩ := hrel
    by_cases hlt : k < K
    · have hs : cnt (diffR l l') (k + 1) = cnt (diffR l l') k + if (decide (n ≤ k) || decide (m ≤ k) || (aAt l k != aAt l' k)) = true then 1 else 0 := by rw [← hDR.out k]; exact cnt_succ _ _
      have hcl : cnt (diffR l l') k ≤ k := cnt_le _ _
      have hdd : Hid (∀ q, (w.drewN d).drewN q = w.drewN (d + q)) := Lib.hid fun q => World.drewN_drewN _ _ _
      generalize cnt (diffR l l') k = N at *
      have hw1 : IntKind.i64.wrap ((N : Int) + 1) = (N : Int) + 1 := by rw [IntKind.wrap_i64]; omega
      by_cases hkn : k < n
      · by_cases hkm : k < m
        · obtain ⟨b, o, rfl, hca⟩ := H1.out.one hn (i := k) (by omega)
          obtain ⟨b', o', rfl, hcb⟩ := H2.out.one hm (i := k) (by omega)
          have hca' := ((Chg.refl [] w).drewN d).cell hca (by simp)
          have hcb' := ((Chg.refl [] w).drewN d).cell hcb (by simp)
          have hd1 : decide ((n : Int) ≤ (k : Int)) = false := by simp; omega
          have hd2 : decide ((m : Int) ≤ (k : Int)) = false := by simp; omega
          have hknI : (k : Int) < (n : Int) := by omega
          have hkmI : (k : Int) < (m : Int) := by omega
          generalize aAt l k = a at *
          generalize aAt l' k = a' at *
          clear hca hcb H1 H2 HM HKR hDR
          generalize w.drewN d = wd at *
          cases hp : (a != a') with
          | true =>
            have hE : Hid (cnt (diffR l l') (k + 1) = N + 1) := Lib.hid (by rw [hs, hp]; simp)
            clear hs
            go_wp2_with fail
            go_quiet (fail)
            go_wp2_with fail
            go_roundw
            case rel => exact ⟨k + 1, by omega, by go_num, by rw [hE.out]; push_cast; rfl, _, hdd.out _⟩
            case measure => simp [intOf]; omega
          | false =>
            have hE : Hid (cnt (diffR l l') (k + 1) = N) := Lib.hid (by rw [hs, hp]; simp; omega)
            clear hs
            go_wp2_with fail
            go_quiet (fail)
            go_wp2_with fail
            go_roundw
            case rel => exact ⟨k + 1, by omega, by go_num, by rw [hE.out], _, hdd.out _⟩
            case measure => simp [intOf]; omega
        · have hd1 : decide ((n : Int) ≤ (k : Int)) = false := by simp; omega
          have hd2 : decide ((m : Int) ≤ (k : Int)) = true := by simp; omega
          have hE : Hid (cnt (diffR l l') (k + 1) = N + 1) := Lib.hid (by rw [hs, if_pos (by simp; omega)])
          clear hs H1 H2 HM HKR hDR
          generalize w.drewN d = wd at *
          go_wp2_with fail
          go_quiet (fail)
          go_wp2_with fail
          go_roundw
          case rel => exact ⟨k + 1, by omega, by go_num, by rw [hE.out]; push_cast; rfl, _, hdd.out _⟩
          case measure => simp [intOf]; omega
      · have hd1 : decide ((n : Int) ≤ (k : Int)) = true := by simp; omega
        have hnk : n ≤ k := by omega
        have hd1' : decide (n ≤ k) = true := by simp; omega
        have hkm : k < m := by have := HKR.out; omega
        have hE : Hid (cnt (diffR l l') (k + 1) = N + 1) := Lib.hid (by rw [hs, if_pos (by simp; omega)])
        clear hs H1 H2 HM HKR hDR
        generalize w.drewN d = wd at *
        go_wp2_with fail
        go_quiet (fail)
        go_wp2_with fail
        go_roundw
        case rel => exact ⟨k + 1, by omega, by go_num, by rw [hE.out]; push_cast; rfl, _, hdd.out _⟩
        case measure => simp [intOf]; omega
    · obtain rfl : k = K := by omega
      have hkn : ¬ k < n := by have := HKR.out; omega
      have hkm : ¬ k < m := by have := HKR.out; omega
      generalize cnt (diffR l l') k = r at *
      clear H1 H2 hDR HKR
      go_wp2_with fail
      go_ret
      exact ⟨by rw [← HM.out]; rfl, d, rfl⟩
end Go.Proofs.Ytimnkcjpgglpdaa
