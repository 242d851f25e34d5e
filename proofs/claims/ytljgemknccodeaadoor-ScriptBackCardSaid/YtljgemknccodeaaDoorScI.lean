/-
  CONTRACTS: Text, of the program and of the document. Conditions: Gl, lengths.
-/
import Derived.Test.YtljgemknccodeaaDoorScH
set_option linter.unusedVariables false
set_option linter.unusedSimpArgs false
namespace Go.Proofs.YtljgemknccodeaaDoor
open Go.RowKit

/-- A step. -/
structure St where
  kind : Int
  n : Int
  m : Int
  k : Int
  b : Bs
@[reducible] def arrSt (s : St) (v : Value) : Array Value := #[.int .i64 s.kind, .int .i64 s.n, .int .i64 s.m, .int .i64 s.k, v]
structure OkSt (s : St) : Prop where
  kd : I64s s.kind
  n : I64s s.n
  m : I64s s.m
  k : I64s s.k
  b : s.b.length ≤ 1600
def addN (l : Bs) (n : Int) : Bs := l ++ 32 :: Lib.itoa n
def numsS (s : St) : List Int := [s.n, s.m, s.k]
def baseT (s : St) (j : Nat) : Bs := ((numsS s).take j).foldl addN (wordP s.kind)
/-- A step's line. -/
def textP (s : St) : Bs := if s.kind = 13 then baseT s (numW s.kind) ++ 32 :: hexP s.b else baseT s (numW s.kind)
theorem word_len_all : ∀ k : Fin 14, (kindsL.getD k.val []).length ≤ 7 := by decide +kernel
theorem word_len (k : Int) : (wordP k).length ≤ 7 := by
  unfold wordP
  split
  · next h => exact word_len_all ⟨k.toNat, by omega⟩
  · simp
theorem numW_le (k : Int) : numW k ≤ 3 := by
  unfold numW
  split
  · exact manyP_le k
  · omega
def numAt (s : St) (j : Nat) : Int := (numsS s).getD j 0
theorem numAt_i64 {s : St} (h : OkSt s) {j : Nat} (hj : j < 3) : I64s (numAt s j) := by
  match j, hj with
  | 0, _ => exact h.n
  | 1, _ => exact h.m
  | 2, _ => exact h.k
theorem baseT_next (s : St) {j : Nat} (hj : j < 3) : baseT s (j + 1) = baseT s j ++ [32] ++ Lib.itoa (numAt s j) := by
  have h : (numsS s)[j]? = some (numAt s j) := by
    match j, hj with
    | 0, _ => rfl
    | 1, _ => rfl
    | 2, _ => rfl
  unfold baseT
  rw [List.take_add_one, h]
  simp [addN]
theorem baseT_len {s : St} (h : OkSt s) : ∀ {j : Nat}, j ≤ 3 → (baseT s j).length ≤ 7 + 21 * j
  | 0, _ => by simpa [baseT] using word_len s.kind
  | j + 1, hj => by
    rw [baseT_next s (by omega)]
    have h1 := baseT_len h (j := j) (by omega)
    have h2 := itoa_len (numAt_i64 h (j := j) (by omega))
    simp
    omega
theorem hexP_len (l : Bs) : (hexP l).length ≤ 2 * l.length + 1 := by
  unfold hexP
  split
  · simp
  · rw [hexL_len]; omega
set_option maxRecDepth 100000 in
set_option maxHeartbeats 4000000 in
theorem text46_any {w : World} {B : Nat} {v : Value} {s : St} (h : SlY w B v s.b) (hok : OkSt s) : Calls Tryd.prog 14 #[.agg (arrSt s v)] w fun e w' => e = .returned (str (textP s)) ∧ Chg [] w w' := by
  obtain ⟨A, c, rfl⟩ := Sl.form h
  have hA := (Chg.refl [] w).alloc (.cells (arrSt s (.slice A s.b.length c)) 35)
  have hB : Blk (w.alloc (.cells (arrSt s (.slice A s.b.length c)) 35)) w.heap.size 35 (arrSt s (.slice A s.b.length c)) := Blk.new _ _ _
  have h1 := Sl.chg0 h hA
  have HI := Lib.hid (And.intro hA (And.intro hB h1))
  clear h h1 hA hB
  go_enter Tryd.func14, Tryd.ntmps14
  go_upto_region 1 with fail
  generalize w.alloc (.cells (arrSt s (.slice A s.b.length c)) 35) = w1 at *
  generalize w.heap.size = g at *
  have c0 : w1.cell? ⟨g, 0, none⟩ = some (.int .i64 s.kind) := HI.out.2.1.cell 0
  go_wp2_with fail
  refine (word_any s.kind hok.kd w1).mono ?_
  rintro e w2 ⟨rfl, hc2⟩
  have HC2 := Lib.hid (HI.out.1.trans hc2)
  have HB2 := Lib.hid (HI.out.2.1.chg hc2 (by simp))
  have HY2 := Lib.hid (Sl.chg0 HI.out.2.2 hc2)
  clear HI hc2 c0
  have c1 : w2.cell? ⟨g, 1, none⟩ = some (.int .i64 s.n) := HB2.out.cell 1
  have c2 : w2.cell? ⟨g, 2, none⟩ = some (.int .i64 s.m) := HB2.out.cell 2
  have c3 : w2.cell? ⟨g, 3, none⟩ = some (.int .i64 s.k) := HB2.out.cell 3
  go_upto_region 3 with (first
    | (refine wpList_store_blk (vs := #[.int .i64 s.n, .int .i64 s.m, .int .i64 s.k]) rfl 57 (.tmp 5) (.tmp 19) rfl rfl (Blk.new _ _ _) rfl rfl rfl (by kernel_rfl) rfl ?_; intro w3 hB3 hc3)
    | fail)
  have hcA : Chg [] w2 w3 := ((Chg.refl [] w2).alloc _).trans' hc3 (by intro x hx; simp at hx; subst hx; exact .inr (Nat.le_refl _))
  have HC3 := Lib.hid (HC2.out.trans hcA)
  have HBs := Lib.hid (HB2.out.chg hcA (by simp))
  have HY3 := Lib.hid (Sl.chg0 HY2.out hcA)
  have HBa := Lib.hid hB3
  clear hcA hc3 hB3 HC2 HB2 HY2 c1 c2 c3
  generalize w2.heap.size = ga at *
  have hnw := numW_le s.kind
  generalize hq : numW s.kind = q at *
  have HQ := Lib.hid hq
  clear hq
  go_wp2_with fail
  go_loopw [3, 6] (fun lv iv wr => ∃ j : Nat, j ≤ q ∧ lv = str (baseT s j) ∧ iv = .int .i64 j ∧ Hid (Chg [] w3 wr)) (fun _ iv _ => q - (intOf iv).toNat)
  case atStart => exact ⟨0, by omega, rfl, rfl, Lib.hid (Chg.refl _ _)⟩
  case round =>
    obtain ⟨j, hj, rfl, rfl, HC⟩ := hrel
    by_cases hlt : j < q
    · have hcn : (j : Int) < (q : Int) := by omega
      have hj3 : (j : Int) < 3 := by omega
      have cj : wr.cell? ⟨ga, j, none⟩ = some (.int .i64 (numAt s j)) := by
        rw [(HBa.out.chg HC.out (by simp)).cell]
        match j, (show j < 3 by omega) with
        | 0, _ => rfl
        | 1, _ => rfl
        | 2, _ => rfl
      have h64 := numAt_i64 hok (j := j) (by omega)
      have hbl := baseT_len hok (j := j) (by omega)
      have hil := itoa_len h64
      have ha1 := run_add (a := baseT s j) (b := [32]) (by simp; omega)
      rw [show bsA [32] = ({ data := #[32] } : ByteArray) from rfl] at ha1
      have ha2 := run_add (a := baseT s j ++ [32]) (b := Lib.itoa (numAt s j)) (by simp; omega)
      rw [← baseT_next s (by omega)] at ha2
      have FD := Lib.hid (Digits_any (numAt s j) h64 wr)
      clear hil hbl h64
      go_wp2_with fail
      refine FD.out.mono ?_
      rintro e w5 ⟨rfl, hc5⟩
      have HC5 := Lib.hid (HC.out.trans hc5)
      clear hc5 FD cj
      go_wp2_with fail
      go_roundw
      case rel => exact ⟨j + 1, by omega, rfl, by go_num, HC5⟩
      case measure => simp [intOf] <;> omega
    · obtain rfl : j = q := by omega
      have c0 : wr.cell? ⟨g, 0, none⟩ = some (.int .i64 s.kind) := (HBs.out.chg HC.out (by simp)).cell 0
      by_cases h13 : s.kind = 13
      · have c4 : wr.cell? ⟨g, 4, none⟩ = some (.slice A s.b.length c) := (HBs.out.chg HC.out (by simp)).cell 4
        have FH := Lib.hid (hex46_any (Sl.chg0 HY3.out HC.out) (by have := hok.b; omega))
        have HT : Hid (textP s = baseT s j ++ 32 :: hexP s.b) := Lib.hid (by unfold textP; rw [if_pos h13, HQ.out])
        have hbl := baseT_len hok (j := j) (by omega)
        have hhl := hexP_len s.b
        have hbb := hok.b
        have ha1 := run_add (a := baseT s j) (b := [32]) (by simp; omega)
        rw [show bsA [32] = ({ data := #[32] } : ByteArray) from rfl] at ha1
        have ha2 := run_add (a := baseT s j ++ [32]) (b := hexP s.b) (by simp; omega)
        clear hbl hhl hbb HQ
        go_wp2_with fail
        refine FH.out.mono ?_
        rintro e w5 ⟨rfl, hc5⟩
        have HC5 := Lib.hid ((HC3.out.trans HC.out).trans hc5)
        clear hc5 FH c4 c0
        go_wp2_with fail
        go_ret
        exact ⟨by rw [HT.out]; rfl, HC5.out⟩
      · have e13 : (s.kind == 13) = false := by simpa using h13
        have HT : Hid (textP s = baseT s j) := Lib.hid (by unfold textP; rw [if_neg h13, HQ.out])
        clear h13 HQ
        go_wp2_with fail
        go_ret
        exact ⟨by rw [HT.out]; rfl, HC3.out.trans HC.out⟩
end Go.Proofs.YtljgemknccodeaaDoor
