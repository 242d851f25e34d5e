/-
  WALKS: chapter 30's example; a table that there is not, or that no call made. No condition.
-/
import Derived.Test.YtgbdbeaflilmlaaConnU2
import Derived.Test.YtgbdbeaflilmlaaConnT2
import Derived.Test.YtgbdbeaflilmlaaConnB
set_option linter.unusedVariables false
set_option linter.unusedSimpArgs false
namespace Go.Proofs.Ytgbdbeaflilmlaa
open Go.RowKit Go.Maps

@[reducible] def enL (s k u : Int) : En := ⟨⟨⟨0, 0, 0, 0, 0, 0, 0, 0, 0, 0, 0, 0, 0, 0, 0, 0⟩, s, ⟨0, 0, 0, 0, 0, 0, 0, 0, 0, 0, 0, 0, 0, 0, 0, 0⟩, 0⟩, k, 0, 0, 0, u, 0, 0, 0, 0, 0, 0, 0⟩
def tc0 : TC := ⟨1, 0, 0, []⟩
def tc1 : TC := ⟨1, 0, 1, [(enL 1 1 2, 1)]⟩
def tc2 : TC := ⟨1, 1, 1, [(enL 1 1 2, 1)]⟩
def tc3 : TC := ⟨1, 2, 1, []⟩
theorem tc_1 : putC tc0 (enL 1 1 2) = (tc1, true) := by rfl
theorem tc_2 : putC tc1 (enL 2 2 0) = (tc1, false) := by rfl
theorem tc_3 : tickC tc1 = tc2 ∧ goneC tc1 = [] := by constructor <;> rfl
theorem tc_4 : tickC tc2 = tc3 ∧ goneC tc2 = [(enL 1 1 2).fl] := by constructor <;> rfl
set_option maxRecDepth 100000 in
set_option maxHeartbeats 2000000 in
theorem lives30 (w : World) : Calls Try.prog 37 #[] w fun r w' => r = .returned (.bool true) ∧ Chg [] w w' := by
  have ok1 : okF (enL 1 1 2).fl := ⟨okA_z0, by decide, okA_z0, by decide⟩
  have ok2 : okF (enL 2 2 0).fl := ⟨okA_z0, by decide, okA_z0, by decide⟩
  have OK := Lib.hid (And.intro ok1 ok2)
  have F0 := Lib.hid (cnew_any (n := 1) (by omega) (by omega) w)
  clear ok1 ok2
  go_enter Try.func37, Try.ntmps37
  go_wp2_with fail
  refine F0.out.mono ?_
  rintro r w1 ⟨tb, S, rfl, hS, hc1⟩
  have hS' : CtS w w1 tb 0 tc0 S := hS
  have f1 := cput_any (e := enL 1 1 2) hS' (by omega) OK.out.1
  rw [tc_1] at f1
  have F1 := Lib.hid f1
  have HC1 := Lib.hid hc1
  have FN := Lib.hid (fun W => cnew_no (n := 0) (.inl (by omega)) W)
  clear hS hS' hc1 F0 f1
  go_wp2_with fail
  refine F1.out.mono ?_
  rintro r w2 ⟨rfl, S2, hS2, hc2, hf2⟩
  have f2 := cput_any (e := enL 2 2 0) hS2 (by omega) OK.out.2
  rw [tc_2] at f2
  have F2 := Lib.hid f2
  clear hS2 hc2 hf2 f2 F1
  go_wp2_with fail
  refine F2.out.mono ?_
  rintro r w3 ⟨rfl, S3, hS3, hc3, hf3⟩
  have f3 := ctick_any hS3 (by omega)
  rw [tc_3.1, tc_3.2] at f3
  have F3 := Lib.hid f3
  clear hS3 hc3 hf3 f3 F2
  go_wp2_with fail
  refine F3.out.mono ?_
  rintro r w4 ⟨v4, L4, rfl, hs4, hp4, hsl4, S4, hS4, hc4, hf4⟩
  obtain rfl : L4 = [] := List.Perm.eq_nil hp4
  obtain ⟨A4, c4, rfl⟩ := Sl.form hsl4
  have f4 := ctick_any hS4 (by omega)
  rw [tc_4.1, tc_4.2] at f4
  have F4 := Lib.hid f4
  clear hS4 hc4 hf4 f4 F3 hs4 hp4 hsl4
  go_wp2_with fail
  refine F4.out.mono ?_
  rintro r w5 ⟨v5, L5, rfl, hs5, hp5, hsl5, S5, hS5, hc5, hf5⟩
  obtain rfl : L5 = [(enL 1 1 2).fl] := List.perm_singleton.1 hp5
  obtain ⟨A5, c5, rfl⟩ := Sl.form hsl5
  obtain ⟨⟨m1, m2, m3, q, nn, vs, sq, its, hr5, r5⟩, hci5, hcW5, _⟩ := id hS5
  have F5 := Lib.hid (clen_any hr5)
  have F6 := Lib.hid (cnow_any hr5)
  have HCW := Lib.hid hcW5
  clear hS5 hc5 hf5 F4 hs5 hp5 hsl5 hr5 r5 hci5 hcW5
  go_wp2_with fail
  refine F5.out.mono ?_
  rintro r w6 ⟨rfl, rfl⟩
  go_wp2_with fail
  refine F6.out.mono ?_
  rintro r w6 ⟨rfl, rfl⟩
  go_wp2_with fail
  refine (FN.out _).mono ?_
  rintro r w6 ⟨rfl, rfl⟩
  go_wp2_with fail
  go_ret
  exact ⟨rfl, HCW.out⟩
/-! A table that there is not, or that no call made. -/
section
variable {w : World} {p : Option Addr}
/-- The method 'is' says no. -/
def IsNo (w : World) (p : Option Addr) : Prop := ∀ W, Chg [] w W → Calls Try.prog 73 #[.pointer p] W fun e w' => e = .returned (.bool false) ∧ W = w'
theorem IsNo.chg0 {w' : World} (h : IsNo w p) (hc : Chg [] w w') : IsNo w' p := fun W h2 => h W (hc.trans h2)
theorem isno_nil (w : World) : IsNo w none := fun W _ => by
  go_enter Try.func73, Try.ntmps73
  go_wp2_with fail
  go_ret
  exact ⟨rfl, rfl⟩
theorem isno_blk {g : Nat} (h : Blk w g 129 #[.int .i64 0, .int .i64 0, .int .i64 0, .map none, .map none, .map none, .pointer none]) : IsNo w (some ⟨g, 0, none⟩) := fun W hc => by
  have c6 : W.cell? ⟨g, 6, none⟩ = some (.pointer none) := (h.chg hc (by simp)).cell 6
  go_enter Try.func73, Try.ntmps73
  go_wp2_with fail
  go_ret
  exact ⟨rfl, rfl⟩
theorem nnow (h : IsNo w p) : Calls Try.prog 41 #[.pointer p] w fun e w' => e = .returned (.int .i64 0) ∧ Chg [] w w' := by
  have F1 := Lib.hid (h w (Chg.refl _ _))
  go_enter Try.func41, Try.ntmps41
  go_wp2_with fail
  refine F1.out.mono ?_
  rintro e w1 ⟨rfl, rfl⟩
  go_wp2_with fail
  go_ret
  exact ⟨rfl, Chg.refl _ _⟩
theorem nlen (h : IsNo w p) : Calls Try.prog 42 #[.pointer p] w fun e w' => e = .returned (.int .i64 0) ∧ Chg [] w w' := by
  have F1 := Lib.hid (h w (Chg.refl _ _))
  go_enter Try.func42, Try.ntmps42
  go_wp2_with fail
  refine F1.out.mono ?_
  rintro e w1 ⟨rfl, rfl⟩
  go_wp2_with fail
  go_ret
  exact ⟨rfl, Chg.refl _ _⟩
theorem ncap (h : IsNo w p) : Calls Try.prog 48 #[.pointer p] w fun e w' => e = .returned (.int .i64 0) ∧ Chg [] w w' := by
  have F1 := Lib.hid (h w (Chg.refl _ _))
  go_enter Try.func48, Try.ntmps48
  go_wp2_with fail
  refine F1.out.mono ?_
  rintro e w1 ⟨rfl, rfl⟩
  go_wp2_with fail
  go_ret
  exact ⟨rfl, Chg.refl _ _⟩
theorem ntick (h : IsNo w p) : Calls Try.prog 39 #[.pointer p] w fun e w' => e = .returned (.slice none 0 0) ∧ Chg [] w w' := by
  have F1 := Lib.hid (h w (Chg.refl _ _))
  go_enter Try.func39, Try.ntmps39
  go_wp2_with fail
  refine F1.out.mono ?_
  rintro e w1 ⟨rfl, rfl⟩
  go_wp2_with fail
  go_ret
  exact ⟨rfl, Chg.refl _ _⟩
theorem nall (h : IsNo w p) : Calls Try.prog 47 #[.pointer p] w fun e w' => e = .returned (.slice none 0 0) ∧ Chg [] w w' := by
  have F1 := Lib.hid (h w (Chg.refl _ _))
  go_enter Try.func47, Try.ntmps47
  go_wp2_with fail
  refine F1.out.mono ?_
  rintro e w1 ⟨rfl, rfl⟩
  go_wp2_with fail
  go_ret
  exact ⟨rfl, Chg.refl _ _⟩
set_option maxHeartbeats 1000000 in
theorem ncount (h : IsNo w p) (f : Value) : Calls Try.prog 78 #[.pointer p, f] w fun e w' => e = .returned (.int .i64 0) ∧ Chg [] w w' := by
  have F1 := Lib.hid (nall h)
  clear h
  go_enter Try.func78, Try.ntmps78
  go_wp2_with fail
  refine F1.out.mono ?_
  rintro e w1 ⟨rfl, hc⟩
  have HC := Lib.hid hc
  clear hc F1
  go_wp2_with fail
  go_loopw [5, 11] (fun nv iv wr => nv = .int .i64 0 ∧ iv = .int .i64 0 ∧ w1 = wr) (fun _ _ _ => 0)
  case atStart => exact ⟨rfl, rfl, rfl⟩
  case round =>
    obtain ⟨rfl, rfl, rfl⟩ := hrel
    go_wp2_with fail
    go_ret
    exact ⟨rfl, HC.out⟩
theorem nbusy (h : IsNo w p) : Calls Try.prog 49 #[.pointer p] w fun e w' => e = .returned (.int .i64 0) ∧ Chg [] w w' := by
  have F1 := Lib.hid (fun f => ncount h f)
  clear h
  go_enter Try.func49, Try.ntmps49
  go_wp2_with fail
  refine (F1.out _).mono ?_
  rintro e w1 ⟨rfl, hc1⟩
  clear F1
  go_wp2_with fail
  go_ret
  exact ⟨rfl, hc1⟩
set_option maxRecDepth 100000 in
set_option maxHeartbeats 1000000 in
theorem nfind (h : IsNo w p) (f : Fl) : Calls Try.prog 40 #[.pointer p, f.v] w fun e w' => e = .returned (.tuple #[.agg (arrN eN0), .bool false]) ∧ Chg [] w w' := by
  have hcA := ((Chg.refl [] w).alloc (.cells (arrF f) 73)).alloc (.cells arrN0 96)
  have hBl : Blk ((w.alloc (.cells (arrF f) 73)).alloc (.cells arrN0 96)) (w.heap.size + 1) 96 arrN0 := Blk.new' (by simp)
  have F1 := Lib.hid (h _ hcA)
  have HI := Lib.hid (And.intro hcA hBl)
  clear h hcA hBl
  go_enter Try.func40, Try.ntmps40
  go_upto_region 1 with fail
  generalize (w.alloc (.cells (arrF f) 73)).alloc (.cells arrN0 96) = w1 at *
  generalize hg : w.heap.size = gf at *
  go_wp2_with fail
  refine F1.out.mono ?_
  rintro e w2 ⟨rfl, rfl⟩
  clear F1
  have hBl := HI.out.2
  go_wp2_with (first
    | (refine wpList_store_blk rfl 96 _ _ rfl rfl hBl rfl rfl rfl (infN (e := eN0)) rfl ?_; intro w7 hB7 hc7)
    | fail)
  exact bodyPost_ret (results_blk2 rfl rfl hB7 _ Try.underlying96 rfl (by kernel_rfl)) rfl ⟨rfl, HI.out.1.trans' hc7 (by intro y hy; simp at hy; subst hy; exact .inr (by omega))⟩
set_option maxRecDepth 100000 in
set_option maxHeartbeats 1000000 in
theorem ndrop (h : IsNo w p) (f : Fl) : Calls Try.prog 38 #[.pointer p, f.v] w fun e w' => e = .returned (.bool false) ∧ Chg [] w w' := by
  have hcA := (Chg.refl [] w).alloc (.cells (arrF f) 73)
  have hBf : Blk (w.alloc (.cells (arrF f) 73)) w.heap.size 73 (arrF f) := Blk.new _ _ _
  have FF := Lib.hid (nfind (h.chg0 hcA) f)
  have HC1 := Lib.hid hcA
  clear h hcA
  go_enter Try.func38, Try.ntmps38
  go_upto_region 1 with fail
  generalize w.alloc (.cells (arrF f) 73) = w1 at *
  have hBr := hBf.rangeQ
  generalize w.heap.size = gf at *
  clear hBf
  go_wp2_with (first
    | (refine wpList_row 73 (.tmp 3) rfl rfl gf 0 rfl (arrF f) _ hBr Try.underlying73 rfl infF ?_)
    | fail)
  refine FF.out.mono ?_
  rintro e w2 ⟨rfl, hc2⟩
  clear FF
  have hBl : Blk (w2.alloc (.cells arrN0 96)) w2.heap.size 96 arrN0 := Blk.new _ _ _
  have HC2 := Lib.hid (hc2.trans ((Chg.refl [] w2).alloc (.cells arrN0 96)))
  have HZ2 := Lib.hid hc2.size
  clear hc2
  go_wp2_with (first
    | (refine wpList_store_blk rfl 96 _ _ rfl rfl hBl rfl rfl rfl (infN (e := eN0)) rfl ?_; intro w3 hB3 hc3)
    | fail)
  have HC3 : Hid (Chg [] w1 w3) := Lib.hid (HC2.out.trans' hc3 (by intro y hy; simp at hy; subst hy; exact .inr HZ2.out))
  clear hBl HC2 hB3 hc3
  go_wp2_with fail
  go_ret
  exact ⟨rfl, HC1.out.trans HC3.out⟩
set_option maxRecDepth 100000 in
set_option maxHeartbeats 1000000 in
theorem nput (h : IsNo w p) (e : En) : Calls Try.prog 36 #[.pointer p, .agg (arrN e)] w fun x w' => x = .returned (.bool false) ∧ Chg [] w w' := by
  have hcA := (Chg.refl [] w).alloc (.cells (arrN e) 96)
  have FF := Lib.hid (h _ hcA)
  have HC1 := Lib.hid hcA
  clear h hcA
  go_enter Try.func36, Try.ntmps36
  go_upto_region 1 with fail
  generalize w.alloc (.cells (arrN e) 96) = w1 at *
  generalize w.heap.size = gf at *
  go_wp2_with fail
  refine FF.out.mono ?_
  rintro e w2 ⟨rfl, rfl⟩
  clear FF
  go_wp2_with fail
  go_ret
  exact ⟨rfl, HC1.out⟩
end
end Go.Proofs.Ytgbdbeaflilmlaa
