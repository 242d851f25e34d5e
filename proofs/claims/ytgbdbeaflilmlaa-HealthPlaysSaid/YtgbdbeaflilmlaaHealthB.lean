/-
  WALKS over package health: one backend. Condition: its counts are below a million.
-/
import Derived.Test.YtgbdbeaflilmlaaDueA
import Derived.Test.YtgbdbeaflilmlaaHealthP
import Derived.Test.YtgbdbeaflilmlaaMapV
set_option linter.unusedVariables false
set_option linter.unusedSimpArgs false
namespace Go.Proofs.Ytgbdbeaflilmlaa
open Go.RowKit

@[reducible] def arrK (b : BK) : Array Value := #[.int .i64 b.failed, .int .i64 b.risen, .bool b.up, .bool b.opn, .int .i64 b.seq]

theorem fail_any {w : World} {g : Nat} {f r : Int} {u o : Bool} {s : Int} (h : Blk w g 137 #[.int .i64 f, .int .i64 r, .bool u, .bool o, .int .i64 s]) (hf0 : 0 ≤ f) (hf1 : f ≤ 1000000) :
    Calls Try.prog 84 #[.pointer (some ⟨g, 0, none⟩)] w fun e w' => e = .returned (.tuple #[]) ∧ Blk w' g 137 #[.int .i64 (f + 1), .int .i64 0, .bool u, .bool o, .int .i64 s] ∧ Chg [g] w w' := by
  have c0 : w.cell? ⟨g, 0, none⟩ = some (.int .i64 f) := h.cell 0
  have c1 : w.cell? ⟨g, 1, none⟩ = some (.int .i64 r) := h.cell 1
  have f0 := h.frozen 0
  have f1 := h.frozen 1
  have hl := h.lt
  have H := Lib.hid h
  clear h
  go_enter Try.func84, Try.ntmps84
  go_wp2
  go_end0
  exact ⟨rfl, (H.out.set_ 0 _).set_ 1 _, ((Chg.refl _ _).setCell (.inl (by simp)) _).setCell (.inl (by simp)) _⟩
theorem rise_any {w : World} {g : Nat} {f r : Int} {u o : Bool} {s : Int} (h : Blk w g 137 #[.int .i64 f, .int .i64 r, .bool u, .bool o, .int .i64 s]) (hf0 : 0 ≤ r) (hf1 : r ≤ 1000000) :
    Calls Try.prog 85 #[.pointer (some ⟨g, 0, none⟩)] w fun e w' => e = .returned (.tuple #[]) ∧ Blk w' g 137 #[.int .i64 0, .int .i64 (r + 1), .bool u, .bool o, .int .i64 s] ∧ Chg [g] w w' := by
  have c0 : w.cell? ⟨g, 0, none⟩ = some (.int .i64 f) := h.cell 0
  have c1 : w.cell? ⟨g, 1, none⟩ = some (.int .i64 r) := h.cell 1
  have f0 := h.frozen 0
  have f1 := h.frozen 1
  have hl := h.lt
  have H := Lib.hid h
  clear h
  go_enter Try.func85, Try.ntmps85
  go_wp2
  go_end0
  exact ⟨rfl, (H.out.set_ 0 _).set_ 1 _, ((Chg.refl _ _).setCell (.inl (by simp)) _).setCell (.inl (by simp)) _⟩

set_option maxHeartbeats 1000000 in
theorem late_any {w : World} {g : Nat} (b : BK) (h : Blk w g 137 (arrK b)) (hf0 : 0 ≤ b.failed) (hf1 : b.failed ≤ 1000000) :
    Calls Try.prog 57 #[.pointer (some ⟨g, 0, none⟩)] w fun e w' => e = .returned (.bool (lateB b).2) ∧ Blk w' g 137 (arrK (lateB b).1) ∧ Chg [g] w w' := by
  obtain ⟨nd, u, o, s, d, f, r⟩ := b
  simp only at hf0 hf1
  have c3 : w.cell? ⟨g, 3, none⟩ = some (.bool o) := h.cell 3
  cases o with
  | false =>
    have hv : Hid (lateB ⟨nd, u, false, s, d, f, r⟩ = (⟨nd, u, false, s, d, f, r⟩, false)) := Lib.hid (by simp [lateB])
    have H := Lib.hid h
    clear h
    go_enter Try.func57, Try.ntmps57
    go_wp2
    go_ret
    rw [hv.out]
    exact ⟨rfl, H.out, Chg.refl _ _⟩
  | true =>
    have F1 := Lib.hid (fail_any h hf0 hf1)
    by_cases hd : u = true ∧ 3 ≤ f + 1
    · obtain ⟨rfl, hd⟩ := hd
      have hv : Hid (lateB ⟨nd, true, true, s, d, f, r⟩ = (⟨nd, false, true, s, d, f + 1, 0⟩, true)) := Lib.hid (by simp [lateB, hd])
      have hlt : (f + 1 < 3) = False := by simp; omega
      clear h
      go_enter Try.func57, Try.ntmps57
      go_wp2_with fail
      refine F1.out.mono ?_
      rintro e w1 ⟨rfl, h1, hc1⟩
      have k0 : w1.cell? ⟨g, 0, none⟩ = some (.int .i64 (f + 1)) := h1.cell 0
      have k2 : w1.cell? ⟨g, 2, none⟩ = some (.bool true) := h1.cell 2
      have f2 := h1.frozen 2
      have hl1 := h1.lt
      have H := Lib.hid (And.intro h1 hc1)
      clear F1 h1 hc1 c3
      go_wp2_with fail
      go_ret
      rw [hv.out]
      exact ⟨rfl, H.out.1.set_ 2 _, H.out.2.setCell (.inl (by simp)) _⟩
    · have hv : Hid (lateB ⟨nd, u, true, s, d, f, r⟩ = (⟨nd, u, true, s, d, f + 1, 0⟩, false)) := Lib.hid (by simp [lateB]; intro h1; rcases Int.lt_or_le (f + 1) 3 with h2 | h2; exact h2; exact absurd ⟨h1, h2⟩ hd)
      cases u with
      | false =>
        clear h hd
        go_enter Try.func57, Try.ntmps57
        go_wp2_with fail
        refine F1.out.mono ?_
        rintro e w1 ⟨rfl, h1, hc1⟩
        have k0 : w1.cell? ⟨g, 0, none⟩ = some (.int .i64 (f + 1)) := h1.cell 0
        have k2 : w1.cell? ⟨g, 2, none⟩ = some (.bool false) := h1.cell 2
        have H := Lib.hid (And.intro h1 hc1)
        clear F1 h1 hc1 c3
        go_wp2_with fail
        go_ret
        rw [hv.out]
        exact ⟨rfl, H.out.1, H.out.2⟩
      | true =>
        have hlt : f + 1 < 3 := by
          rcases Int.lt_or_le (f + 1) 3 with h1 | h1
          · exact h1
          · exact absurd ⟨rfl, h1⟩ hd
        clear h hd
        go_enter Try.func57, Try.ntmps57
        go_wp2_with fail
        refine F1.out.mono ?_
        rintro e w1 ⟨rfl, h1, hc1⟩
        have k0 : w1.cell? ⟨g, 0, none⟩ = some (.int .i64 (f + 1)) := h1.cell 0
        have k2 : w1.cell? ⟨g, 2, none⟩ = some (.bool true) := h1.cell 2
        have H := Lib.hid (And.intro h1 hc1)
        clear F1 h1 hc1 c3
        go_wp2_with fail
        go_ret
        rw [hv.out]
        exact ⟨rfl, H.out.1, H.out.2⟩

set_option maxHeartbeats 1000000 in
theorem next_any {w : World} {g : Nat} (b : BK) (h : Blk w g 137 (arrK b)) (hs0 : 0 ≤ b.seq) (hs1 : b.seq ≤ 65535) :
    Calls Try.prog 58 #[.pointer (some ⟨g, 0, none⟩)] w fun e w' => e = .returned (.int .i64 (nextS b.seq)) ∧ Blk w' g 137 (arrK { b with seq := nextS b.seq, opn := true }) ∧ Chg [g] w w' := by
  obtain ⟨nd, u, o, s, d, f, r⟩ := b
  simp only at hs0 hs1 ⊢
  have c3 : w.cell? ⟨g, 3, none⟩ = some (.bool o) := h.cell 3
  have c4 : w.cell? ⟨g, 4, none⟩ = some (.int .i64 s) := h.cell 4
  have f3 := h.frozen 3
  have f4 := h.frozen 4
  have hl := h.lt
  have hn : s.tmod 65535 + 1 = nextS s := by
    rw [Int.tmod_eq_emod_of_nonneg hs0]
    unfold nextS
    split <;> omega
  have hn' : s % 65535 + 1 = nextS s := by
    unfold nextS
    split <;> omega
  have H := Lib.hid h
  clear h
  generalize nextS s = t at *
  go_enter Try.func58, Try.ntmps58
  go_wp2
  go_ret
  exact ⟨rfl, (H.out.set_ 4 _).set_ 3 _, ((Chg.refl _ _).setCell (.inl (by simp)) _).setCell (.inl (by simp)) _⟩
set_option maxHeartbeats 1000000 in
theorem heard_any {w : World} {g : Nat} (b : BK) (h : Blk w g 137 (arrK b)) (hf0 : 0 ≤ b.risen) (hf1 : b.risen ≤ 1000000) :
    Calls Try.prog 59 #[.pointer (some ⟨g, 0, none⟩)] w fun e w' => e = .returned (.bool (heardB b).2) ∧ Blk w' g 137 (arrK (heardB b).1) ∧ Chg [g] w w' := by
  obtain ⟨nd, u, o, s, d, f, r⟩ := b
  simp only at hf0 hf1
  have c3 : w.cell? ⟨g, 3, none⟩ = some (.bool o) := h.cell 3
  have f3 := h.frozen 3
  have hl := h.lt
  have hcS : Chg [g] w (w.setCell ⟨g, 3, none⟩ (.bool false)) := (Chg.refl _ _).setCell (.inl (by simp)) _
  have hS : Blk (w.setCell ⟨g, 3, none⟩ (.bool false)) g 137 #[.int .i64 f, .int .i64 r, .bool u, .bool false, .int .i64 s] := h.set_ 3 _
  have F1 := Lib.hid (rise_any hS hf0 hf1)
  have HC := Lib.hid hcS
  clear h hcS hS
  cases u with
  | true =>
    have hv : Hid (heardB ⟨nd, true, o, s, d, f, r⟩ = (⟨nd, true, false, s, d, 0, r + 1⟩, false)) := Lib.hid (by simp [heardB])
    go_enter Try.func59, Try.ntmps59
    go_wp2_with fail
    refine F1.out.mono ?_
    rintro e w1 ⟨rfl, h1, hc1⟩
    have k1 : w1.cell? ⟨g, 1, none⟩ = some (.int .i64 (r + 1)) := h1.cell 1
    have k2 : w1.cell? ⟨g, 2, none⟩ = some (.bool true) := h1.cell 2
    have H := Lib.hid (And.intro h1 hc1)
    clear F1 h1 hc1 c3 f3
    go_wp2_with fail
    go_ret
    rw [hv.out]
    exact ⟨rfl, H.out.1, HC.out.trans H.out.2⟩
  | false =>
    by_cases hd : 2 ≤ r + 1
    · have hv : Hid (heardB ⟨nd, false, o, s, d, f, r⟩ = (⟨nd, true, false, s, d, 0, r + 1⟩, true)) := Lib.hid (by simp [heardB, hd])
      have hlt : (r + 1 < 2) = False := by simp; omega
      go_enter Try.func59, Try.ntmps59
      go_wp2_with fail
      refine F1.out.mono ?_
      rintro e w1 ⟨rfl, h1, hc1⟩
      have k1 : w1.cell? ⟨g, 1, none⟩ = some (.int .i64 (r + 1)) := h1.cell 1
      have k2 : w1.cell? ⟨g, 2, none⟩ = some (.bool false) := h1.cell 2
      have f2 := h1.frozen 2
      have hl1 := h1.lt
      have H := Lib.hid (And.intro h1 hc1)
      clear F1 h1 hc1 c3 f3
      go_wp2_with fail
      go_ret
      rw [hv.out]
      exact ⟨rfl, H.out.1.set_ 2 _, (HC.out.trans H.out.2).setCell (.inl (by simp)) _⟩
    · have hv : Hid (heardB ⟨nd, false, o, s, d, f, r⟩ = (⟨nd, false, false, s, d, 0, r + 1⟩, false)) := Lib.hid (by simp [heardB]; omega)
      have hlt : r + 1 < 2 := by omega
      clear hd
      go_enter Try.func59, Try.ntmps59
      go_wp2_with fail
      refine F1.out.mono ?_
      rintro e w1 ⟨rfl, h1, hc1⟩
      have k1 : w1.cell? ⟨g, 1, none⟩ = some (.int .i64 (r + 1)) := h1.cell 1
      have k2 : w1.cell? ⟨g, 2, none⟩ = some (.bool false) := h1.cell 2
      have H := Lib.hid (And.intro h1 hc1)
      clear F1 h1 hc1 c3 f3
      go_wp2_with fail
      go_ret
      rw [hv.out]
      exact ⟨rfl, H.out.1, HC.out.trans H.out.2⟩
end Go.Proofs.Ytgbdbeaflilmlaa
