/-
  WALK: the example of the statements of chapter 17: a table of one member, and of none. No condition.
-/
import Derived.Test.YtecblclpchndiaaMagD
set_option linter.unusedVariables false
set_option linter.unusedSimpArgs false
namespace Go.Proofs.Ytecblclpchndiaa
open Go.RowKit

theorem ex_one {tl : List Int} {e : Int} (h : TB 0 0 3 [⟨7, 1⟩] tl e) : e = 0 ∧ tl.length = 3 ∧ tl.count 7 = 3 := by
  have hr : rightM [⟨7, 1⟩] = 0 := by decide
  rcases h with ⟨h1, _⟩ | ⟨_, h2, _⟩ | ⟨_, _, h3, L', h4, h5, h6⟩
  · exact absurd ⟨by omega, pr3⟩ h1
  · exact absurd hr h2
  · have hL : L' = [⟨7, 1⟩] := List.perm_singleton.1 h4
    subst hL
    subst h6
    have hR : roundM 0 0 3 [⟨7, 1⟩] = [(7, ordN 0 0 3 7)] := rfl
    refine ⟨h3, table_len _ _ _ _, ?_⟩
    have hc := table_count (ka := 0) (kb := 0) (m := 3) (L := [⟨7, 1⟩]) pr3 (by simp) (by rw [hR]; simp) (x := 7) (by omega)
    rw [hR] at hc
    exact hc
theorem ex_none {tl : List Int} {e : Int} (h : TB 0 0 3 [] tl e) : e = 0 ∧ tl.length = 3 ∧ tl.count 0 = 3 := by
  have hr : rightM [] = 0 := by decide
  rcases h with ⟨h1, _⟩ | ⟨_, h2, _⟩ | ⟨_, _, h3, L', h4, h5, h6⟩
  · exact absurd ⟨by omega, pr3⟩ h1
  · exact absurd hr h2
  · have hL : L' = [] := List.perm_nil.1 h4
    subst hL
    subst h6
    have hR : roundM 0 0 3 [] = [] := rfl
    refine ⟨h3, table_len _ _ _ _, ?_⟩
    have e : tableS 0 0 3 [] = List.replicate 3 0 := by
      unfold tableS
      rw [hR, turnsS_none]
      rfl
    show (tableS 0 0 3 []).count 0 = 3
    rw [e]
    rfl

set_option maxRecDepth 100000 in
set_option maxHeartbeats 2000000 in
theorem lives17_any (w : World) : Calls Try.prog 8 #[] w fun e w' => e = .returned (.bool true) ∧ Chg [] w w' := by
  have hA := (Chg.refl [] w).alloc (.cells #[.int .i64 7, .int .i64 1] 37)
  have hs : SlM (w.alloc (.cells #[.int .i64 7, .int .i64 1] 37)) w.heap.size (.slice (some ⟨w.heap.size, 0, none⟩) 1 1) [⟨7, 1⟩] :=
    Sl.of_own (own_lit (base := w.heap.size) w 37 2 1 #[.int .i64 7, .int .i64 1] (Nat.le_refl _) (by simp [maxLen]) rfl)
  have HA := Lib.hid hA
  have F1 := Lib.hid (build_any 0 0 3 hs (by simp))
  clear hA hs
  go_enter Try.func8, Try.ntmps8
  go_wp2_with fail
  refine F1.out.mono ?_
  rintro e w1 ⟨v1, c1, rfl, hb1, hc1⟩
  obtain ⟨tl, hst, htb⟩ := hb1.tb
  obtain ⟨rfl, hln, hct⟩ := ex_one htb
  have HC1 := Lib.hid (HA.out.trans hc1)
  have F2 := Lib.hid (build_any 0 0 3 (w := w1) (B := 0) (v := .slice none 0 0) (L := []) (Sl.nil _ _ _) (by simp))
  clear hb1 htb hc1 F1 HA
  obtain ⟨A1, c1, rfl⟩ := Sl.form hst
  have HST := Lib.hid hst
  clear hst
  go_wp2_with fail
  refine F2.out.mono ?_
  rintro e w2 ⟨v2, c2, rfl, hb2, hc2⟩
  obtain ⟨tl2, hst2, htb2⟩ := hb2.tb
  obtain ⟨rfl, hln2, hct2⟩ := ex_none htb2
  have HC2 := Lib.hid (HC1.out.trans hc2)
  have F3 := Lib.hid (count_slots (HST.out.chg0 hc2) (by omega) 7)
  have F4 := Lib.hid (count_slots hst2 (by omega) 0)
  rw [hct] at F3
  rw [hct2] at F4
  clear hb2 htb2 hc2 F2 HC1 HST hct hct2
  rw [hln] at F3
  obtain ⟨A2, c2, rfl⟩ := Sl.form hst2
  rw [hln2] at F4 ⊢
  have hs3 : SlM (w2.alloc (.cells #[.int .i64 0, .int .i64 0] 37)) w2.heap.size (.slice (some ⟨w2.heap.size, 0, none⟩) 1 1) [⟨0, 0⟩] :=
    Sl.of_own (own_lit (base := w2.heap.size) w2 37 2 1 #[.int .i64 0, .int .i64 0] (Nat.le_refl _) (by simp [maxLen]) rfl)
  have F5 := Lib.hid (right_any hs3 (by simp))
  have hr5 : rightM [⟨0, 0⟩] = 2 := by decide
  rw [hr5] at F5
  have HC3 := Lib.hid (HC2.out.alloc (.cells #[.int .i64 0, .int .i64 0] 37))
  clear hs3 hst2 hr5 HC2 hln hln2
  go_wp2_with fail
  refine F3.out.mono ?_
  rintro e w3 ⟨rfl, rfl⟩
  go_wp2_with fail
  refine F4.out.mono ?_
  rintro e w3 ⟨rfl, rfl⟩
  go_wp2_with fail
  refine F5.out.mono ?_
  rintro e w3 ⟨rfl, hc5⟩
  go_wp2_with fail
  go_ret
  exact ⟨rfl, HC3.out.trans hc5⟩
end Go.Proofs.Ytecblclpchndiaa
