/-
  WALK: ScriptReads. Condition: Gl.
-/
import Derived.Test.YtljgemknccodeaaDoorScS
set_option linter.unusedVariables false
set_option linter.unusedSimpArgs false
namespace Go.Proofs.YtljgemknccodeaaDoor
open Go.RowKit

theorem readR_len : ∀ (ps : List Bs) (i : Nat) (l : List St), readR i ps = .inr l → l.length ≤ ps.length
  | [], i, l, h => by simp [readR] at h; subst h; simp
  | p :: r, i, l, h => by
    rw [readR] at h
    split at h
    · have := readR_len r _ _ h; simp; omega
    · cases hp : lineP p with
      | none => rw [hp] at h; cases h
      | some s =>
        rw [hp] at h
        simp only at h
        cases hr : readR (i + 1) r with
        | inl n => rw [hr] at h; cases h
        | inr x =>
          rw [hr] at h
          simp only [Sum.inr.injEq] at h
          subst h
          have := readR_len r _ _ hr
          simp
          omega
set_option maxRecDepth 100000 in
set_option maxHeartbeats 8000000 in
theorem reads46 (T : Bs) {w : World} (hg : Gl w) : Calls Tryd.prog 3 #[str T] w fun e w' => e = .returned (.bool true) ∧ Chg [] w w' := by
  have hsz := bsA_size T
  by_cases h2 : 2000 < T.length
  · have hc : (2000 : Int) < (T.length : Int) := by omega
    have F := Lib.hid (lives46 hg)
    clear hg
    go_enter Tryd.func3, Tryd.ntmps3
    go_wp2_with fail
    refine F.out.mono ?_
    rintro e w1 ⟨rfl, hc1⟩
    have HC1 := Lib.hid hc1
    clear hc1 F
    go_wp2_with fail
    go_ret
    exact ⟨rfl, HC1.out⟩
  have hc : ¬ (2000 : Int) < (T.length : Int) := by omega
  have hT : T.length ≤ 1000000 := by omega
  have F1 := Lib.hid (read_any T hT hg)
  have HG := Lib.hid hg
  clear hg
  go_enter Tryd.func3, Tryd.ntmps3
  go_wp2_with fail
  refine F1.out.mono ?_
  rintro e w1 ⟨v1, n1, er1, ea, rfl, hca, hA, hSA, hc1⟩
  have HC1 := Lib.hid hc1
  clear hc1 F1
  go_wp2_with fail
  refine (read46_any T hT w1).mono ?_
  rintro e w2 ⟨v2, n2, er2, eb, rfl, hcb, hB, hSB, hc2⟩
  have HAB : Hid ((SlT w2 0 v1 ea ∧ SlT w2 0 v2 eb) ∧ (StsR w2 [] ea ∧ StsR w2 [] eb)) := Lib.hid ⟨⟨Sl.chg0 hA hc2, hB⟩, hSA.chg0 hc2, hSB⟩
  have HC2 := Lib.hid (HC1.out.trans hc2)
  obtain ⟨rfl, rfl, heq⟩ : n1 = n2 ∧ er1 = er2 ∧ ea.map (·.1) = eb.map (·.1) := by
    rcases hca with ⟨h1, h3, h5⟩ | ⟨h1, ⟨m, h3, h5⟩, h6⟩ <;> rcases hcb with ⟨k1, k3, k5⟩ | ⟨k1, ⟨m', k3, k5⟩, k6⟩
    · rw [h5] at k5; injection k5 with k5; exact ⟨by rw [h3, k3], by rw [h1, k1], k5⟩
    · rw [h5] at k5; cases k5
    · rw [h5] at k5; cases k5
    · rw [h5] at k5; injection k5 with k5; exact ⟨by rw [h3, k3, k5], by rw [h1, k1], by rw [h6, k6]⟩
  have HEQ := Lib.hid heq
  have HLA : Hid (ea.length ≤ 1000000) := Lib.hid (by
    rcases hca with ⟨_, _, h5⟩ | ⟨_, _, h6⟩
    · have h7 := readR_len _ _ _ h5
      have h8 := spl_len 10 T
      rw [List.length_map] at h7
      omega
    · rw [h6]; simp)
  clear hca hcb hA hB hSA hSB hc2 HC1 heq
  go_wp2_with fail
  refine (line_any T hT (HG.out.chg HC2.out)).mono ?_
  rintro e w3 ⟨s, v3, er3, rfl, hcs, hY3, hc3⟩
  obtain ⟨A3, c3, rfl⟩ := Sl.form hY3
  have HC3 := Lib.hid (HC2.out.trans hc3)
  have HAB3 : Hid ((SlT w3 0 v1 ea ∧ SlT w3 0 v2 eb) ∧ (StsR w3 [] ea ∧ StsR w3 [] eb)) := Lib.hid ⟨⟨Sl.chg0 HAB.out.1.1 hc3, Sl.chg0 HAB.out.1.2 hc3⟩, HAB.out.2.1.chg0 hc3, HAB.out.2.2.chg0 hc3⟩
  have HY3 := Lib.hid hY3
  clear hY3 hc3 HC2 HAB
  go_upto_region 6 with (first
    | (refine wpList_store_blk (vs := arrSt s (.slice A3 s.b.length c3)) rfl 32 (.tmp 9) (.tmp 32) rfl rfl (Blk.new _ _ _) rfl rfl rfl (by kernel_rfl) rfl ?_; intro w4 hB4 hc4)
    | fail)
  have hcA : Chg [] w3 w4 := ((Chg.refl [] w3).alloc _).trans' hc4 (by intro x hx; simp at hx; subst hx; exact .inr (Nat.le_refl _))
  have HC4 := Lib.hid (HC3.out.trans hcA)
  have HAB4 : Hid ((SlT w4 0 v1 ea ∧ SlT w4 0 v2 eb) ∧ (StsR w4 [] ea ∧ StsR w4 [] eb)) := Lib.hid ⟨⟨Sl.chg0 HAB3.out.1.1 hcA, Sl.chg0 HAB3.out.1.2 hcA⟩, HAB3.out.2.1.chg0 hcA, HAB3.out.2.2.chg0 hcA⟩
  have HY4 := Lib.hid (Sl.chg0 HY3.out hcA)
  clear hc4 hcA HC3 HAB3 HY3
  go_wp2_with fail
  refine (line46_any T hT w4).mono ?_
  rintro e w5 ⟨s', v5, er5, rfl, hct, hY5, hc5⟩
  obtain ⟨rfl, rfl⟩ : s' = s ∧ er5 = er3 := by
    rcases hcs with ⟨h1, h3⟩ | ⟨h1, h3, h5⟩ <;> rcases hct with ⟨k1, k3⟩ | ⟨k1, k3, k5⟩
    · rw [h3] at k3; cases k3; exact ⟨rfl, by rw [h1, k1]⟩
    · rw [h3] at k3; cases k3
    · rw [h3] at k3; cases k3
    · exact ⟨by rw [h5, k5], by rw [h1, k1]⟩
  obtain ⟨A5, c5, rfl⟩ := Sl.form hY5
  have HC5 := Lib.hid (HC4.out.trans hc5)
  have HAB5 : Hid ((SlT w5 0 v1 ea ∧ SlT w5 0 v2 eb) ∧ (StsR w5 [] ea ∧ StsR w5 [] eb)) := Lib.hid ⟨⟨Sl.chg0 HAB4.out.1.1 hc5, Sl.chg0 HAB4.out.1.2 hc5⟩, HAB4.out.2.1.chg0 hc5, HAB4.out.2.2.chg0 hc5⟩
  have HY5a := Lib.hid (Sl.chg0 HY4.out hc5)
  have HY5b := Lib.hid hY5
  have HB5 := Lib.hid (hB4.chg hc5 (by simp))
  clear hY5 hc5 HC4 HAB4 HY4 hB4 hcs hct
  go_upto_region 7 with (first
    | (refine wpList_store_blk (vs := arrSt s' (.slice A5 s'.b.length c5)) rfl 35 (.tmp 11) (.tmp 37) rfl rfl (Blk.new _ _ _) rfl rfl rfl (by kernel_rfl) rfl ?_; intro w6 hB6 hc6)
    | fail)
  have hcA : Chg [] w5 w6 := ((Chg.refl [] w5).alloc _).trans' hc6 (by intro x hx; simp at hx; subst hx; exact .inr (Nat.le_refl _))
  have HC6 := Lib.hid (HC5.out.trans hcA)
  have HAB6 : Hid ((SlT w6 0 v1 ea ∧ SlT w6 0 v2 eb) ∧ (StsR w6 [] ea ∧ StsR w6 [] eb)) := Lib.hid ⟨⟨Sl.chg0 HAB5.out.1.1 hcA, Sl.chg0 HAB5.out.1.2 hcA⟩, HAB5.out.2.1.chg0 hcA, HAB5.out.2.2.chg0 hcA⟩
  have HYa := Lib.hid (Sl.chg0 HY5a.out hcA)
  have HYb := Lib.hid (Sl.chg0 HY5b.out hcA)
  have HBa := Lib.hid (HB5.out.chg hcA (by simp))
  have HBb := Lib.hid hB6
  clear hc6 hcA HC5 HAB5 HY5a HY5b HB5 hB6
  go_wp2_with fail
  refine (same_true HAB6.out.1.1 HAB6.out.1.2 HAB6.out.2.1 HAB6.out.2.2 HEQ.out HLA.out).mono ?_
  rintro e w7 ⟨rfl, hc7⟩
  have hBa := HBa.out.chg hc7 (by simp)
  have hBb := HBb.out.chg hc7 (by simp)
  have HC7 := Lib.hid (HC6.out.trans hc7)
  have FS := Lib.hid (Same_true (Sl.chg0 HYa.out hc7) (Sl.chg0 HYb.out hc7))
  clear hc7 HYa HYb HBa HBb HAB6
  have ra := hBa.rangeQ
  have rb := hBb.rangeQ
  have hlv := Lib.hid (fun W (hW : Chg [] w W) => lives46 (HG.out.chg hW))
  generalize hg9 : w3.heap.size = g9 at *
  generalize hg11 : w5.heap.size = g11 at *
  clear hg9 hg11 HG HEQ HLA
  go_wp2_with (first
    | (refine wpList_row 32 (.tmp 9) rfl rfl g9 0 rfl (arrSt s' (.slice A3 s'.b.length c3)) _ ra Tryd.underlying32 rfl infS ?_)
    | (refine wpList_row 35 (.tmp 11) rfl rfl g11 0 rfl (arrSt s' (.slice A5 s'.b.length c5)) _ rb Tryd.underlying35 rfl infS46 ?_)
    | fail)
  refine FS.out.mono ?_
  rintro e w8 ⟨rfl, hc8⟩
  have HC8 := Lib.hid (HC7.out.trans hc8)
  clear hc8 FS ra rb
  go_wp2_with fail
  refine (hlv.out w8 HC8.out).mono ?_
  rintro e w9 ⟨rfl, hc9⟩
  have HC9 := Lib.hid (HC8.out.trans hc9)
  clear hc9 hlv
  go_wp2_with fail
  go_ret
  exact ⟨rfl, HC9.out⟩
end Go.Proofs.YtljgemknccodeaaDoor
