/-
  WALKS: which flow comes first: package flow's answer and the document's. Condition: each reads as a flow.
-/
import Derived.Test.YtldgdpekhjignaaGreatFlow
import Derived.Test.YtldgdpekhjignaaGreatRowQ
set_option linter.unusedVariables false
set_option linter.unusedSimpArgs false
namespace Go.Proofs.YtldgdpekhjignaaGreat
open Go.RowKit Go.Maps Go.Sort

def lessF (f g : Fl) : Bool := if f.src = g.src then (if f.sport = g.sport then (if f.dst = g.dst then decide (f.dport < g.dport) else lessA f.dst g.dst) else decide (f.sport < g.sport)) else lessA f.src g.src
theorem infA16 {A : Ad} : (Tryz.prog.info? 36).map (·.size) = some (arrA A).size := by
  show _ = some 16
  kernel_rfl
section
variable {w : World} {b : Nat} {t : TypeId} {f : Fl}
theorem fl_at (h : Blk w b t (arrF f)) (j : Nat) : w.cell? ⟨b, j, none⟩ = (encF f)[j]? := by
  have h' : Blk w b t (encF f).toArray := h
  rw [h'.cell j]; simp
theorem fl_src (h : Blk w b t (arrF f)) : w.rangeAt b 0 (arrA f.src).toList := fun j u hu => by
  rw [Nat.zero_add, fl_at h]
  have hj : j < 16 := (List.getElem?_eq_some_iff.1 hu).1
  have e : (arrA f.src).toList = encA f.src := rfl
  rw [e] at hu
  unfold encF
  rw [List.getElem?_append_left (by rw [encA_len]; exact hj)]
  exact hu
theorem fl_dst (h : Blk w b t (arrF f)) : w.rangeAt b 17 (arrA f.dst).toList := fun j u hu => by
  rw [fl_at h]
  have hj : j < 16 := (List.getElem?_eq_some_iff.1 hu).1
  have e : (arrA f.dst).toList = encA f.dst := rfl
  rw [e] at hu
  unfold encF
  rw [List.getElem?_append_right (by rw [encA_len]; omega), encA_len, show 17 + j - 16 = j + 1 by omega, List.getElem?_cons_succ, List.getElem?_append_left (by rw [encA_len]; exact hj)]
  exact hu
theorem fl_sport (h : Blk w b t (arrF f)) : w.cell? ⟨b, 16, none⟩ = some (.int .i64 f.sport) := h.cell 16
theorem fl_dport (h : Blk w b t (arrF f)) : w.cell? ⟨b, 33, none⟩ = some (.int .i64 f.dport) := h.cell 33
end
set_option maxRecDepth 100000 in
set_option maxHeartbeats 1000000 in
theorem flless_any {f g : Fl} (hf : okF f) (hg : okF g) (w : World) : Calls Tryz.prog 67 #[f.v, g.v] w fun e w' => e = .returned (.bool (lessF f g)) ∧ Gro w w' := by
  have h2 : Blk ((w.alloc (.cells (arrF f) 38)).alloc (.cells (arrF g) 38)) w.heap.size 38 (arrF f) := (Blk.new _ _ _).alloc _
  have h3 : Blk ((w.alloc (.cells (arrF f) 38)).alloc (.cells (arrF g) 38)) (w.heap.size + 1) 38 (arrF g) := Blk.new' (by simp)
  have HG := Lib.hid (((Gro.refl w).alloc (.cells (arrF f) 38)).alloc (.cells (arrF g) 38))
  obtain ⟨A, p, B, q⟩ := f
  obtain ⟨C, r, D, s⟩ := g
  have R1 := Lib.hid (fl_src h2)
  have R2 := Lib.hid (fl_src h3)
  have R3 := Lib.hid (fl_dst h2)
  have R4 := Lib.hid (fl_dst h3)
  have s1 := fl_sport h2
  have s2 := fl_sport h3
  have d1 := fl_dport h2
  have d2 := fl_dport h3
  obtain ⟨hA, _, hB, _⟩ := hf
  obtain ⟨hC, _, hD, _⟩ := hg
  have hE1 := fun W => eq_ad W hA hC
  have hE2 := fun W => eq_ad W hB hD
  have HLA := Lib.hid (fun W => less_any hA hC W)
  have HLB := Lib.hid (fun W => less_any hB hD W)
  have HLF : Hid (lessF ⟨A, p, B, q⟩ ⟨C, r, D, s⟩ = if A = C then (if p = r then (if B = D then decide (q < s) else lessA B D) else decide (p < r)) else lessA A C) := Lib.hid rfl
  simp only at R1 R2 R3 R4 s1 s2 d1 d2
  clear h2 h3 hA hB hC hD
  by_cases hac : A = C
  · have e1 : decide (A = C) = true := by simp [hac]
    simp only [e1] at hE1
    by_cases hpr : p = r
    · have b1 : (p != r) = false := by simp [hpr]
      by_cases hbd : B = D
      · have e2 : decide (B = D) = true := by simp [hbd]
        simp only [e2] at hE2
        have HV : Hid (lessF ⟨A, p, B, q⟩ ⟨C, r, D, s⟩ = decide (q < s)) := Lib.hid (by rw [HLF.out, if_pos hac, if_pos hpr, if_pos hbd])
        clear hac hpr hbd e1 e2
        go_enter Tryz.func67, Tryz.ntmps67
        go_wp2_with (first
        | (refine wpList_row 36 (.tmp 6) rfl rfl w.heap.size 0 rfl (arrA A) _ R1.out Tryz.underlying36 rfl infA16 ?_)
        | (refine wpList_row 36 (.tmp 8) rfl rfl (w.heap.size + 1) 0 rfl (arrA C) _ R2.out Tryz.underlying36 rfl infA16 ?_)
        | (refine wpList_row 36 (.tmp 11) rfl rfl w.heap.size 0 rfl (arrA A) _ R1.out Tryz.underlying36 rfl infA16 ?_)
        | (refine wpList_row 36 (.tmp 13) rfl rfl (w.heap.size + 1) 0 rfl (arrA C) _ R2.out Tryz.underlying36 rfl infA16 ?_)
        | (refine wpList_row 36 (.tmp 28) rfl rfl w.heap.size 17 rfl (arrA B) _ R3.out Tryz.underlying36 rfl infA16 ?_)
        | (refine wpList_row 36 (.tmp 30) rfl rfl (w.heap.size + 1) 17 rfl (arrA D) _ R4.out Tryz.underlying36 rfl infA16 ?_)
        | (refine wpList_row 36 (.tmp 33) rfl rfl w.heap.size 17 rfl (arrA B) _ R3.out Tryz.underlying36 rfl infA16 ?_)
        | (refine wpList_row 36 (.tmp 35) rfl rfl (w.heap.size + 1) 17 rfl (arrA D) _ R4.out Tryz.underlying36 rfl infA16 ?_)
        | fail)
        go_ret
        rw [HV.out]
        exact ⟨rfl, HG.out⟩
      · have e2 : decide (B = D) = false := by simp [hbd]
        simp only [e2] at hE2
        have HV : Hid (lessF ⟨A, p, B, q⟩ ⟨C, r, D, s⟩ = lessA B D) := Lib.hid (by rw [HLF.out, if_pos hac, if_pos hpr, if_neg hbd])
        clear hac hpr hbd e1 e2
        go_enter Tryz.func67, Tryz.ntmps67
        go_wp2_with (first
        | (refine wpList_row 36 (.tmp 6) rfl rfl w.heap.size 0 rfl (arrA A) _ R1.out Tryz.underlying36 rfl infA16 ?_)
        | (refine wpList_row 36 (.tmp 8) rfl rfl (w.heap.size + 1) 0 rfl (arrA C) _ R2.out Tryz.underlying36 rfl infA16 ?_)
        | (refine wpList_row 36 (.tmp 11) rfl rfl w.heap.size 0 rfl (arrA A) _ R1.out Tryz.underlying36 rfl infA16 ?_)
        | (refine wpList_row 36 (.tmp 13) rfl rfl (w.heap.size + 1) 0 rfl (arrA C) _ R2.out Tryz.underlying36 rfl infA16 ?_)
        | (refine wpList_row 36 (.tmp 28) rfl rfl w.heap.size 17 rfl (arrA B) _ R3.out Tryz.underlying36 rfl infA16 ?_)
        | (refine wpList_row 36 (.tmp 30) rfl rfl (w.heap.size + 1) 17 rfl (arrA D) _ R4.out Tryz.underlying36 rfl infA16 ?_)
        | (refine wpList_row 36 (.tmp 33) rfl rfl w.heap.size 17 rfl (arrA B) _ R3.out Tryz.underlying36 rfl infA16 ?_)
        | (refine wpList_row 36 (.tmp 35) rfl rfl (w.heap.size + 1) 17 rfl (arrA D) _ R4.out Tryz.underlying36 rfl infA16 ?_)
        | fail)
        refine (HLB.out _).mono ?_
        rintro e w1 ⟨rfl, hg1⟩
        go_wp2_with fail
        go_ret
        rw [HV.out]
        exact ⟨rfl, HG.out.trans hg1⟩
    · have b1 : (p != r) = true := by simp [hpr]
      have HV : Hid (lessF ⟨A, p, B, q⟩ ⟨C, r, D, s⟩ = decide (p < r)) := Lib.hid (by rw [HLF.out, if_pos hac, if_neg hpr])
      clear hac hpr e1
      go_enter Tryz.func67, Tryz.ntmps67
      go_wp2_with (first
        | (refine wpList_row 36 (.tmp 6) rfl rfl w.heap.size 0 rfl (arrA A) _ R1.out Tryz.underlying36 rfl infA16 ?_)
        | (refine wpList_row 36 (.tmp 8) rfl rfl (w.heap.size + 1) 0 rfl (arrA C) _ R2.out Tryz.underlying36 rfl infA16 ?_)
        | (refine wpList_row 36 (.tmp 11) rfl rfl w.heap.size 0 rfl (arrA A) _ R1.out Tryz.underlying36 rfl infA16 ?_)
        | (refine wpList_row 36 (.tmp 13) rfl rfl (w.heap.size + 1) 0 rfl (arrA C) _ R2.out Tryz.underlying36 rfl infA16 ?_)
        | (refine wpList_row 36 (.tmp 28) rfl rfl w.heap.size 17 rfl (arrA B) _ R3.out Tryz.underlying36 rfl infA16 ?_)
        | (refine wpList_row 36 (.tmp 30) rfl rfl (w.heap.size + 1) 17 rfl (arrA D) _ R4.out Tryz.underlying36 rfl infA16 ?_)
        | (refine wpList_row 36 (.tmp 33) rfl rfl w.heap.size 17 rfl (arrA B) _ R3.out Tryz.underlying36 rfl infA16 ?_)
        | (refine wpList_row 36 (.tmp 35) rfl rfl (w.heap.size + 1) 17 rfl (arrA D) _ R4.out Tryz.underlying36 rfl infA16 ?_)
        | fail)
      go_ret
      rw [HV.out]
      exact ⟨rfl, HG.out⟩
  · have e1 : decide (A = C) = false := by simp [hac]
    simp only [e1] at hE1
    have HV : Hid (lessF ⟨A, p, B, q⟩ ⟨C, r, D, s⟩ = lessA A C) := Lib.hid (by rw [HLF.out, if_neg hac])
    clear hac e1
    go_enter Tryz.func67, Tryz.ntmps67
    go_wp2_with (first
        | (refine wpList_row 36 (.tmp 6) rfl rfl w.heap.size 0 rfl (arrA A) _ R1.out Tryz.underlying36 rfl infA16 ?_)
        | (refine wpList_row 36 (.tmp 8) rfl rfl (w.heap.size + 1) 0 rfl (arrA C) _ R2.out Tryz.underlying36 rfl infA16 ?_)
        | (refine wpList_row 36 (.tmp 11) rfl rfl w.heap.size 0 rfl (arrA A) _ R1.out Tryz.underlying36 rfl infA16 ?_)
        | (refine wpList_row 36 (.tmp 13) rfl rfl (w.heap.size + 1) 0 rfl (arrA C) _ R2.out Tryz.underlying36 rfl infA16 ?_)
        | (refine wpList_row 36 (.tmp 28) rfl rfl w.heap.size 17 rfl (arrA B) _ R3.out Tryz.underlying36 rfl infA16 ?_)
        | (refine wpList_row 36 (.tmp 30) rfl rfl (w.heap.size + 1) 17 rfl (arrA D) _ R4.out Tryz.underlying36 rfl infA16 ?_)
        | (refine wpList_row 36 (.tmp 33) rfl rfl w.heap.size 17 rfl (arrA B) _ R3.out Tryz.underlying36 rfl infA16 ?_)
        | (refine wpList_row 36 (.tmp 35) rfl rfl (w.heap.size + 1) 17 rfl (arrA D) _ R4.out Tryz.underlying36 rfl infA16 ?_)
        | fail)
    refine (HLA.out _).mono ?_
    rintro e w1 ⟨rfl, hg1⟩
    go_wp2_with fail
    go_ret
    rw [HV.out]
    exact ⟨rfl, HG.out.trans hg1⟩
set_option maxRecDepth 100000 in
set_option maxHeartbeats 1000000 in
theorem flless14 {f g : Fl} (hf : okF f) (hg : okF g) (w : World) : Calls Tryz.prog 77 #[f.v, g.v] w fun e w' => e = .returned (.bool (lessF f g)) ∧ Gro w w' := by
  have h2 : Blk ((w.alloc (.cells (arrF f) 38)).alloc (.cells (arrF g) 38)) w.heap.size 38 (arrF f) := (Blk.new _ _ _).alloc _
  have h3 : Blk ((w.alloc (.cells (arrF f) 38)).alloc (.cells (arrF g) 38)) (w.heap.size + 1) 38 (arrF g) := Blk.new' (by simp)
  have HG := Lib.hid (((Gro.refl w).alloc (.cells (arrF f) 38)).alloc (.cells (arrF g) 38))
  obtain ⟨A, p, B, q⟩ := f
  obtain ⟨C, r, D, s⟩ := g
  have R1 := Lib.hid (fl_src h2)
  have R2 := Lib.hid (fl_src h3)
  have R3 := Lib.hid (fl_dst h2)
  have R4 := Lib.hid (fl_dst h3)
  have s1 := fl_sport h2
  have s2 := fl_sport h3
  have d1 := fl_dport h2
  have d2 := fl_dport h3
  obtain ⟨hA, _, hB, _⟩ := hf
  obtain ⟨hC, _, hD, _⟩ := hg
  have hE1 := fun W => eq_ad W hA hC
  have hE2 := fun W => eq_ad W hB hD
  have HLA := Lib.hid (fun W => less03 hA hC W)
  have HLB := Lib.hid (fun W => less03 hB hD W)
  have HLF : Hid (lessF ⟨A, p, B, q⟩ ⟨C, r, D, s⟩ = if A = C then (if p = r then (if B = D then decide (q < s) else lessA B D) else decide (p < r)) else lessA A C) := Lib.hid rfl
  simp only at R1 R2 R3 R4 s1 s2 d1 d2
  clear h2 h3 hA hB hC hD
  by_cases hac : A = C
  · have e1 : decide (A = C) = true := by simp [hac]
    simp only [e1] at hE1
    by_cases hpr : p = r
    · have b1 : (p != r) = false := by simp [hpr]
      by_cases hbd : B = D
      · have e2 : decide (B = D) = true := by simp [hbd]
        simp only [e2] at hE2
        have HV : Hid (lessF ⟨A, p, B, q⟩ ⟨C, r, D, s⟩ = decide (q < s)) := Lib.hid (by rw [HLF.out, if_pos hac, if_pos hpr, if_pos hbd])
        clear hac hpr hbd e1 e2
        go_enter Tryz.func77, Tryz.ntmps77
        go_wp2_with (first
        | (refine wpList_row 36 (.tmp 5) rfl rfl w.heap.size 0 rfl (arrA A) _ R1.out Tryz.underlying36 rfl infA16 ?_)
        | (refine wpList_row 36 (.tmp 7) rfl rfl (w.heap.size + 1) 0 rfl (arrA C) _ R2.out Tryz.underlying36 rfl infA16 ?_)
        | (refine wpList_row 36 (.tmp 10) rfl rfl w.heap.size 0 rfl (arrA A) _ R1.out Tryz.underlying36 rfl infA16 ?_)
        | (refine wpList_row 36 (.tmp 12) rfl rfl (w.heap.size + 1) 0 rfl (arrA C) _ R2.out Tryz.underlying36 rfl infA16 ?_)
        | (refine wpList_row 36 (.tmp 25) rfl rfl w.heap.size 17 rfl (arrA B) _ R3.out Tryz.underlying36 rfl infA16 ?_)
        | (refine wpList_row 36 (.tmp 27) rfl rfl (w.heap.size + 1) 17 rfl (arrA D) _ R4.out Tryz.underlying36 rfl infA16 ?_)
        | (refine wpList_row 36 (.tmp 30) rfl rfl w.heap.size 17 rfl (arrA B) _ R3.out Tryz.underlying36 rfl infA16 ?_)
        | (refine wpList_row 36 (.tmp 32) rfl rfl (w.heap.size + 1) 17 rfl (arrA D) _ R4.out Tryz.underlying36 rfl infA16 ?_)
        | fail)
        go_ret
        rw [HV.out]
        exact ⟨rfl, HG.out⟩
      · have e2 : decide (B = D) = false := by simp [hbd]
        simp only [e2] at hE2
        have HV : Hid (lessF ⟨A, p, B, q⟩ ⟨C, r, D, s⟩ = lessA B D) := Lib.hid (by rw [HLF.out, if_pos hac, if_pos hpr, if_neg hbd])
        clear hac hpr hbd e1 e2
        go_enter Tryz.func77, Tryz.ntmps77
        go_wp2_with (first
        | (refine wpList_row 36 (.tmp 5) rfl rfl w.heap.size 0 rfl (arrA A) _ R1.out Tryz.underlying36 rfl infA16 ?_)
        | (refine wpList_row 36 (.tmp 7) rfl rfl (w.heap.size + 1) 0 rfl (arrA C) _ R2.out Tryz.underlying36 rfl infA16 ?_)
        | (refine wpList_row 36 (.tmp 10) rfl rfl w.heap.size 0 rfl (arrA A) _ R1.out Tryz.underlying36 rfl infA16 ?_)
        | (refine wpList_row 36 (.tmp 12) rfl rfl (w.heap.size + 1) 0 rfl (arrA C) _ R2.out Tryz.underlying36 rfl infA16 ?_)
        | (refine wpList_row 36 (.tmp 25) rfl rfl w.heap.size 17 rfl (arrA B) _ R3.out Tryz.underlying36 rfl infA16 ?_)
        | (refine wpList_row 36 (.tmp 27) rfl rfl (w.heap.size + 1) 17 rfl (arrA D) _ R4.out Tryz.underlying36 rfl infA16 ?_)
        | (refine wpList_row 36 (.tmp 30) rfl rfl w.heap.size 17 rfl (arrA B) _ R3.out Tryz.underlying36 rfl infA16 ?_)
        | (refine wpList_row 36 (.tmp 32) rfl rfl (w.heap.size + 1) 17 rfl (arrA D) _ R4.out Tryz.underlying36 rfl infA16 ?_)
        | fail)
        refine (HLB.out _).mono ?_
        rintro e w1 ⟨rfl, hg1⟩
        go_wp2_with fail
        go_ret
        rw [HV.out]
        exact ⟨rfl, HG.out.trans hg1⟩
    · have b1 : (p != r) = true := by simp [hpr]
      have HV : Hid (lessF ⟨A, p, B, q⟩ ⟨C, r, D, s⟩ = decide (p < r)) := Lib.hid (by rw [HLF.out, if_pos hac, if_neg hpr])
      clear hac hpr e1
      go_enter Tryz.func77, Tryz.ntmps77
      go_wp2_with (first
        | (refine wpList_row 36 (.tmp 5) rfl rfl w.heap.size 0 rfl (arrA A) _ R1.out Tryz.underlying36 rfl infA16 ?_)
        | (refine wpList_row 36 (.tmp 7) rfl rfl (w.heap.size + 1) 0 rfl (arrA C) _ R2.out Tryz.underlying36 rfl infA16 ?_)
        | (refine wpList_row 36 (.tmp 10) rfl rfl w.heap.size 0 rfl (arrA A) _ R1.out Tryz.underlying36 rfl infA16 ?_)
        | (refine wpList_row 36 (.tmp 12) rfl rfl (w.heap.size + 1) 0 rfl (arrA C) _ R2.out Tryz.underlying36 rfl infA16 ?_)
        | (refine wpList_row 36 (.tmp 25) rfl rfl w.heap.size 17 rfl (arrA B) _ R3.out Tryz.underlying36 rfl infA16 ?_)
        | (refine wpList_row 36 (.tmp 27) rfl rfl (w.heap.size + 1) 17 rfl (arrA D) _ R4.out Tryz.underlying36 rfl infA16 ?_)
        | (refine wpList_row 36 (.tmp 30) rfl rfl w.heap.size 17 rfl (arrA B) _ R3.out Tryz.underlying36 rfl infA16 ?_)
        | (refine wpList_row 36 (.tmp 32) rfl rfl (w.heap.size + 1) 17 rfl (arrA D) _ R4.out Tryz.underlying36 rfl infA16 ?_)
        | fail)
      go_ret
      rw [HV.out]
      exact ⟨rfl, HG.out⟩
  · have e1 : decide (A = C) = false := by simp [hac]
    simp only [e1] at hE1
    have HV : Hid (lessF ⟨A, p, B, q⟩ ⟨C, r, D, s⟩ = lessA A C) := Lib.hid (by rw [HLF.out, if_neg hac])
    clear hac e1
    go_enter Tryz.func77, Tryz.ntmps77
    go_wp2_with (first
        | (refine wpList_row 36 (.tmp 5) rfl rfl w.heap.size 0 rfl (arrA A) _ R1.out Tryz.underlying36 rfl infA16 ?_)
        | (refine wpList_row 36 (.tmp 7) rfl rfl (w.heap.size + 1) 0 rfl (arrA C) _ R2.out Tryz.underlying36 rfl infA16 ?_)
        | (refine wpList_row 36 (.tmp 10) rfl rfl w.heap.size 0 rfl (arrA A) _ R1.out Tryz.underlying36 rfl infA16 ?_)
        | (refine wpList_row 36 (.tmp 12) rfl rfl (w.heap.size + 1) 0 rfl (arrA C) _ R2.out Tryz.underlying36 rfl infA16 ?_)
        | (refine wpList_row 36 (.tmp 25) rfl rfl w.heap.size 17 rfl (arrA B) _ R3.out Tryz.underlying36 rfl infA16 ?_)
        | (refine wpList_row 36 (.tmp 27) rfl rfl (w.heap.size + 1) 17 rfl (arrA D) _ R4.out Tryz.underlying36 rfl infA16 ?_)
        | (refine wpList_row 36 (.tmp 30) rfl rfl w.heap.size 17 rfl (arrA B) _ R3.out Tryz.underlying36 rfl infA16 ?_)
        | (refine wpList_row 36 (.tmp 32) rfl rfl (w.heap.size + 1) 17 rfl (arrA D) _ R4.out Tryz.underlying36 rfl infA16 ?_)
        | fail)
    refine (HLA.out _).mono ?_
    rintro e w1 ⟨rfl, hg1⟩
    go_wp2_with fail
    go_ret
    rw [HV.out]
    exact ⟨rfl, HG.out.trans hg1⟩
end Go.Proofs.YtldgdpekhjignaaGreat
