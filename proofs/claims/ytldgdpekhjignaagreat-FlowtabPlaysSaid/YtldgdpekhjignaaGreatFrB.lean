/-
  WALKS: the document's tick of the flow table; a call in both answers side by side. Conditions: the table is one that New made, and its numbers are not great.
-/
import Derived.Test.YtldgdpekhjignaaGreatFrA
import Derived.Test.YtldgdpekhjignaaGreatFlowRefW
import Derived.Test.YtldgdpekhjignaaGreatFtO
import Derived.Test.YtldgdpekhjignaaGreatFtRc
set_option linter.unusedVariables false
set_option linter.unusedSimpArgs false
namespace Go.Proofs.YtldgdpekhjignaaGreat.Ft
open Go.RowKit Go.Maps

theorem gone_snoc {now : Int} {L : List En} {e : En} : goneF now (L ++ [e]) = if e.til ≤ now + 1 then goneF now L ++ [e.fl] else goneF now L := by
  unfold goneF
  rw [List.filter_append]
  by_cases h : e.til ≤ now + 1 <;> simp [h]
theorem rest_snoc {now : Int} {L : List En} {e : En} : restF now (L ++ [e]) = if e.til ≤ now + 1 then restF now L else restF now L ++ [e] := by
  unfold restF
  rw [List.filter_append]
  by_cases h : e.til ≤ now + 1 <;> simp [h]
theorem rest_len (now : Int) (L : List En) : (restF now L).length ≤ L.length := List.length_filter_le _ _
set_option maxRecDepth 100000 in
set_option maxHeartbeats 4000000 in
theorem rtick_any {w : World} {v : Value} {n : Nat} {s : Sx} (h : RL w v s.L) (hS : okS n s) :
    Calls Tryz.prog 35 #[.agg (arrR n s.now v s.c)] w fun e w' => ∃ v' vg o, e = .returned (.tuple #[.agg (arrR n (tickS s).now v' (tickS s).c), vg]) ∧ RL w' v' (tickS s).L ∧ SrtF o ∧ (∀ x, x ∈ o ↔ x ∈ goneF s.now s.L) ∧ Sl w' w.heap.size 34 vg o.length (o.flatMap encF) ∧ Chg [] w w' := by
  obtain ⟨A, cp, rfl⟩ := h.form
  have hlen : s.L.length ≤ 64 := by have := hS.len; have := hS.hi; omega
  have hA2 := ((Chg.refl [] w).alloc (.cells (arrR n s.now (.slice A s.L.length cp) s.c) 51)).alloc (.cells (arrR 0 0 (.slice none 0 0) ⟨0, 0, 0, 0, 0, 0⟩) 51)
  have hBp2 : Blk ((w.alloc (.cells (arrR n s.now (.slice A s.L.length cp) s.c) 51)).alloc (.cells (arrR 0 0 (.slice none 0 0) ⟨0, 0, 0, 0, 0, 0⟩) 51)) w.heap.size 51 (arrR n s.now (.slice A s.L.length cp) s.c) := (Blk.new _ _ _).alloc _
  have hBr2 : Blk ((w.alloc (.cells (arrR n s.now (.slice A s.L.length cp) s.c) 51)).alloc (.cells (arrR 0 0 (.slice none 0 0) ⟨0, 0, 0, 0, 0, 0⟩) 51)) (w.heap.size + 1) 51 (arrR 0 0 (.slice none 0 0) ⟨0, 0, 0, 0, 0, 0⟩) := Blk.new' (by simp)
  have hRL2 := h.chg0 hA2
  have HI := Lib.hid (And.intro hA2 (And.intro hBp2 (And.intro hBr2 hRL2)))
  have HS := Lib.hid hS
  have hwn : IntKind.i64.wrap (s.now + 1) = s.now + 1 := by have := hS.now; rw [IntKind.wrap_i64]; omega
  clear h hA2 hBp2 hBr2 hRL2 hS
  generalize hM : s.L.length = M at *
  have HM := Lib.hid hM
  clear hM
  go_enter Tryz.func35, Tryz.ntmps35
  go_upto_region 1 with fail
  obtain ⟨hA2, hBp2, hBr2, hRL2⟩ := HI.out
  generalize hw2 : ((w.alloc (.cells (arrR n s.now (.slice A M cp) s.c) 51)).alloc (.cells (arrR 0 0 (.slice none 0 0) ⟨0, 0, 0, 0, 0, 0⟩) 51)) = w2 at *
  generalize hgp : w.heap.size = gp at *
  clear hw2 HI
  have c1 : w2.cell? ⟨gp, 1, none⟩ = some (.int .i64 s.now) := hBp2.cell 1
  have f1 := hBp2.frozen 1
  have h3 : Chg [gp] w2 (w2.setCell ⟨gp, 1, none⟩ (.int .i64 (s.now + 1))) := (Chg.refl _ _).setCell (p := ⟨gp, 1, none⟩) (.inl (by simp)) _
  have hBp3 : Blk (w2.setCell ⟨gp, 1, none⟩ (.int .i64 (s.now + 1))) gp 51 (arrR n (s.now + 1) (.slice A M cp) s.c) := hBp2.set_ 1 (.int .i64 (s.now + 1))
  have HBr3 := Lib.hid (hBr2.chg h3 (by simp))
  have HR3 := Lib.hid (hRL2.far hBp2 tR_ne h3)
  have HC3 := Lib.hid (hA2.trans' h3 (by intro y hy; simp at hy; subst hy; exact .inr (by omega)))
  have HBp3 := Lib.hid hBp3
  clear hA2 hBp2 hBr2 hRL2 h3 hBp3
  go_upto_region 2 with fail
  generalize (w2.setCell ⟨gp, 1, none⟩ (.int .i64 (s.now + 1))) = w3 at *
  clear c1 f1
  have hz3 : gp ≤ w3.heap.size := by have := HC3.out.size; omega
  go_wp2_with fail
  go_loopw [4, 5, 6] (fun gv rv iv wr => ∃ i : Nat, i ≤ M ∧ iv = .int .i64 i ∧ Hid (wr.ownsRow w3.heap.size 38 34 gv (goneF s.now (s.L.take i)).length ((goneF s.now (s.L.take i)).flatMap encF)) ∧ Hid (wr.ownsRow w3.heap.size 54 37 rv (restF s.now (s.L.take i)).length ((restF s.now (s.L.take i)).flatMap encE)) ∧ Hid (Chg [] w3 wr)) (fun _ _ iv _ => M - (intOf iv).toNat)
  case atStart => exact ⟨0, by omega, rfl, Lib.hid (by simpa [goneF] using World.ownsRow_nil ..), Lib.hid (by simpa [restF] using World.ownsRow_nil ..), Lib.hid (Chg.refl _ _)⟩
  case round =>
    obtain ⟨i, hiM, rfl, HG, HQ, HC⟩ := hrel
    have hBp := HBp3.out.chg HC.out (by simp)
    have c2 : wr.cell? ⟨gp, 2, none⟩ = some (.slice A M cp) := hBp.cell 2
    by_cases hlt : i < M
    · have hex : s.L[i]? = some (s.L[i]'(by have := HM.out; omega)) := List.getElem?_eq_getElem _
      generalize (s.L[i]'(by have := HM.out; omega)) = e at hex
      obtain ⟨b, o, rfl, hre⟩ := (HR3.out.chg0 HC.out).one hex
      have hiI : (i : Int) < (M : Int) := by omega
      have hTK := Lib.hid (take_snoc hex)
      have htl : (s.L.take i).length ≤ 64 := by have h1 := HM.out; rw [List.length_take]; omega
      have hgl : (goneF s.now (s.L.take i)).length ≤ 64 := Nat.le_trans (goneF_len _ _) htl
      have hrl : (restF s.now (s.L.take i)).length ≤ 64 := Nat.le_trans (rest_len _ _) htl
      have HW := Lib.hid (fun W (hc : Chg [] wr W) => rangeAt_chg hre hc (by simp))
      have H2 : Hid (∀ W, Chg [] wr W → W.cell? ⟨gp, 2, none⟩ = some (.slice (some ⟨b, o, none⟩) M cp)) := Lib.hid (fun W hc => (hBp.chg hc (by simp)).cell 2)
      have H1 : Hid (∀ W, Chg [] wr W → W.cell? ⟨gp, 1, none⟩ = some (.int .i64 (s.now + 1))) := Lib.hid (fun W hc => (hBp.chg hc (by simp)).cell 1)
      have H36 : Hid (∀ W, Chg [] wr W → W.cell? ⟨b, o + i * 37 + 36, none⟩ = some (.int .i64 e.til)) := Lib.hid (fun W hc => HW.out W hc 36 _ rfl)
      clear hBp hex hre
      by_cases hd : e.til ≤ s.now + 1
      · have hGS : Hid (goneF s.now (s.L.take (i + 1)) = goneF s.now (s.L.take i) ++ [e.fl] ∧ restF s.now (s.L.take (i + 1)) = restF s.now (s.L.take i)) := Lib.hid (by rw [hTK.out, gone_snoc, rest_snoc, if_pos hd, if_pos hd]; exact ⟨rfl, rfl⟩)
        go_upto_region 7 with fail
        clear c2
        refine wp_region_chg (by kernel_rfl) (by kernel_rfl) ?_
        (with_reducible refine wpQuiet_pure (v := ?_) ?_ (fun w => ?_) ?_); rotate_left; (focus rfl); (focus (go_simp <;> with_reducible rfl)); (try simp only [List.getElem_toArray, List.getElem_cons_succ, List.getElem_cons_zero, Act.put, List.setIfInBounds_toArray, List.set_cons_zero, List.set_cons_succ])
        (with_reducible refine wpQuiet_cellC 48 (.tmp 18) ?_ ?_ gp 2 ?_ (.slice (some ⟨b, o, none⟩) M cp) _ H2.out Tryz.underlying48 ?_ ?_); (focus rfl); (focus rfl); (focus rfl); (focus rfl); (try simp only [List.getElem_toArray, List.getElem_cons_succ, List.getElem_cons_zero, Act.put, List.setIfInBounds_toArray, List.set_cons_zero, List.set_cons_succ])
        (with_reducible refine wpQuiet_pure (v := ?_) ?_ (fun w => ?_) ?_); rotate_left; (focus rfl); (focus (go_simp <;> with_reducible rfl)); (try simp only [List.getElem_toArray, List.getElem_cons_succ, List.getElem_cons_zero, Act.put, List.setIfInBounds_toArray, List.set_cons_zero, List.set_cons_succ])
        (with_reducible refine wpQuiet_pure (v := ?_) ?_ (fun w => ?_) ?_); rotate_left; (focus rfl); (focus (go_simp <;> with_reducible rfl)); (try simp only [List.getElem_toArray, List.getElem_cons_succ, List.getElem_cons_zero, Act.put, List.setIfInBounds_toArray, List.set_cons_zero, List.set_cons_succ])
        (with_reducible refine wpQuiet_pure (v := ?_) ?_ (fun w => ?_) ?_); rotate_left; (focus rfl); (focus (go_simp <;> with_reducible rfl)); (try simp only [List.getElem_toArray, List.getElem_cons_succ, List.getElem_cons_zero, Act.put, List.setIfInBounds_toArray, List.set_cons_zero, List.set_cons_succ])
        (with_reducible refine wpQuiet_cellC 3 (.tmp 22) ?_ ?_ b (o + i * 37 + 36) ?_ (.int .i64 e.til) _ H36.out Tryz.underlying3 ?_ ?_); (focus rfl); (focus rfl); (focus rfl); (focus rfl); (try simp only [List.getElem_toArray, List.getElem_cons_succ, List.getElem_cons_zero, Act.put, List.setIfInBounds_toArray, List.set_cons_zero, List.set_cons_succ])
        (with_reducible refine wpQuiet_pure (v := ?_) ?_ (fun w => ?_) ?_); rotate_left; (focus rfl); (focus (go_simp <;> with_reducible rfl)); (try simp only [List.getElem_toArray, List.getElem_cons_succ, List.getElem_cons_zero, Act.put, List.setIfInBounds_toArray, List.set_cons_zero, List.set_cons_succ])
        (with_reducible refine wpQuiet_cellC 3 (.tmp 24) ?_ ?_ gp 1 ?_ (.int .i64 (s.now + 1)) _ H1.out Tryz.underlying3 ?_ ?_); (focus rfl); (focus rfl); (focus rfl); (focus rfl); (try simp only [List.getElem_toArray, List.getElem_cons_succ, List.getElem_cons_zero, Act.put, List.setIfInBounds_toArray, List.set_cons_zero, List.set_cons_succ])
        (with_reducible refine wpQuiet_pure (v := ?_) ?_ (fun w => ?_) ?_); rotate_left; (focus rfl); (focus (go_simp <;> with_reducible rfl)); (try simp only [List.getElem_toArray, List.getElem_cons_succ, List.getElem_cons_zero, Act.put, List.setIfInBounds_toArray, List.set_cons_zero, List.set_cons_succ])
        refine wpQuiet_nil ?_
        intro w5 hc5
        have c2 := H2.out w5 hc5
        have hrf := rgE_fl (HW.out w5 hc5)
        have hA := (Chg.refl [] w5).alloc (.cells (arrF e.fl) 38)
        have hG5 := own_chg HG.out hc5 (by simp)
        have HR1 := Lib.hid (own_chg hG5 hA (by simp))
        have HS1 : Hid (Sl (w5.alloc (.cells (arrF e.fl) 38)) 0 34 (.slice (some ⟨w5.heap.size, 0, none⟩) 1 1) 1 (encF e.fl)) := Lib.hid (Sl.of_own (own_lit (base := 0) w5 38 34 1 (arrF e.fl) (Nat.zero_le _) (by simp [maxLen]) rfl))
        have HCA := Lib.hid ((HC.out.trans hc5).trans hA)
        have HQ5 := Lib.hid (own_chg (own_chg HQ.out hc5 (by simp)) hA (by simp))
        have hws : w3.heap.size ≤ (w5.alloc (.cells (arrF e.fl) 38)).heap.size := HCA.out.size
        have HLG := Lib.hid (own_lt hG5)
        have HTG := Lib.hid (own_tag HR1.out)
        have HTQ := Lib.hid (own_tag HQ5.out)
        clear hc5 hA hG5 HG HQ H1 H2 H36 HW hd
        generalize hgle : (goneF s.now (s.L.take i)).length = gl at *
        have HGL := Lib.hid hgle
        clear hgle
        go_wp2_with (first
          | (refine wpList_row 38 (.tmp 32) rfl rfl b (o + i * 37) rfl (arrF e.fl) _ hrf Tryz.underlying38 rfl infF ?_)
          | (at_builtin; refine wpList_app elFl rfl (.tmp 27) (.tmp 34) rfl w3.heap.size rfl HR1.out rfl HS1.out (encF_one _) (by unfold maxLen; omega) (by omega) hws ?_; intro v6 w6 hown6 hc6 hb6; have HC6 := Lib.hid (HCA.out.trans' hc6 (fun y hy => .inr (HLG.out y hy).1)); have HQ6 := Lib.hid (own_chg HQ5.out hc6 (fun y hy hm => by have h1 := HTQ.out y hy; have h2 := HTG.out y hm; rw [h1] at h2; exact absurd h2 (by decide))); have HO6 := Lib.hid hown6; clear hown6 hc6 hb6)
          | fail)
        go_roundw
        case rel => exact ⟨i + 1, by omega, by go_num, Lib.hid (by rw [hGS.out.1, List.flatMap_append, List.flatMap_cons, List.flatMap_nil, List.append_nil, List.length_append, HGL.out]; exact HO6.out), Lib.hid (by rw [hGS.out.2]; exact HQ6.out), HC6⟩
        case measure => simp [intOf]; omega
      · have hGS : Hid (goneF s.now (s.L.take (i + 1)) = goneF s.now (s.L.take i) ∧ restF s.now (s.L.take (i + 1)) = restF s.now (s.L.take i) ++ [e]) := Lib.hid (by rw [hTK.out, gone_snoc, rest_snoc, if_neg hd, if_neg hd]; exact ⟨rfl, rfl⟩)
        go_upto_region 7 with fail
        clear c2
        refine wp_region_chg (by kernel_rfl) (by kernel_rfl) ?_
        (with_reducible refine wpQuiet_pure (v := ?_) ?_ (fun w => ?_) ?_); rotate_left; (focus rfl); (focus (go_simp <;> with_reducible rfl)); (try simp only [List.getElem_toArray, List.getElem_cons_succ, List.getElem_cons_zero, Act.put, List.setIfInBounds_toArray, List.set_cons_zero, List.set_cons_succ])
        (with_reducible refine wpQuiet_cellC 48 (.tmp 18) ?_ ?_ gp 2 ?_ (.slice (some ⟨b, o, none⟩) M cp) _ H2.out Tryz.underlying48 ?_ ?_); (focus rfl); (focus rfl); (focus rfl); (focus rfl); (try simp only [List.getElem_toArray, List.getElem_cons_succ, List.getElem_cons_zero, Act.put, List.setIfInBounds_toArray, List.set_cons_zero, List.set_cons_succ])
        (with_reducible refine wpQuiet_pure (v := ?_) ?_ (fun w => ?_) ?_); rotate_left; (focus rfl); (focus (go_simp <;> with_reducible rfl)); (try simp only [List.getElem_toArray, List.getElem_cons_succ, List.getElem_cons_zero, Act.put, List.setIfInBounds_toArray, List.set_cons_zero, List.set_cons_succ])
        (with_reducible refine wpQuiet_pure (v := ?_) ?_ (fun w => ?_) ?_); rotate_left; (focus rfl); (focus (go_simp <;> with_reducible rfl)); (try simp only [List.getElem_toArray, List.getElem_cons_succ, List.getElem_cons_zero, Act.put, List.setIfInBounds_toArray, List.set_cons_zero, List.set_cons_succ])
        (with_reducible refine wpQuiet_pure (v := ?_) ?_ (fun w => ?_) ?_); rotate_left; (focus rfl); (focus (go_simp <;> with_reducible rfl)); (try simp only [List.getElem_toArray, List.getElem_cons_succ, List.getElem_cons_zero, Act.put, List.setIfInBounds_toArray, List.set_cons_zero, List.set_cons_succ])
        (with_reducible refine wpQuiet_cellC 3 (.tmp 22) ?_ ?_ b (o + i * 37 + 36) ?_ (.int .i64 e.til) _ H36.out Tryz.underlying3 ?_ ?_); (focus rfl); (focus rfl); (focus rfl); (focus rfl); (try simp only [List.getElem_toArray, List.getElem_cons_succ, List.getElem_cons_zero, Act.put, List.setIfInBounds_toArray, List.set_cons_zero, List.set_cons_succ])
        (with_reducible refine wpQuiet_pure (v := ?_) ?_ (fun w => ?_) ?_); rotate_left; (focus rfl); (focus (go_simp <;> with_reducible rfl)); (try simp only [List.getElem_toArray, List.getElem_cons_succ, List.getElem_cons_zero, Act.put, List.setIfInBounds_toArray, List.set_cons_zero, List.set_cons_succ])
        (with_reducible refine wpQuiet_cellC 3 (.tmp 24) ?_ ?_ gp 1 ?_ (.int .i64 (s.now + 1)) _ H1.out Tryz.underlying3 ?_ ?_); (focus rfl); (focus rfl); (focus rfl); (focus rfl); (try simp only [List.getElem_toArray, List.getElem_cons_succ, List.getElem_cons_zero, Act.put, List.setIfInBounds_toArray, List.set_cons_zero, List.set_cons_succ])
        (with_reducible refine wpQuiet_pure (v := ?_) ?_ (fun w => ?_) ?_); rotate_left; (focus rfl); (focus (go_simp <;> with_reducible rfl)); (try simp only [List.getElem_toArray, List.getElem_cons_succ, List.getElem_cons_zero, Act.put, List.setIfInBounds_toArray, List.set_cons_zero, List.set_cons_succ])
        refine wpQuiet_nil ?_
        intro w5 hc5
        have c2 := H2.out w5 hc5
        have hrf := HW.out w5 hc5
        have hA := (Chg.refl [] w5).alloc (.cells (arrE e) 54)
        have hG5 := own_chg HQ.out hc5 (by simp)
        have HR1 := Lib.hid (own_chg hG5 hA (by simp))
        have HS1 : Hid (Sl (w5.alloc (.cells (arrE e) 54)) 0 37 (.slice (some ⟨w5.heap.size, 0, none⟩) 1 1) 1 (encE e)) := Lib.hid (Sl.of_own (own_lit (base := 0) w5 54 37 1 (arrE e) (Nat.zero_le _) (by simp [maxLen]) rfl))
        have HCA := Lib.hid ((HC.out.trans hc5).trans hA)
        have HQ5 := Lib.hid (own_chg (own_chg HG.out hc5 (by simp)) hA (by simp))
        have hws : w3.heap.size ≤ (w5.alloc (.cells (arrE e) 54)).heap.size := HCA.out.size
        have HLG := Lib.hid (own_lt hG5)
        have HTG := Lib.hid (own_tag HR1.out)
        have HTQ := Lib.hid (own_tag HQ5.out)
        clear hc5 hA hG5 HG HQ H1 H2 H36 HW hd
        generalize hrle : (restF s.now (s.L.take i)).length = gl at *
        have HGL := Lib.hid hrle
        clear hrle
        go_wp2_with (first
          | (refine wpList_row 54 (.tmp 40) rfl rfl b (o + i * 37) rfl (arrE e) _ hrf Tryz.underlying54 rfl infE2 ?_)
          | (at_builtin; refine wpList_app elEr rfl (.tmp 36) (.tmp 42) rfl w3.heap.size rfl HR1.out rfl HS1.out (encE_one _) (by unfold maxLen; omega) (by omega) hws ?_; intro v6 w6 hown6 hc6 hb6; have HC6 := Lib.hid (HCA.out.trans' hc6 (fun y hy => .inr (HLG.out y hy).1)); have HQ6 := Lib.hid (own_chg HQ5.out hc6 (fun y hy hm => by have h1 := HTQ.out y hy; have h2 := HTG.out y hm; rw [h1] at h2; exact absurd h2 (by decide))); have HO6 := Lib.hid hown6; clear hown6 hc6 hb6)
          | fail)
        go_roundw
        case rel => exact ⟨i + 1, by omega, by go_num, Lib.hid (by rw [hGS.out.1]; exact HQ6.out), Lib.hid (by rw [hGS.out.2, List.flatMap_append, List.flatMap_cons, List.flatMap_nil, List.append_nil, List.length_append, HGL.out]; exact HO6.out), HC6⟩
        case measure => simp [intOf]; omega
    · obtain rfl : i = M := by omega
      have htk : s.L.take i = s.L := List.take_of_length_le (Nat.le_of_eq HM.out)
      rw [htk] at HG HQ
      have HBp := Lib.hid hBp
      have hBr := HBr3.out.chg HC.out (by simp)
      have HCW := Lib.hid (HC3.out.trans HC.out)
      have hgl : (goneF s.now s.L).length ≤ 64 := Nat.le_trans (goneF_len _ _) (by rw [HM.out]; exact hlen)
      have hx4 := HS.out.c.expired
      have hwe : IntKind.i64.wrap (s.c.expired + ((goneF s.now s.L).length : Int)) = s.c.expired + ((goneF s.now s.L).length : Int) := by unfold bN at hx4; rw [IntKind.wrap_i64]; omega
      have HOKG : Hid (∀ x ∈ goneF s.now s.L, okF x) := Lib.hid (fun x hx => by
        unfold goneF at hx
        obtain ⟨e, he, rfl⟩ := List.mem_map.1 hx
        exact (HS.out.ok e (List.mem_filter.1 he).1).fl)
      obtain ⟨A4, cp4, rfl⟩ := Sl.form (Sl.of_own HG.out)
      obtain ⟨A5, cp5, rfl⟩ := Sl.form (Sl.of_own HQ.out)
      have HLQ := Lib.hid (own_lt HQ.out)
      have HLG := Lib.hid (own_lt HG.out)
      have hl3 := HBp3.out.lt
      have f2 := hBp.frozen 2
      have c7 : wr.cell? ⟨gp, 7, none⟩ = some (.int .i64 s.c.expired) := hBp.cell 7
      have f7 := hBp.frozen 7
      have h5 : Chg [gp] wr (wr.setCell ⟨gp, 2, none⟩ (.slice A5 (restF s.now s.L).length cp5)) := (Chg.refl _ _).setCell (p := ⟨gp, 2, none⟩) (.inl (by simp)) _
      have hBp5 := hBp.set_ 2 (.slice A5 (restF s.now s.L).length cp5)
      have hBr5 := hBr.far (p := ⟨gp, 2, none⟩) (by simp) (.slice A5 (restF s.now s.L).length cp5)
      have c75 := hBp5.cell 7
      have f75 := hBp5.frozen 7
      have h6 : Chg [gp] wr ((wr.setCell ⟨gp, 2, none⟩ (.slice A5 (restF s.now s.L).length cp5)).setCell ⟨gp, 7, none⟩ (.int .i64 (s.c.expired + ((goneF s.now s.L).length : Int)))) := h5.setCell (p := ⟨gp, 7, none⟩) (.inl (by simp)) _
      have hBp6 : Blk ((wr.setCell ⟨gp, 2, none⟩ (.slice A5 (restF s.now s.L).length cp5)).setCell ⟨gp, 7, none⟩ (.int .i64 (s.c.expired + ((goneF s.now s.L).length : Int)))) gp 51 (arrR n (s.now + 1) (.slice A5 (restF s.now s.L).length cp5) { s.c with expired := s.c.expired + ((goneF s.now s.L).length : Int) }) := hBp5.set_ 7 (.int .i64 (s.c.expired + ((goneF s.now s.L).length : Int)))
      have hBr6 := hBr5.far (p := ⟨gp, 7, none⟩) (by simp) (.int .i64 (s.c.expired + ((goneF s.now s.L).length : Int)))
      have HQ6 := Lib.hid (own_chg HQ.out h6 (fun y hy hm => by simp at hm; have := (HLQ.out y hy).1; omega))
      have HG6 := Lib.hid (own_chg HG.out h6 (fun y hy hm => by simp at hm; have := (HLG.out y hy).1; omega))
      have HC6 := Lib.hid (HCW.out.trans' h6 (by intro y hy; simp at hy; subst hy; exact .inr (by omega)))
      obtain ⟨ce, hce⟩ : ∃ ce : Cn, ce = { s.c with expired := s.c.expired + ((goneF s.now s.L).length : Int) } := ⟨_, rfl⟩
      rw [← hce] at hBp6
      have HCE : Hid ((tickS s).c = ce ∧ (tickS s).L = restF s.now s.L ∧ (tickS s).now = s.now + 1) := Lib.hid ⟨by rw [hce]; rfl, rfl, rfl⟩
      have HS6 := Lib.hid (And.intro hBp6 hBr6)
      clear h5 h6 hBp hBp5 hBr hBr5 hBp6 hBr6 HQ HG hce HCW htk
      go_upto_region 12 with fail
      generalize ((wr.setCell ⟨gp, 2, none⟩ (.slice A5 (restF s.now s.L).length cp5)).setCell ⟨gp, 7, none⟩ (.int .i64 (s.c.expired + ((goneF s.now s.L).length : Int)))) = w7 at *
      clear c7 f7 c75 f75 f2 c2
      have hS0 : (fun W : World => Blk W gp 51 (arrR n (s.now + 1) (.slice A5 (restF s.now s.L).length cp5) ce)) w7.drew := HS6.out.1.drew
      have HS1 : ∀ W : World, (fun W : World => Blk W gp 51 (arrR n (s.now + 1) (.slice A5 (restF s.now s.L).length cp5) ce)) W → W.rangeAt gp 0 (arrR n (s.now + 1) (.slice A5 (restF s.now s.L).length cp5) ce).toList := fun W h => h.rangeQ
      have HBr := Lib.hid (HS6.out.2.drew)
      have HC7 := Lib.hid (HC6.out.drew)
      have HQ7 : Hid (RL w7.drew (.slice A5 (restF s.now s.L).length cp5) (restF s.now s.L)) := Lib.hid (own_base (own_chg HQ6.out (Chg.refl [] w7).drew (by simp)) (Nat.zero_le _))
      have FS := Lib.hid (fsort14_any (w := w7.drew) (v := .slice A4 (goneF s.now s.L).length cp4) (l := goneF s.now s.L) ((Sl.of_own (own_chg HG6.out (Chg.refl [] w7).drew (by simp))).less (Nat.zero_le _)) (by omega) HOKG.out)
      have hgw : gp ≤ w7.drew.heap.size := by have := HC7.out.size; omega
      clear HS6 HC6 HQ6 HG6 HLQ HLG
      refine wp_region_noPanic ?_
      refine wp_region_held_drew (S := fun W : World => Blk W gp 51 (arrR n (s.now + 1) (.slice A5 (restF s.now s.L).length cp5) ce)) (by kernel_rfl) hS0 (fun _ => ?_)
      generalize w7.drew = w8 at *
      refine wpAnyH_take (i := 0) rfl (by kernel_rfl) (by kernel_rfl) (by kernel_rfl) (fun _ _ _ h => h) (yields_row (by rfl) 51 (.tmp 1) rfl gp 0 rfl (arrR n (s.now + 1) (.slice A5 (restF s.now s.L).length cp5) ce) _ HS1 Tryz.underlying51 rfl infR) (by with_reducible assumption) ?_
      try simp only [List.getElem_toArray, List.getElem_cons_succ, List.getElem_cons_zero, Act.put, List.setIfInBounds_toArray, List.set_cons_zero, List.set_cons_succ]
      refine wpAnyH_take (i := 1) (v := ?_) rfl (by kernel_rfl) (by kernel_rfl) (by kernel_rfl) (fun _ _ _ h => h) (yields_pure (by rfl) (fun w => ?_)) (by with_reducible assumption) ?_
      rotate_left
      · (go_simp <;> with_reducible rfl)
      try simp only [List.getElem_toArray, List.getElem_cons_succ, List.getElem_cons_zero, Act.put, List.setIfInBounds_toArray, List.set_cons_zero, List.set_cons_succ]
      refine wpAnyH_ready (rs := [2]) (by kernel_rfl) (by simp) (AllReadyH.cons rfl (fun K hK => ?_) AllReadyH.nil)
      go_simp
      refine FS.out.mono ?_
      rintro e' w9 ⟨v9, o9, rfl, hs9, hm9, hsl9, hc9⟩
      have hS9 : (fun W : World => Blk W gp 51 (arrR n (s.now + 1) (.slice A5 (restF s.now s.L).length cp5) ce)) w9 := hS0.chg hc9 (by simp)
      have HB9 := Lib.hid (HBr.out.chg hc9 (by simp))
      have HC9 := Lib.hid (HC7.out.trans hc9)
      have HQ9 := Lib.hid (HQ7.out.chg0 hc9)
      have HO9 := Lib.hid (And.intro hs9 (And.intro hm9 hsl9))
      have hgz : gp + 1 < w8.heap.size := HBr.out.lt
      clear hs9 hm9 hsl9 hc9
      refine hK.out _ _ (by with_reducible assumption) (fun _ => ?_)
      clear hK K
      try simp only [List.getElem_toArray, List.getElem_cons_succ, List.getElem_cons_zero, Act.put, List.setIfInBounds_toArray, List.set_cons_zero, List.set_cons_succ]
      refine wpAnyH_ready (rs := [3]) (by kernel_rfl) (by simp) (AllReadyH.cons rfl (fun K hK => ?_) AllReadyH.nil)
      refine step_store_blk (vs := arrR n (s.now + 1) (.slice A5 (restF s.now s.L).length cp5) ce) rfl 51 (.tmp 2) (.tmp 54) rfl HB9.out rfl rfl rfl infR arrR_one ?_
      intro w10 hB10 hc10
      have hS10 : (fun W : World => Blk W gp 51 (arrR n (s.now + 1) (.slice A5 (restF s.now s.L).length cp5) ce)) w10 := hS9.chg hc10 (by simp)
      refine hK.out _ _ (by with_reducible assumption) (fun _ => ?_)
      clear hK K
      try simp only [List.getElem_toArray, List.getElem_cons_succ, List.getElem_cons_zero, Act.put, List.setIfInBounds_toArray, List.set_cons_zero, List.set_cons_succ]
      refine wpAnyH_take (i := 4) (v := ?_) rfl (by kernel_rfl) (by kernel_rfl) (by kernel_rfl) (fun _ _ _ h => h) (yields_pure (by rfl) (fun w => ?_)) (by with_reducible assumption) ?_
      rotate_left
      · (go_simp <;> with_reducible rfl)
      try simp only [List.getElem_toArray, List.getElem_cons_succ, List.getElem_cons_zero, Act.put, List.setIfInBounds_toArray, List.set_cons_zero, List.set_cons_succ]
      refine wpAnyH_done (by kernel_rfl) ?_ _
      refine NoPanic.normal ?_
      have HFIN : Hid (RL w10 (.slice A5 (restF s.now s.L).length cp5) (restF s.now s.L) ∧ SrtF o9 ∧ (∀ x, x ∈ o9 ↔ x ∈ goneF s.now s.L) ∧ Sl w10 gp 34 v9 o9.length (o9.flatMap encF) ∧ Chg [] w w10) := Lib.hid ⟨HQ9.out.far HB9.out tR_ne hc10, HO9.out.1, HO9.out.2.1, (HO9.out.2.2.chg hc10 (by intro y hy; simp at hy; omega)).less hgw, HC9.out.trans' hc10 (by intro y hy; simp at hy; subst hy; exact .inr (by omega))⟩
      clear hS0 hS9 hS10 HS1 FS hc10
      go_wp2_with fail
      refine bodyPost_ret (results_blk2 rfl rfl hB10 _ Tryz.underlying51 rfl (by kernel_rfl)) rfl ?_
      rw [HCE.out.1, HCE.out.2.1, HCE.out.2.2, hgp]
      exact ⟨_, _, o9, rfl, HFIN.out⟩
end Go.Proofs.YtldgdpekhjignaaGreat.Ft
namespace Go.Proofs.YtldgdpekhjignaaGreat.Ft
open Go.RowKit Go.Maps

section
variable {w : World} {B : Bx} {n : Nat} {ka kb : Int} {J : Jx} {I : In} {s s' : Sx} {F : List Nat} {k k' tb : Nat} {v : Value} {L : List En}
/-- A row of the document's entries lies apart from a table. -/
theorem MemJ.en_ne (h : MemJ w B n ka kb J I) (ho : RL w v L) : ∀ x ∈ v.ownBlock.toList, x ∉ footT B J := by
  intro x hx hm
  have ht := own_tag ho x hx
  obtain ⟨t1, t2, t3, t4, t5, t6, t7, t8, t9⟩ := h.tags
  rcases mem_footT.1 hm with hm | hm | hm
  · rcases mem_fixB.1 hm with rfl | rfl | rfl | rfl | rfl | rfl | rfl | rfl | rfl
    all_goals first | rw [t1] at ht | rw [t2] at ht | rw [t3] at ht | rw [t4] at ht | rw [t5] at ht | rw [t6] at ht | rw [t7] at ht | rw [t8] at ht | rw [t9] at ht
    all_goals exact absurd ht (by decide)
  · rw [h.tag_f x hm] at ht
    exact absurd ht (by decide)
  · have h2 := h.tag_w x hm
    rw [ht] at h2
    exact absurd h2 (by decide)
theorem FT.en_ne (h : FT w tb n F k s) (ho : RL w v L) : ∀ x ∈ v.ownBlock.toList, x ∉ F := by
  obtain ⟨B, ka, kb, J, I, h1, h2, h3, h4, h5, rfl, h7⟩ := h
  exact h2.en_ne ho
theorem RL.fts {w2 : World} (h : RL w v L) (hF : FT w tb n F k s) (hT : FTs w w2 tb n F k' s') : RL w2 v L := by
  obtain ⟨F', _, hc, _⟩ := hT
  exact h.chg hc (hF.en_ne h)
theorem FTs.blk {w2 : World} {g g0 : Nat} {t : TypeId} {cs : Array Value} (hT : FTs w w2 tb n F k' s') (hlo : ∀ x ∈ F, x < g0) (hB : Blk w g t cs) (hg : g0 ≤ g) : Blk w2 g t cs := by
  obtain ⟨F', _, hc, _⟩ := hT
  exact hB.chg hc (fun hm => by have := hlo _ hm; omega)
theorem FTs.later {w0 w2 w3 : World} {S : List Nat} (h0 : Chg [] w0 w) (hT : FTs w w2 tb n F k s) (hlo : ∀ x ∈ F, x < w0.heap.size) (hc : Chg S w2 w3) (hS : ∀ x ∈ S, w0.heap.size ≤ x ∧ (x < w.heap.size ∨ w2.heap.size ≤ x)) : FTs w0 w3 tb n F k s := by
  obtain ⟨F', hF, hcf, hn⟩ := hT
  refine ⟨F', hF.chg hc (fun x hx hm => ?_), ((h0.more (by simp) : Chg F w0 w).trans hcf).trans' hc (fun x hx => .inr (hS x hx).1), fun x hx => (hn x hx).imp id (fun hh => ?_)⟩
  · have h1 := hS x hx
    have h2 := hF.lt x hm
    rcases hn x hm with h3 | h3
    · have := hlo x h3
      omega
    · omega
  · have := h0.size
    omega
theorem FT.okS (h : FT w tb n F k s) (hn0 : 0 ≤ s.now) (hn1 : s.now ≤ 100000) (hC : bC s.c) : okS n s := ⟨h.nd, h.len.1, h.len.2.2, h.len.2.1, fun e he => (h.ok e he).1, ⟨hn0, hn1⟩, hC⟩
theorem look_now (s : Sx) (f : Fl) (fl : Int) : (lookS s f fl).1.now = s.now := by
  unfold lookS
  repeat' split
  all_goals rfl
theorem pend_now (n : Nat) (s : Sx) (f : Fl) : (pendS n s f).1.now = s.now := by
  unfold pendS
  repeat' split
  all_goals rfl
theorem learn_now (n : Nat) (s : Sx) (f : Fl) (x : Int) : (learnS n s f x).1.now = s.now := by
  unfold learnS
  repeat' split
  all_goals rfl
theorem forget_now (s : Sx) (f : Fl) : (forgetS s f).1.now = s.now := by
  unfold forgetS
  repeat' split
  all_goals rfl
end
set_option maxRecDepth 100000 in
set_option maxHeartbeats 4000000 in
theorem rcall_look {w : World} {tb n : Nat} {F : List Nat} {k : Nat} {s : Sx} {v : Value} (h : FT w tb n F k s) (hR : RL w v s.L) {o : Op6} (ho : okO6 o) (hn0 : 0 ≤ s.now) (hn1 : s.now ≤ 100000) (hk : k < 10000) (hC : bC s.c) (hr : o.kind.tmod 9 = 0 ∨ o.kind.tmod 9 = 1) :
    Calls Tryz.prog 14 #[.pointer (some ⟨tb, 0, none⟩), .agg (arrR n s.now v s.c), .agg (arrO o)] w fun e w' =>
      ∃ v', e = .returned (.tuple #[.agg (arrR n (lookS s o.f o.n).1.now v' (lookS s o.f o.n).1.c), .bool true]) ∧ RL w' v' (lookS s o.f o.n).1.L ∧ FTs w w' tb n F (k + 1) (lookS s o.f o.n).1 := by
  have hS := h.okS hn0 hn1 hC
  obtain ⟨A, cp, rfl⟩ := hR.form
  have hA1 := (((Chg.refl [] w).alloc (.cells (arrR n s.now (.slice A s.L.length cp) s.c) 51)).alloc (.cells (arrO o) 40)).alloc (.cells (arrR 0 0 (.slice none 0 0) ⟨0, 0, 0, 0, 0, 0⟩) 51)
  have hBp : Blk (((w.alloc (.cells (arrR n s.now (.slice A s.L.length cp) s.c) 51)).alloc (.cells (arrO o) 40)).alloc (.cells (arrR 0 0 (.slice none 0 0) ⟨0, 0, 0, 0, 0, 0⟩) 51)) w.heap.size 51 (arrR n s.now (.slice A s.L.length cp) s.c) := ((Blk.new _ _ _).alloc _).alloc _
  have hBo : Blk (((w.alloc (.cells (arrR n s.now (.slice A s.L.length cp) s.c) 51)).alloc (.cells (arrO o) 40)).alloc (.cells (arrR 0 0 (.slice none 0 0) ⟨0, 0, 0, 0, 0, 0⟩) 51)) (w.heap.size + 1) 40 (arrO o) := (Blk.new' (by simp)).alloc _
  have hBr : Blk (((w.alloc (.cells (arrR n s.now (.slice A s.L.length cp) s.c) 51)).alloc (.cells (arrO o) 40)).alloc (.cells (arrR 0 0 (.slice none 0 0) ⟨0, 0, 0, 0, 0, 0⟩) 51)) (w.heap.size + 1 + 1) 51 (arrR 0 0 (.slice none 0 0) ⟨0, 0, 0, 0, 0, 0⟩) := Blk.new' (by simp)
  have HF1 := Lib.hid (h.chg0 hA1)
  have HR1 := Lib.hid (hR.chg0 hA1)
  have HLO := Lib.hid h.lt
  have HS := Lib.hid hS
  have HC1 := Lib.hid hA1
  have HB := Lib.hid (And.intro hBp (And.intro hBo hBr))
  have HOK := Lib.hid ho
  have HBD := Lib.hid (And.intro hn0 (And.intro hn1 (And.intro hk hC)))
  have c0 := hBo.cell 0
  have c35 := hBo.cell 35
  simp only [List.getElem?_toArray, List.getElem?_cons_succ, List.getElem?_cons_zero] at c0 c35
  have hro := opflow hBo.rangeQ
  have hrp := hBp.rangeQ
  have HSZ := Lib.hid hBr.lt
  clear h hR hA1 hBp hBo hBr hS ho hC hn0 hn1 hk
  generalize hM : s.L.length = M at *
  clear hM
  go_enter Tryz.func14, Tryz.ntmps14
  go_upto_region 1 with fail
  generalize hw1 : (((w.alloc (.cells (arrR n s.now (.slice A M cp) s.c) 51)).alloc (.cells (arrO o) 40)).alloc (.cells (arrR 0 0 (.slice none 0 0) ⟨0, 0, 0, 0, 0, 0⟩) 51)) = w1 at *
  generalize hgp : w.heap.size = gp at *
  clear hw1
  have FL := Lib.hid (look_any HF1.out HOK.out.2.1 o.n HBD.out.1 HBD.out.2.1 HBD.out.2.2.1 HBD.out.2.2.2)
  rcases hr with hr | hr
  all_goals
    go_wp2_with (first
      | (refine wpList_row 38 (.tmp 31) rfl rfl (gp + 1) 1 rfl (arrF o.f) _ hro Tryz.underlying38 rfl infF ?_)
      | fail)
    refine FL.out.mono ?_
    rintro e w2 ⟨rfl, hT2⟩
    have HT2 := Lib.hid hT2
    have hbo2 := hT2.blk HLO.out HB.out.2.1 (by omega)
    have hrp := (hT2.blk HLO.out HB.out.1 (Nat.le_refl _)).rangeQ
    have HBR2 := Lib.hid (hT2.blk HLO.out HB.out.2.2 (by omega))
    have hro2 := opflow hbo2.rangeQ
    have c35' := hbo2.cell 35
    simp only [List.getElem?_toArray, List.getElem?_cons_succ, List.getElem?_cons_zero] at c35'
    have HR2 := Lib.hid (HR1.out.fts HF1.out hT2)
    have FR := Lib.hid (rlook_any HR2.out HS.out HOK.out.2.1 o.n)
    have hlt2 := HBR2.out.lt
    clear hT2 hbo2 c0 c35 hro FL
    go_wp2_with (first
      | (refine wpList_row 51 (.tmp 4) rfl rfl gp 0 rfl (arrR n s.now (.slice A M cp) s.c) _ hrp Tryz.underlying51 rfl infR ?_)
      | (refine wpList_row 38 (.tmp 40) rfl rfl (gp + 1) 1 rfl (arrF o.f) _ hro2 Tryz.underlying38 rfl infF ?_)
      | fail)
    refine FR.out.mono ?_
    rintro e w3 ⟨v3, rfl, hr3, hc3⟩
    obtain ⟨A3, c3, rfl⟩ := hr3.form
    have HR3 := Lib.hid hr3
    have HC3 := Lib.hid hc3
    have HNOW := Lib.hid (look_now s o.f o.n)
    clear hr3 hc3 FR hro2 hrp c35'
    generalize hQ : (lookS s o.f o.n) = Q at *
    have HQ := Lib.hid hQ
    clear hQ
    obtain ⟨s2, qn, qb⟩ := Q
    simp only at *
    have hB3 : Blk (w3.alloc (.cells (arrR 0 0 (.slice none 0 0) ⟨0, 0, 0, 0, 0, 0⟩) 51)) w3.heap.size 51 (arrR 0 0 (.slice none 0 0) ⟨0, 0, 0, 0, 0, 0⟩) := Blk.new _ _ _
    have HRA := Lib.hid (HR3.out.chg0 ((Chg.refl [] w3).alloc (.cells (arrR 0 0 (.slice none 0 0) ⟨0, 0, 0, 0, 0, 0⟩) 51)))
    go_wp2_with (first
      | (refine wpList_store_blk (vs := arrR n s.now (.slice A3 s2.L.length c3) s2.c) rfl 51 (.tmp 10) (.tmp 45) rfl rfl hB3 rfl rfl rfl infR arrR_one ?_; intro w4 hB4 hc4; have HC4 : Hid (Chg [] w2 w4) := Lib.hid ((HC3.out.trans ((Chg.refl [] w3).alloc _)).trans' hc4 (by intro y hy; simp at hy; subst hy; exact .inr HC3.out.size)); have hrq := hB4.rangeQ; have HB4 := Lib.hid hB4; have hBR4 := HBR2.out.chg HC4.out (by simp); have HR4 := Lib.hid (HRA.out.far hB3 tR_ne hc4); clear hc4 hB4)
      | (refine wpList_row 51 (.tmp 10) rfl rfl w3.heap.size 0 rfl (arrR n s.now (.slice A3 s2.L.length c3) s2.c) _ hrq Tryz.underlying51 rfl infR ?_)
      | (refine wpList_store_blk (vs := arrR n s.now (.slice A3 s2.L.length c3) s2.c) rfl 51 (.tmp 6) (.tmp 48) rfl rfl hBR4 rfl rfl rfl infR arrR_one ?_; intro w5 hB5 hc5)
      | fail)
    refine bodyPost_ret (results_blk2 rfl rfl hB5 _ Tryz.underlying51 rfl (by kernel_rfl)) rfl ?_
    rw [HQ.out]
    refine ⟨.slice A3 s2.L.length c3, ?_, HR4.out.far hBR4 tR_ne hc5, ?_⟩
    · dsimp only
      rw [HNOW.out]
      try rfl
    · refine FTs.later HC1.out HT2.out (by rw [hgp]; exact HLO.out) ((HC4.out.more (by simp) : Chg [gp + 1 + 1] w2 w4).trans hc5) ?_
      intro x hx
      simp only [List.mem_cons, List.not_mem_nil, or_false] at hx
      subst hx
      exact ⟨by omega, .inl HSZ.out⟩
set_option maxRecDepth 100000 in
set_option maxHeartbeats 4000000 in
theorem rcall_pend {w : World} {tb n : Nat} {F : List Nat} {k : Nat} {s : Sx} {v : Value} (h : FT w tb n F k s) (hR : RL w v s.L) {o : Op6} (ho : okO6 o) (hn0 : 0 ≤ s.now) (hn1 : s.now ≤ 100000) (hk : k < 10000) (hC : bC s.c) (hr : o.kind.tmod 9 = 2) :
    Calls Tryz.prog 14 #[.pointer (some ⟨tb, 0, none⟩), .agg (arrR n s.now v s.c), .agg (arrO o)] w fun e w' =>
      ∃ v', e = .returned (.tuple #[.agg (arrR n (pendS n s o.f).1.now v' (pendS n s o.f).1.c), .bool true]) ∧ RL w' v' (pendS n s o.f).1.L ∧ FTs w w' tb n F (k + 1) (pendS n s o.f).1 := by
  have hS := h.okS hn0 hn1 hC
  obtain ⟨A, cp, rfl⟩ := hR.form
  have hA1 := (((Chg.refl [] w).alloc (.cells (arrR n s.now (.slice A s.L.length cp) s.c) 51)).alloc (.cells (arrO o) 40)).alloc (.cells (arrR 0 0 (.slice none 0 0) ⟨0, 0, 0, 0, 0, 0⟩) 51)
  have hBp : Blk (((w.alloc (.cells (arrR n s.now (.slice A s.L.length cp) s.c) 51)).alloc (.cells (arrO o) 40)).alloc (.cells (arrR 0 0 (.slice none 0 0) ⟨0, 0, 0, 0, 0, 0⟩) 51)) w.heap.size 51 (arrR n s.now (.slice A s.L.length cp) s.c) := ((Blk.new _ _ _).alloc _).alloc _
  have hBo : Blk (((w.alloc (.cells (arrR n s.now (.slice A s.L.length cp) s.c) 51)).alloc (.cells (arrO o) 40)).alloc (.cells (arrR 0 0 (.slice none 0 0) ⟨0, 0, 0, 0, 0, 0⟩) 51)) (w.heap.size + 1) 40 (arrO o) := (Blk.new' (by simp)).alloc _
  have hBr : Blk (((w.alloc (.cells (arrR n s.now (.slice A s.L.length cp) s.c) 51)).alloc (.cells (arrO o) 40)).alloc (.cells (arrR 0 0 (.slice none 0 0) ⟨0, 0, 0, 0, 0, 0⟩) 51)) (w.heap.size + 1 + 1) 51 (arrR 0 0 (.slice none 0 0) ⟨0, 0, 0, 0, 0, 0⟩) := Blk.new' (by simp)
  have HF1 := Lib.hid (h.chg0 hA1)
  have HR1 := Lib.hid (hR.chg0 hA1)
  have HLO := Lib.hid h.lt
  have HS := Lib.hid hS
  have HC1 := Lib.hid hA1
  have HB := Lib.hid (And.intro hBp (And.intro hBo hBr))
  have HOK := Lib.hid ho
  have HBD := Lib.hid (And.intro hn0 (And.intro hn1 (And.intro hk hC)))
  have c0 := hBo.cell 0
  have c35 := hBo.cell 35
  simp only [List.getElem?_toArray, List.getElem?_cons_succ, List.getElem?_cons_zero] at c0 c35
  have hro := opflow hBo.rangeQ
  have hrp := hBp.rangeQ
  have HSZ := Lib.hid hBr.lt
  clear h hR hA1 hBp hBo hBr hS ho hC hn0 hn1 hk
  generalize hM : s.L.length = M at *
  clear hM
  go_enter Tryz.func14, Tryz.ntmps14
  go_upto_region 1 with fail
  generalize hw1 : (((w.alloc (.cells (arrR n s.now (.slice A M cp) s.c) 51)).alloc (.cells (arrO o) 40)).alloc (.cells (arrR 0 0 (.slice none 0 0) ⟨0, 0, 0, 0, 0, 0⟩) 51)) = w1 at *
  generalize hgp : w.heap.size = gp at *
  clear hw1
  have FR := Lib.hid (rpend_any HR1.out HS.out HOK.out.2.1)
  go_wp2_with (first
    | (refine wpList_row 51 (.tmp 4) rfl rfl gp 0 rfl (arrR n s.now (.slice A M cp) s.c) _ hrp Tryz.underlying51 rfl infR ?_)
    | (refine wpList_row 38 (.tmp 61) rfl rfl (gp + 1) 1 rfl (arrF o.f) _ hro Tryz.underlying38 rfl infF ?_)
    | fail)
  refine FR.out.mono ?_
  rintro e w2 ⟨v2, rfl, hr2, hc2⟩
  obtain ⟨A2, c2, rfl⟩ := hr2.form
  have HR2 := Lib.hid hr2
  have HC2 := Lib.hid hc2
  have HNOW := Lib.hid (pend_now n s o.f)
  have HBO2 := Lib.hid (HB.out.2.1.chg hc2 (by simp))
  have HBR2 := Lib.hid (HB.out.2.2.chg hc2 (by simp))
  have HF2 := Lib.hid (HF1.out.chg0 hc2)
  clear hr2 hc2 FR hro hrp c0 c35
  generalize hQ : (pendS n s o.f) = Q at *
  have HQ := Lib.hid hQ
  clear hQ
  obtain ⟨s2, qb⟩ := Q
  simp only at *
  have hB2 : Blk (w2.alloc (.cells (arrR 0 0 (.slice none 0 0) ⟨0, 0, 0, 0, 0, 0⟩) 51)) w2.heap.size 51 (arrR 0 0 (.slice none 0 0) ⟨0, 0, 0, 0, 0, 0⟩) := Blk.new _ _ _
  have HA2 := Lib.hid ((Chg.refl [] w2).alloc (.cells (arrR 0 0 (.slice none 0 0) ⟨0, 0, 0, 0, 0, 0⟩) 51))
  go_upto_region 9 with (first
    | (refine wpList_store_blk (vs := arrR n s.now (.slice A2 s2.L.length c2) s2.c) rfl 51 (.tmp 13) (.tmp 64) rfl rfl hB2 rfl rfl rfl infR arrR_one ?_; intro w3 hB3 hc3)
    | fail)
  have hlt2 := HBR2.out.lt
  have hC3 : Chg [] w2 w3 := HA2.out.trans' hc3 (by intro y hy; simp at hy; subst hy; exact .inr (Nat.le_refl _))
  have hR4 := (HR2.out.chg0 HA2.out).far hB2 tR_ne hc3
  have hF4 := HF2.out.chg0 hC3
  have hS0 : (fun W : World => Blk W w2.heap.size 51 (arrR n s.now (.slice A2 s2.L.length c2) s2.c) ∧ Blk W (gp + 1) 40 (arrO o)) w3 := ⟨hB3, HBO2.out.chg hC3 (by simp)⟩
  have hBR4 := HBR2.out.chg hC3 (by simp)
  have hC4 : Chg [] w w3 := (HC1.out.trans HC2.out).trans hC3
  clear hB3 hc3 hC3 hB2 HA2
  generalize hgq : w2.heap.size = gq at *
  replace hgq : gp + 1 + 1 < gq := hlt2
  clear hlt2
  replace hS0 : (fun W : World => Blk W gq 51 (arrR n s.now (.slice A2 s2.L.length c2) s2.c) ∧ Blk W (gp + 1) 40 (arrO o)) w3.drew := ⟨hS0.1.drew, hS0.2.drew⟩
  replace hR4 := hR4.chg0 (Chg.refl [] w3).drew
  replace hF4 := hF4.chg0 (Chg.refl [] w3).drew
  replace hBR4 := hBR4.drew
  replace hC4 := hC4.drew
  have HS1 : ∀ W : World, (fun W : World => Blk W gq 51 (arrR n s.now (.slice A2 s2.L.length c2) s2.c) ∧ Blk W (gp + 1) 40 (arrO o)) W → W.rangeAt gq 0 (arrR n s.now (.slice A2 s2.L.length c2) s2.c).toList := fun W h => h.1.rangeQ
  have HS2 : ∀ W : World, (fun W : World => Blk W gq 51 (arrR n s.now (.slice A2 s2.L.length c2) s2.c) ∧ Blk W (gp + 1) 40 (arrO o)) W → W.rangeAt (gp + 1) 1 (arrF o.f).toList := fun W h => opflow h.2.rangeQ
  have HS3 : ∀ W : World, (fun W : World => Blk W gq 51 (arrR n s.now (.slice A2 s2.L.length c2) s2.c) ∧ Blk W (gp + 1) 40 (arrO o)) W → W.cell? ⟨gp + 1, 35, none⟩ = some (.int .i64 o.n) := fun W h => h.2.cell 35
  refine wp_region_noPanic ?_
  refine wp_region_held_drew (S := fun W : World => Blk W gq 51 (arrR n s.now (.slice A2 s2.L.length c2) s2.c) ∧ Blk W (gp + 1) 40 (arrO o)) (by kernel_rfl) hS0 (fun _ => ?_)
  generalize w3.drew = w4 at *
  have FP := Lib.hid (pend_any hF4 HOK.out.2.1 HBD.out.1 HBD.out.2.1 HBD.out.2.2.1 HBD.out.2.2.2)
  rw [HQ.out] at FP
  have HF4 := Lib.hid hF4
  have HR4 := Lib.hid hR4
  have HC4 := Lib.hid hC4
  have HBR4 := Lib.hid hBR4
  clear hF4 hR4 hC4 hBR4
  refine wpAnyH_take (i := 0) rfl (by kernel_rfl) (by kernel_rfl) (by kernel_rfl) (fun _ _ _ h => h) (yields_row (by rfl) 51 (.tmp 13) rfl gq 0 rfl (arrR n s.now (.slice A2 s2.L.length c2) s2.c) _ HS1 Tryz.underlying51 rfl infR) (by with_reducible assumption) ?_
  try simp only [List.getElem_toArray, List.getElem_cons_succ, List.getElem_cons_zero, Act.put, List.setIfInBounds_toArray, List.set_cons_zero, List.set_cons_succ]
  refine wpAnyH_take (i := 1) (v := ?_) rfl (by kernel_rfl) (by kernel_rfl) (by kernel_rfl) (fun _ _ _ h => h) (yields_pure (by rfl) (fun w => ?_)) (by with_reducible assumption) ?_
  rotate_left
  · (go_simp <;> with_reducible rfl)
  try simp only [List.getElem_toArray, List.getElem_cons_succ, List.getElem_cons_zero, Act.put, List.setIfInBounds_toArray, List.set_cons_zero, List.set_cons_succ]
  refine wpAnyH_take (i := 2) (v := ?_) rfl (by kernel_rfl) (by kernel_rfl) (by kernel_rfl) (fun _ _ _ h => h) (yields_pure (by rfl) (fun w => ?_)) (by with_reducible assumption) ?_
  rotate_left
  · (go_simp <;> with_reducible rfl)
  try simp only [List.getElem_toArray, List.getElem_cons_succ, List.getElem_cons_zero, Act.put, List.setIfInBounds_toArray, List.set_cons_zero, List.set_cons_succ]
  refine wpAnyH_take (i := 3) rfl (by kernel_rfl) (by kernel_rfl) (by kernel_rfl) (fun _ _ _ h => h) (yields_row (by rfl) 38 (.tmp 68) rfl (gp + 1) 1 rfl (arrF o.f) _ HS2 Tryz.underlying38 rfl infF) (by with_reducible assumption) ?_
  try simp only [List.getElem_toArray, List.getElem_cons_succ, List.getElem_cons_zero, Act.put, List.setIfInBounds_toArray, List.set_cons_zero, List.set_cons_succ]
  refine wpAnyH_take (i := 5) (v := ?_) rfl (by kernel_rfl) (by kernel_rfl) (by kernel_rfl) (fun _ _ _ h => h) (yields_pure (by rfl) (fun w => ?_)) (by with_reducible assumption) ?_
  rotate_left
  · (go_simp <;> with_reducible rfl)
  try simp only [List.getElem_toArray, List.getElem_cons_succ, List.getElem_cons_zero, Act.put, List.setIfInBounds_toArray, List.set_cons_zero, List.set_cons_succ]
  refine wpAnyH_ready (rs := [4]) (by kernel_rfl) (by simp) (AllReadyH.cons rfl (fun K hK => ?_) AllReadyH.nil)
  go_simp
  refine FP.out.mono ?_
  rintro e' w5 ⟨rfl, hT5⟩
  have HT5 := Lib.hid hT5
  have hS5 : (fun W : World => Blk W gq 51 (arrR n s.now (.slice A2 s2.L.length c2) s2.c) ∧ Blk W (gp + 1) 40 (arrO o)) w5 := ⟨hT5.blk HLO.out hS0.1 (by omega), hT5.blk HLO.out hS0.2 (by omega)⟩
  have HB5 := Lib.hid (hT5.blk HLO.out HBR4.out (by omega))
  have HR5 := Lib.hid (HR4.out.fts HF4.out hT5)
  clear hT5
  refine hK.out _ _ (by with_reducible assumption) (fun _ => ?_)
  clear hK K
  try simp only [List.getElem_toArray, List.getElem_cons_succ, List.getElem_cons_zero, Act.put, List.setIfInBounds_toArray, List.set_cons_zero, List.set_cons_succ]
  refine wpAnyH_take (i := 6) (v := ?_) rfl (by kernel_rfl) (by kernel_rfl) (by kernel_rfl) (fun _ _ _ h => h) (yields_pure (by rfl) (fun w => ?_)) (by with_reducible assumption) ?_
  rotate_left
  · (go_simp <;> with_reducible rfl)
  try simp only [List.getElem_toArray, List.getElem_cons_succ, List.getElem_cons_zero, Act.put, List.setIfInBounds_toArray, List.set_cons_zero, List.set_cons_succ]
  refine wpAnyH_ready (rs := [7]) (by kernel_rfl) (by simp) (AllReadyH.cons rfl (fun K hK => ?_) AllReadyH.nil)
  refine step_store_blk (vs := arrR n s.now (.slice A2 s2.L.length c2) s2.c) rfl 51 (.tmp 6) (.tmp 66) rfl HB5.out rfl rfl rfl infR arrR_one ?_
  intro w6 hB6 hc6
  have hS6 : (fun W : World => Blk W gq 51 (arrR n s.now (.slice A2 s2.L.length c2) s2.c) ∧ Blk W (gp + 1) 40 (arrO o)) w6 := ⟨hS5.1.chg hc6 (by simp; omega), hS5.2.chg hc6 (by simp)⟩
  have HR6 := Lib.hid (HR5.out.far HB5.out tR_ne hc6)
  refine hK.out _ _ (by with_reducible assumption) (fun _ => ?_)
  clear hK K
  try simp only [List.getElem_toArray, List.getElem_cons_succ, List.getElem_cons_zero, Act.put, List.setIfInBounds_toArray, List.set_cons_zero, List.set_cons_succ]
  refine wpAnyH_take (i := 8) (v := ?_) rfl (by kernel_rfl) (by kernel_rfl) (by kernel_rfl) (fun _ _ _ h => h) (yields_pure (by rfl) (fun w => ?_)) (by with_reducible assumption) ?_
  rotate_left
  · (go_simp <;> with_reducible rfl)
  try simp only [List.getElem_toArray, List.getElem_cons_succ, List.getElem_cons_zero, Act.put, List.setIfInBounds_toArray, List.set_cons_zero, List.set_cons_succ]
  refine wpAnyH_done (by kernel_rfl) ?_ _
  clear hS0 hS5 hS6 HS1 HS2 HS3
  refine NoPanic.normal ?_
  go_wp2_with fail
  refine bodyPost_ret (results_blk2 rfl rfl hB6 _ Tryz.underlying51 rfl (by kernel_rfl)) rfl ?_
  rw [HQ.out]
  refine ⟨.slice A2 s2.L.length c2, ?_, HR6.out, ?_⟩
  · dsimp only
    rw [HNOW.out]
    try rfl
  · refine FTs.later HC4.out HT5.out (by rw [hgp]; exact HLO.out) hc6 ?_
    intro x hx
    simp only [List.mem_cons, List.not_mem_nil, or_false] at hx
    subst hx
    exact ⟨by omega, .inl HBR4.out.lt⟩
set_option maxRecDepth 100000 in
set_option maxHeartbeats 4000000 in
theorem rcall_learn {w : World} {tb n : Nat} {F : List Nat} {k : Nat} {s : Sx} {v : Value} (h : FT w tb n F k s) (hR : RL w v s.L) {o : Op6} (ho : okO6 o) (hn0 : 0 ≤ s.now) (hn1 : s.now ≤ 100000) (hk : k < 10000) (hC : bC s.c) (hr : o.kind.tmod 9 = 3 ∨ o.kind.tmod 9 = 4) :
    Calls Tryz.prog 14 #[.pointer (some ⟨tb, 0, none⟩), .agg (arrR n s.now v s.c), .agg (arrO o)] w fun e w' =>
      ∃ v', e = .returned (.tuple #[.agg (arrR n (learnS n s o.f o.n).1.now v' (learnS n s o.f o.n).1.c), .bool true]) ∧ RL w' v' (learnS n s o.f o.n).1.L ∧ FTs w w' tb n F (k + 1) (learnS n s o.f o.n).1 := by
  have hS := h.okS hn0 hn1 hC
  obtain ⟨A, cp, rfl⟩ := hR.form
  have hA1 := (((Chg.refl [] w).alloc (.cells (arrR n s.now (.slice A s.L.length cp) s.c) 51)).alloc (.cells (arrO o) 40)).alloc (.cells (arrR 0 0 (.slice none 0 0) ⟨0, 0, 0, 0, 0, 0⟩) 51)
  have hBp : Blk (((w.alloc (.cells (arrR n s.now (.slice A s.L.length cp) s.c) 51)).alloc (.cells (arrO o) 40)).alloc (.cells (arrR 0 0 (.slice none 0 0) ⟨0, 0, 0, 0, 0, 0⟩) 51)) w.heap.size 51 (arrR n s.now (.slice A s.L.length cp) s.c) := ((Blk.new _ _ _).alloc _).alloc _
  have hBo : Blk (((w.alloc (.cells (arrR n s.now (.slice A s.L.length cp) s.c) 51)).alloc (.cells (arrO o) 40)).alloc (.cells (arrR 0 0 (.slice none 0 0) ⟨0, 0, 0, 0, 0, 0⟩) 51)) (w.heap.size + 1) 40 (arrO o) := (Blk.new' (by simp)).alloc _
  have hBr : Blk (((w.alloc (.cells (arrR n s.now (.slice A s.L.length cp) s.c) 51)).alloc (.cells (arrO o) 40)).alloc (.cells (arrR 0 0 (.slice none 0 0) ⟨0, 0, 0, 0, 0, 0⟩) 51)) (w.heap.size + 1 + 1) 51 (arrR 0 0 (.slice none 0 0) ⟨0, 0, 0, 0, 0, 0⟩) := Blk.new' (by simp)
  have HF1 := Lib.hid (h.chg0 hA1)
  have HR1 := Lib.hid (hR.chg0 hA1)
  have HLO := Lib.hid h.lt
  have HS := Lib.hid hS
  have HC1 := Lib.hid hA1
  have HB := Lib.hid (And.intro hBp (And.intro hBo hBr))
  have HOK := Lib.hid ho
  have HBD := Lib.hid (And.intro hn0 (And.intro hn1 (And.intro hk hC)))
  have c0 := hBo.cell 0
  have c35 := hBo.cell 35
  simp only [List.getElem?_toArray, List.getElem?_cons_succ, List.getElem?_cons_zero] at c0 c35
  have hro := opflow hBo.rangeQ
  have hrp := hBp.rangeQ
  have HSZ := Lib.hid hBr.lt
  clear h hR hA1 hBp hBo hBr hS ho hC hn0 hn1 hk
  generalize hM : s.L.length = M at *
  clear hM
  go_enter Tryz.func14, Tryz.ntmps14
  go_upto_region 1 with fail
  generalize hw1 : (((w.alloc (.cells (arrR n s.now (.slice A M cp) s.c) 51)).alloc (.cells (arrO o) 40)).alloc (.cells (arrR 0 0 (.slice none 0 0) ⟨0, 0, 0, 0, 0, 0⟩) 51)) = w1 at *
  generalize hgp : w.heap.size = gp at *
  clear hw1
  rcases hr with hr | hr
  all_goals
    have FR := Lib.hid (rlearn_any HR1.out HS.out HOK.out.2.1 o.n)
    go_wp2_with (first
      | (refine wpList_row 51 (.tmp 4) rfl rfl gp 0 rfl (arrR n s.now (.slice A M cp) s.c) _ hrp Tryz.underlying51 rfl infR ?_)
      | (refine wpList_row 38 (.tmp 78) rfl rfl (gp + 1) 1 rfl (arrF o.f) _ hro Tryz.underlying38 rfl infF ?_)
      | fail)
    refine FR.out.mono ?_
    rintro e w2 ⟨v2, rfl, hr2, hc2⟩
    obtain ⟨A2, c2, rfl⟩ := hr2.form
    have HR2 := Lib.hid hr2
    have HC2 := Lib.hid hc2
    have HNOW := Lib.hid (learn_now n s o.f o.n)
    have HBO2 := Lib.hid (HB.out.2.1.chg hc2 (by simp))
    have HBR2 := Lib.hid (HB.out.2.2.chg hc2 (by simp))
    have HF2 := Lib.hid (HF1.out.chg0 hc2)
    clear hr2 hc2 FR hro hrp c0 c35
    generalize hQ : (learnS n s o.f o.n) = Q at *
    have HQ := Lib.hid hQ
    clear hQ
    obtain ⟨s2, qb⟩ := Q
    simp only at *
    have hB2 : Blk (w2.alloc (.cells (arrR 0 0 (.slice none 0 0) ⟨0, 0, 0, 0, 0, 0⟩) 51)) w2.heap.size 51 (arrR 0 0 (.slice none 0 0) ⟨0, 0, 0, 0, 0, 0⟩) := Blk.new _ _ _
    have HA2 := Lib.hid ((Chg.refl [] w2).alloc (.cells (arrR 0 0 (.slice none 0 0) ⟨0, 0, 0, 0, 0, 0⟩) 51))
    go_upto_region 13 with (first
      | (refine wpList_store_blk (vs := arrR n s.now (.slice A2 s2.L.length c2) s2.c) rfl 51 (.tmp 15) (.tmp 83) rfl rfl hB2 rfl rfl rfl infR arrR_one ?_; intro w3 hB3 hc3)
      | fail)
    have hlt2 := HBR2.out.lt
    have hC3 : Chg [] w2 w3 := HA2.out.trans' hc3 (by intro y hy; simp at hy; subst hy; exact .inr (Nat.le_refl _))
    have hR4 := (HR2.out.chg0 HA2.out).far hB2 tR_ne hc3
    have hF4 := HF2.out.chg0 hC3
    have hS0 : (fun W : World => Blk W w2.heap.size 51 (arrR n s.now (.slice A2 s2.L.length c2) s2.c) ∧ Blk W (gp + 1) 40 (arrO o)) w3 := ⟨hB3, HBO2.out.chg hC3 (by simp)⟩
    have hBR4 := HBR2.out.chg hC3 (by simp)
    have hC4 : Chg [] w w3 := (HC1.out.trans HC2.out).trans hC3
    clear hB3 hc3 hC3 hB2 HA2
    generalize hgq : w2.heap.size = gq at *
    replace hgq : gp + 1 + 1 < gq := hlt2
    clear hlt2
    replace hS0 : (fun W : World => Blk W gq 51 (arrR n s.now (.slice A2 s2.L.length c2) s2.c) ∧ Blk W (gp + 1) 40 (arrO o)) w3.drew := ⟨hS0.1.drew, hS0.2.drew⟩
    replace hR4 := hR4.chg0 (Chg.refl [] w3).drew
    replace hF4 := hF4.chg0 (Chg.refl [] w3).drew
    replace hBR4 := hBR4.drew
    replace hC4 := hC4.drew
    have HS1 : ∀ W : World, (fun W : World => Blk W gq 51 (arrR n s.now (.slice A2 s2.L.length c2) s2.c) ∧ Blk W (gp + 1) 40 (arrO o)) W → W.rangeAt gq 0 (arrR n s.now (.slice A2 s2.L.length c2) s2.c).toList := fun W h => h.1.rangeQ
    have HS2 : ∀ W : World, (fun W : World => Blk W gq 51 (arrR n s.now (.slice A2 s2.L.length c2) s2.c) ∧ Blk W (gp + 1) 40 (arrO o)) W → W.rangeAt (gp + 1) 1 (arrF o.f).toList := fun W h => opflow h.2.rangeQ
    have HS3 : ∀ W : World, (fun W : World => Blk W gq 51 (arrR n s.now (.slice A2 s2.L.length c2) s2.c) ∧ Blk W (gp + 1) 40 (arrO o)) W → W.cell? ⟨gp + 1, 35, none⟩ = some (.int .i64 o.n) := fun W h => h.2.cell 35
    refine wp_region_noPanic ?_
    refine wp_region_held_drew (S := fun W : World => Blk W gq 51 (arrR n s.now (.slice A2 s2.L.length c2) s2.c) ∧ Blk W (gp + 1) 40 (arrO o)) (by kernel_rfl) hS0 (fun _ => ?_)
    generalize w3.drew = w4 at *
    have FP := Lib.hid (learn_any hF4 HOK.out.2.1 o.n HBD.out.1 HBD.out.2.1 HBD.out.2.2.1 HBD.out.2.2.2)
    rw [HQ.out] at FP
    have HF4 := Lib.hid hF4
    have HR4 := Lib.hid hR4
    have HC4 := Lib.hid hC4
    have HBR4 := Lib.hid hBR4
    clear hF4 hR4 hC4 hBR4
    refine wpAnyH_take (i := 0) rfl (by kernel_rfl) (by kernel_rfl) (by kernel_rfl) (fun _ _ _ h => h) (yields_row (by rfl) 51 (.tmp 15) rfl gq 0 rfl (arrR n s.now (.slice A2 s2.L.length c2) s2.c) _ HS1 Tryz.underlying51 rfl infR) (by with_reducible assumption) ?_
    try simp only [List.getElem_toArray, List.getElem_cons_succ, List.getElem_cons_zero, Act.put, List.setIfInBounds_toArray, List.set_cons_zero, List.set_cons_succ]
    refine wpAnyH_take (i := 1) (v := ?_) rfl (by kernel_rfl) (by kernel_rfl) (by kernel_rfl) (fun _ _ _ h => h) (yields_pure (by rfl) (fun w => ?_)) (by with_reducible assumption) ?_
    rotate_left
    · (go_simp <;> with_reducible rfl)
    try simp only [List.getElem_toArray, List.getElem_cons_succ, List.getElem_cons_zero, Act.put, List.setIfInBounds_toArray, List.set_cons_zero, List.set_cons_succ]
    refine wpAnyH_take (i := 2) (v := ?_) rfl (by kernel_rfl) (by kernel_rfl) (by kernel_rfl) (fun _ _ _ h => h) (yields_pure (by rfl) (fun w => ?_)) (by with_reducible assumption) ?_
    rotate_left
    · (go_simp <;> with_reducible rfl)
    try simp only [List.getElem_toArray, List.getElem_cons_succ, List.getElem_cons_zero, Act.put, List.setIfInBounds_toArray, List.set_cons_zero, List.set_cons_succ]
    refine wpAnyH_take (i := 3) rfl (by kernel_rfl) (by kernel_rfl) (by kernel_rfl) (fun _ _ _ h => h) (yields_row (by rfl) 38 (.tmp 87) rfl (gp + 1) 1 rfl (arrF o.f) _ HS2 Tryz.underlying38 rfl infF) (by with_reducible assumption) ?_
    try simp only [List.getElem_toArray, List.getElem_cons_succ, List.getElem_cons_zero, Act.put, List.setIfInBounds_toArray, List.set_cons_zero, List.set_cons_succ]
    refine wpAnyH_take (i := 4) (v := ?_) rfl (by kernel_rfl) (by kernel_rfl) (by kernel_rfl) (fun _ _ _ h => h) (yields_pure (by rfl) (fun w => ?_)) (by with_reducible assumption) ?_
    rotate_left
    · (go_simp <;> with_reducible rfl)
    try simp only [List.getElem_toArray, List.getElem_cons_succ, List.getElem_cons_zero, Act.put, List.setIfInBounds_toArray, List.set_cons_zero, List.set_cons_succ]
    refine wpAnyH_take (i := 5) rfl (by kernel_rfl) (by kernel_rfl) (by kernel_rfl) (fun _ _ _ h => h) (yields_cell (by rfl) 3 (.tmp 89) rfl (gp + 1) 35 rfl (.int .i64 o.n) _ HS3 Tryz.underlying3 rfl) (by with_reducible assumption) ?_
    try simp only [List.getElem_toArray, List.getElem_cons_succ, List.getElem_cons_zero, Act.put, List.setIfInBounds_toArray, List.set_cons_zero, List.set_cons_succ]
    refine wpAnyH_take (i := 7) (v := ?_) rfl (by kernel_rfl) (by kernel_rfl) (by kernel_rfl) (fun _ _ _ h => h) (yields_pure (by rfl) (fun w => ?_)) (by with_reducible assumption) ?_
    rotate_left
    · (go_simp <;> with_reducible rfl)
    try simp only [List.getElem_toArray, List.getElem_cons_succ, List.getElem_cons_zero, Act.put, List.setIfInBounds_toArray, List.set_cons_zero, List.set_cons_succ]
    refine wpAnyH_ready (rs := [6]) (by kernel_rfl) (by simp) (AllReadyH.cons rfl (fun K hK => ?_) AllReadyH.nil)
    go_simp
    refine FP.out.mono ?_
    rintro e' w5 ⟨rfl, hT5⟩
    have HT5 := Lib.hid hT5
    have hS5 : (fun W : World => Blk W gq 51 (arrR n s.now (.slice A2 s2.L.length c2) s2.c) ∧ Blk W (gp + 1) 40 (arrO o)) w5 := ⟨hT5.blk HLO.out hS0.1 (by omega), hT5.blk HLO.out hS0.2 (by omega)⟩
    have HB5 := Lib.hid (hT5.blk HLO.out HBR4.out (by omega))
    have HR5 := Lib.hid (HR4.out.fts HF4.out hT5)
    clear hT5
    refine hK.out _ _ (by with_reducible assumption) (fun _ => ?_)
    clear hK K
    try simp only [List.getElem_toArray, List.getElem_cons_succ, List.getElem_cons_zero, Act.put, List.setIfInBounds_toArray, List.set_cons_zero, List.set_cons_succ]
    refine wpAnyH_take (i := 8) (v := ?_) rfl (by kernel_rfl) (by kernel_rfl) (by kernel_rfl) (fun _ _ _ h => h) (yields_pure (by rfl) (fun w => ?_)) (by with_reducible assumption) ?_
    rotate_left
    · (go_simp <;> with_reducible rfl)
    try simp only [List.getElem_toArray, List.getElem_cons_succ, List.getElem_cons_zero, Act.put, List.setIfInBounds_toArray, List.set_cons_zero, List.set_cons_succ]
    refine wpAnyH_ready (rs := [9]) (by kernel_rfl) (by simp) (AllReadyH.cons rfl (fun K hK => ?_) AllReadyH.nil)
    refine step_store_blk (vs := arrR n s.now (.slice A2 s2.L.length c2) s2.c) rfl 51 (.tmp 6) (.tmp 85) rfl HB5.out rfl rfl rfl infR arrR_one ?_
    intro w6 hB6 hc6
    have hS6 : (fun W : World => Blk W gq 51 (arrR n s.now (.slice A2 s2.L.length c2) s2.c) ∧ Blk W (gp + 1) 40 (arrO o)) w6 := ⟨hS5.1.chg hc6 (by simp; omega), hS5.2.chg hc6 (by simp)⟩
    have HR6 := Lib.hid (HR5.out.far HB5.out tR_ne hc6)
    refine hK.out _ _ (by with_reducible assumption) (fun _ => ?_)
    clear hK K
    try simp only [List.getElem_toArray, List.getElem_cons_succ, List.getElem_cons_zero, Act.put, List.setIfInBounds_toArray, List.set_cons_zero, List.set_cons_succ]
    refine wpAnyH_take (i := 10) (v := ?_) rfl (by kernel_rfl) (by kernel_rfl) (by kernel_rfl) (fun _ _ _ h => h) (yields_pure (by rfl) (fun w => ?_)) (by with_reducible assumption) ?_
    rotate_left
    · (go_simp <;> with_reducible rfl)
    try simp only [List.getElem_toArray, List.getElem_cons_succ, List.getElem_cons_zero, Act.put, List.setIfInBounds_toArray, List.set_cons_zero, List.set_cons_succ]
    refine wpAnyH_done (by kernel_rfl) ?_ _
    clear hS0 hS5 hS6 HS1 HS2 HS3
    refine NoPanic.normal ?_
    go_wp2_with fail
    refine bodyPost_ret (results_blk2 rfl rfl hB6 _ Tryz.underlying51 rfl (by kernel_rfl)) rfl ?_
    rw [HQ.out]
    refine ⟨.slice A2 s2.L.length c2, ?_, HR6.out, ?_⟩
    · dsimp only
      rw [HNOW.out]
      try rfl
    · refine FTs.later HC4.out HT5.out (by rw [hgp]; exact HLO.out) hc6 ?_
      intro x hx
      simp only [List.mem_cons, List.not_mem_nil, or_false] at hx
      subst hx
      exact ⟨by omega, .inl HBR4.out.lt⟩
set_option maxRecDepth 100000 in
set_option maxHeartbeats 4000000 in
theorem rcall_forget {w : World} {tb n : Nat} {F : List Nat} {k : Nat} {s : Sx} {v : Value} (h : FT w tb n F k s) (hR : RL w v s.L) {o : Op6} (ho : okO6 o) (hn0 : 0 ≤ s.now) (hn1 : s.now ≤ 100000) (hk : k < 10000) (hC : bC s.c) (hr : o.kind.tmod 9 = 5) :
    Calls Tryz.prog 14 #[.pointer (some ⟨tb, 0, none⟩), .agg (arrR n s.now v s.c), .agg (arrO o)] w fun e w' =>
      ∃ v', e = .returned (.tuple #[.agg (arrR n (forgetS s o.f).1.now v' (forgetS s o.f).1.c), .bool true]) ∧ RL w' v' (forgetS s o.f).1.L ∧ FTs w w' tb n F (k + 1) (forgetS s o.f).1 := by
  have hS := h.okS hn0 hn1 hC
  obtain ⟨A, cp, rfl⟩ := hR.form
  have hA1 := (((Chg.refl [] w).alloc (.cells (arrR n s.now (.slice A s.L.length cp) s.c) 51)).alloc (.cells (arrO o) 40)).alloc (.cells (arrR 0 0 (.slice none 0 0) ⟨0, 0, 0, 0, 0, 0⟩) 51)
  have hBp : Blk (((w.alloc (.cells (arrR n s.now (.slice A s.L.length cp) s.c) 51)).alloc (.cells (arrO o) 40)).alloc (.cells (arrR 0 0 (.slice none 0 0) ⟨0, 0, 0, 0, 0, 0⟩) 51)) w.heap.size 51 (arrR n s.now (.slice A s.L.length cp) s.c) := ((Blk.new _ _ _).alloc _).alloc _
  have hBo : Blk (((w.alloc (.cells (arrR n s.now (.slice A s.L.length cp) s.c) 51)).alloc (.cells (arrO o) 40)).alloc (.cells (arrR 0 0 (.slice none 0 0) ⟨0, 0, 0, 0, 0, 0⟩) 51)) (w.heap.size + 1) 40 (arrO o) := (Blk.new' (by simp)).alloc _
  have hBr : Blk (((w.alloc (.cells (arrR n s.now (.slice A s.L.length cp) s.c) 51)).alloc (.cells (arrO o) 40)).alloc (.cells (arrR 0 0 (.slice none 0 0) ⟨0, 0, 0, 0, 0, 0⟩) 51)) (w.heap.size + 1 + 1) 51 (arrR 0 0 (.slice none 0 0) ⟨0, 0, 0, 0, 0, 0⟩) := Blk.new' (by simp)
  have HF1 := Lib.hid (h.chg0 hA1)
  have HR1 := Lib.hid (hR.chg0 hA1)
  have HLO := Lib.hid h.lt
  have HS := Lib.hid hS
  have HC1 := Lib.hid hA1
  have HB := Lib.hid (And.intro hBp (And.intro hBo hBr))
  have HOK := Lib.hid ho
  have HBD := Lib.hid (And.intro hn0 (And.intro hn1 (And.intro hk hC)))
  have c0 := hBo.cell 0
  have c35 := hBo.cell 35
  simp only [List.getElem?_toArray, List.getElem?_cons_succ, List.getElem?_cons_zero] at c0 c35
  have hro := opflow hBo.rangeQ
  have hrp := hBp.rangeQ
  have HSZ := Lib.hid hBr.lt
  clear h hR hA1 hBp hBo hBr hS ho hC hn0 hn1 hk
  generalize hM : s.L.length = M at *
  clear hM
  go_enter Tryz.func14, Tryz.ntmps14
  go_upto_region 1 with fail
  generalize hw1 : (((w.alloc (.cells (arrR n s.now (.slice A M cp) s.c) 51)).alloc (.cells (arrO o) 40)).alloc (.cells (arrR 0 0 (.slice none 0 0) ⟨0, 0, 0, 0, 0, 0⟩) 51)) = w1 at *
  generalize hgp : w.heap.size = gp at *
  clear hw1
  have FR := Lib.hid (rforget_any HR1.out HS.out HOK.out.2.1)
  go_wp2_with (first
    | (refine wpList_row 51 (.tmp 4) rfl rfl gp 0 rfl (arrR n s.now (.slice A M cp) s.c) _ hrp Tryz.underlying51 rfl infR ?_)
    | (refine wpList_row 38 (.tmp 98) rfl rfl (gp + 1) 1 rfl (arrF o.f) _ hro Tryz.underlying38 rfl infF ?_)
    | fail)
  refine FR.out.mono ?_
  rintro e w2 ⟨v2, rfl, hr2, HCC, hc2⟩
  rw [← HCC]
  replace HCC := Lib.hid HCC
  obtain ⟨A2, c2, rfl⟩ := hr2.form
  have HR2 := Lib.hid hr2
  have HC2 := Lib.hid hc2
  have HNOW := Lib.hid (forget_now s o.f)
  have HBO2 := Lib.hid (HB.out.2.1.chg hc2 (by simp))
  have HBR2 := Lib.hid (HB.out.2.2.chg hc2 (by simp))
  have HF2 := Lib.hid (HF1.out.chg0 hc2)
  clear hr2 hc2 FR hro hrp c0 c35
  generalize hQ : (forgetS s o.f) = Q at *
  have HQ := Lib.hid hQ
  clear hQ
  obtain ⟨s2, qb⟩ := Q
  simp only at *
  have hB2 : Blk (w2.alloc (.cells (arrR 0 0 (.slice none 0 0) ⟨0, 0, 0, 0, 0, 0⟩) 51)) w2.heap.size 51 (arrR 0 0 (.slice none 0 0) ⟨0, 0, 0, 0, 0, 0⟩) := Blk.new _ _ _
  have HA2 := Lib.hid ((Chg.refl [] w2).alloc (.cells (arrR 0 0 (.slice none 0 0) ⟨0, 0, 0, 0, 0, 0⟩) 51))
  go_upto_region 16 with (first
    | (refine wpList_store_blk (vs := arrR n s.now (.slice A2 s2.L.length c2) s2.c) rfl 51 (.tmp 17) (.tmp 101) rfl rfl hB2 rfl rfl rfl infR arrR_one ?_; intro w3 hB3 hc3)
    | fail)
  have hlt2 := HBR2.out.lt
  have hC3 : Chg [] w2 w3 := HA2.out.trans' hc3 (by intro y hy; simp at hy; subst hy; exact .inr (Nat.le_refl _))
  have hR4 := (HR2.out.chg0 HA2.out).far hB2 tR_ne hc3
  have hF4 := HF2.out.chg0 hC3
  have hS0 : (fun W : World => Blk W w2.heap.size 51 (arrR n s.now (.slice A2 s2.L.length c2) s2.c) ∧ Blk W (gp + 1) 40 (arrO o)) w3 := ⟨hB3, HBO2.out.chg hC3 (by simp)⟩
  have hBR4 := HBR2.out.chg hC3 (by simp)
  have hC4 : Chg [] w w3 := (HC1.out.trans HC2.out).trans hC3
  clear hB3 hc3 hC3 hB2 HA2
  generalize hgq : w2.heap.size = gq at *
  replace hgq : gp + 1 + 1 < gq := hlt2
  clear hlt2
  replace hS0 : (fun W : World => Blk W gq 51 (arrR n s.now (.slice A2 s2.L.length c2) s2.c) ∧ Blk W (gp + 1) 40 (arrO o)) w3.drew := ⟨hS0.1.drew, hS0.2.drew⟩
  replace hR4 := hR4.chg0 (Chg.refl [] w3).drew
  replace hF4 := hF4.chg0 (Chg.refl [] w3).drew
  replace hBR4 := hBR4.drew
  replace hC4 := hC4.drew
  have HS1 : ∀ W : World, (fun W : World => Blk W gq 51 (arrR n s.now (.slice A2 s2.L.length c2) s2.c) ∧ Blk W (gp + 1) 40 (arrO o)) W → W.rangeAt gq 0 (arrR n s.now (.slice A2 s2.L.length c2) s2.c).toList := fun W h => h.1.rangeQ
  have HS2 : ∀ W : World, (fun W : World => Blk W gq 51 (arrR n s.now (.slice A2 s2.L.length c2) s2.c) ∧ Blk W (gp + 1) 40 (arrO o)) W → W.rangeAt (gp + 1) 1 (arrF o.f).toList := fun W h => opflow h.2.rangeQ
  have HS3 : ∀ W : World, (fun W : World => Blk W gq 51 (arrR n s.now (.slice A2 s2.L.length c2) s2.c) ∧ Blk W (gp + 1) 40 (arrO o)) W → W.cell? ⟨gp + 1, 35, none⟩ = some (.int .i64 o.n) := fun W h => h.2.cell 35
  refine wp_region_noPanic ?_
  refine wp_region_held_drew (S := fun W : World => Blk W gq 51 (arrR n s.now (.slice A2 s2.L.length c2) s2.c) ∧ Blk W (gp + 1) 40 (arrO o)) (by kernel_rfl) hS0 (fun _ => ?_)
  generalize w3.drew = w4 at *
  have FP := Lib.hid (forget_any hF4 HOK.out.2.1)
  rw [HQ.out] at FP
  have HF4 := Lib.hid hF4
  have HR4 := Lib.hid hR4
  have HC4 := Lib.hid hC4
  have HBR4 := Lib.hid hBR4
  clear hF4 hR4 hC4 hBR4
  refine wpAnyH_take (i := 0) rfl (by kernel_rfl) (by kernel_rfl) (by kernel_rfl) (fun _ _ _ h => h) (yields_row (by rfl) 51 (.tmp 17) rfl gq 0 rfl (arrR n s.now (.slice A2 s2.L.length c2) s2.c) _ HS1 Tryz.underlying51 rfl infR) (by with_reducible assumption) ?_
  try simp only [List.getElem_toArray, List.getElem_cons_succ, List.getElem_cons_zero, Act.put, List.setIfInBounds_toArray, List.set_cons_zero, List.set_cons_succ]
  refine wpAnyH_take (i := 1) (v := ?_) rfl (by kernel_rfl) (by kernel_rfl) (by kernel_rfl) (fun _ _ _ h => h) (yields_pure (by rfl) (fun w => ?_)) (by with_reducible assumption) ?_
  rotate_left
  · (go_simp <;> with_reducible rfl)
  try simp only [List.getElem_toArray, List.getElem_cons_succ, List.getElem_cons_zero, Act.put, List.setIfInBounds_toArray, List.set_cons_zero, List.set_cons_succ]
  refine wpAnyH_take (i := 2) (v := ?_) rfl (by kernel_rfl) (by kernel_rfl) (by kernel_rfl) (fun _ _ _ h => h) (yields_pure (by rfl) (fun w => ?_)) (by with_reducible assumption) ?_
  rotate_left
  · (go_simp <;> with_reducible rfl)
  try simp only [List.getElem_toArray, List.getElem_cons_succ, List.getElem_cons_zero, Act.put, List.setIfInBounds_toArray, List.set_cons_zero, List.set_cons_succ]
  refine wpAnyH_take (i := 3) rfl (by kernel_rfl) (by kernel_rfl) (by kernel_rfl) (fun _ _ _ h => h) (yields_row (by rfl) 38 (.tmp 105) rfl (gp + 1) 1 rfl (arrF o.f) _ HS2 Tryz.underlying38 rfl infF) (by with_reducible assumption) ?_
  try simp only [List.getElem_toArray, List.getElem_cons_succ, List.getElem_cons_zero, Act.put, List.setIfInBounds_toArray, List.set_cons_zero, List.set_cons_succ]
  refine wpAnyH_take (i := 5) (v := ?_) rfl (by kernel_rfl) (by kernel_rfl) (by kernel_rfl) (fun _ _ _ h => h) (yields_pure (by rfl) (fun w => ?_)) (by with_reducible assumption) ?_
  rotate_left
  · (go_simp <;> with_reducible rfl)
  try simp only [List.getElem_toArray, List.getElem_cons_succ, List.getElem_cons_zero, Act.put, List.setIfInBounds_toArray, List.set_cons_zero, List.set_cons_succ]
  refine wpAnyH_ready (rs := [4]) (by kernel_rfl) (by simp) (AllReadyH.cons rfl (fun K hK => ?_) AllReadyH.nil)
  go_simp
  refine FP.out.mono ?_
  rintro e' w5 ⟨rfl, hT5⟩
  have HT5 := Lib.hid hT5
  have hS5 : (fun W : World => Blk W gq 51 (arrR n s.now (.slice A2 s2.L.length c2) s2.c) ∧ Blk W (gp + 1) 40 (arrO o)) w5 := ⟨hT5.blk HLO.out hS0.1 (by omega), hT5.blk HLO.out hS0.2 (by omega)⟩
  have HB5 := Lib.hid (hT5.blk HLO.out HBR4.out (by omega))
  have HR5 := Lib.hid (HR4.out.fts HF4.out hT5)
  clear hT5
  refine hK.out _ _ (by with_reducible assumption) (fun _ => ?_)
  clear hK K
  try simp only [List.getElem_toArray, List.getElem_cons_succ, List.getElem_cons_zero, Act.put, List.setIfInBounds_toArray, List.set_cons_zero, List.set_cons_succ]
  refine wpAnyH_take (i := 6) (v := ?_) rfl (by kernel_rfl) (by kernel_rfl) (by kernel_rfl) (fun _ _ _ h => h) (yields_pure (by rfl) (fun w => ?_)) (by with_reducible assumption) ?_
  rotate_left
  · (go_simp <;> with_reducible rfl)
  try simp only [List.getElem_toArray, List.getElem_cons_succ, List.getElem_cons_zero, Act.put, List.setIfInBounds_toArray, List.set_cons_zero, List.set_cons_succ]
  refine wpAnyH_ready (rs := [7]) (by kernel_rfl) (by simp) (AllReadyH.cons rfl (fun K hK => ?_) AllReadyH.nil)
  refine step_store_blk (vs := arrR n s.now (.slice A2 s2.L.length c2) s2.c) rfl 51 (.tmp 6) (.tmp 103) rfl HB5.out rfl rfl rfl infR arrR_one ?_
  intro w6 hB6 hc6
  have hS6 : (fun W : World => Blk W gq 51 (arrR n s.now (.slice A2 s2.L.length c2) s2.c) ∧ Blk W (gp + 1) 40 (arrO o)) w6 := ⟨hS5.1.chg hc6 (by simp; omega), hS5.2.chg hc6 (by simp)⟩
  have HR6 := Lib.hid (HR5.out.far HB5.out tR_ne hc6)
  refine hK.out _ _ (by with_reducible assumption) (fun _ => ?_)
  clear hK K
  try simp only [List.getElem_toArray, List.getElem_cons_succ, List.getElem_cons_zero, Act.put, List.setIfInBounds_toArray, List.set_cons_zero, List.set_cons_succ]
  refine wpAnyH_take (i := 8) (v := ?_) rfl (by kernel_rfl) (by kernel_rfl) (by kernel_rfl) (fun _ _ _ h => h) (yields_pure (by rfl) (fun w => ?_)) (by with_reducible assumption) ?_
  rotate_left
  · (go_simp <;> with_reducible rfl)
  try simp only [List.getElem_toArray, List.getElem_cons_succ, List.getElem_cons_zero, Act.put, List.setIfInBounds_toArray, List.set_cons_zero, List.set_cons_succ]
  refine wpAnyH_done (by kernel_rfl) ?_ _
  clear hS0 hS5 hS6 HS1 HS2 HS3
  refine NoPanic.normal ?_
  go_wp2_with fail
  refine bodyPost_ret (results_blk2 rfl rfl hB6 _ Tryz.underlying51 rfl (by kernel_rfl)) rfl ?_
  rw [HQ.out]
  refine ⟨.slice A2 s2.L.length c2, ?_, HR6.out, ?_⟩
  · dsimp only
    rw [HNOW.out]
    try rfl
  · refine FTs.later HC4.out HT5.out (by rw [hgp]; exact HLO.out) hc6 ?_
    intro x hx
    simp only [List.mem_cons, List.not_mem_nil, or_false] at hx
    subst hx
    exact ⟨by omega, .inl HBR4.out.lt⟩
end Go.Proofs.YtldgdpekhjignaaGreat.Ft
namespace Go.Proofs.YtldgdpekhjignaaGreat.Ft
open Go.RowKit Go.Maps

theorem srt_eq {l m : List Fl} (hl : SrtF l) (hm : SrtF m) (h : ∀ f, f ∈ l ↔ f ∈ m) : l = m :=
  SrtF.one hl hm ((List.perm_ext_iff_of_nodup hl.nodup hm.nodup).2 h)
theorem gone_ok {n : Nat} {s : Sx} (hS : okS n s) {f : Fl} (h : f ∈ goneF s.now s.L) : okF f := by
  unfold goneF at h
  obtain ⟨e, he, rfl⟩ := List.mem_map.1 h
  exact (hS.ok e ((List.mem_filter.1 he).1)).fl
theorem gone_len (now : Int) (L : List En) : (goneF now L).length ≤ L.length := by
  unfold goneF
  rw [List.length_map]
  exact List.length_filter_le _ _
theorem sl_one {w : World} {B : Nat} {A : Option Addr} {n c : Nat} {l : List Fl} (hn : l.length = n) (h : Sl w B 34 (.slice A n c) n (l.flatMap encF)) {i : Nat} {x : Fl} (hx : l[i]? = some x) :
    ∃ b o, A = some ⟨b, o, none⟩ ∧ w.rangeAt b (o + i * 34) (arrF x).toList := by
  subst hn
  exact SlF.one (Sl.less h (Nat.zero_le _)) rfl hx
set_option maxRecDepth 100000 in
set_option maxHeartbeats 4000000 in
theorem rcall_tick {w : World} {tb n : Nat} {F : List Nat} {k : Nat} {s : Sx} {v : Value} (h : FT w tb n F k s) (hR : RL w v s.L) {o : Op6} (ho : okO6 o) (hn0 : 0 ≤ s.now) (hn1 : s.now ≤ 100000) (hk : k < 10000) (hC : bC s.c) (hr : ¬ (0 ≤ o.kind.tmod 9 ∧ o.kind.tmod 9 ≤ 5)) :
    Calls Tryz.prog 14 #[.pointer (some ⟨tb, 0, none⟩), .agg (arrR n s.now v s.c), .agg (arrO o)] w fun e w' =>
      ∃ v', e = .returned (.tuple #[.agg (arrR n (tickS s).now v' (tickS s).c), .bool true]) ∧ RL w' v' (tickS s).L ∧ FTs w w' tb n F (k + 1) (tickS s) := by
  have hS := h.okS hn0 hn1 hC
  obtain ⟨A, cp, rfl⟩ := hR.form
  have hA1 := (((Chg.refl [] w).alloc (.cells (arrR n s.now (.slice A s.L.length cp) s.c) 51)).alloc (.cells (arrO o) 40)).alloc (.cells (arrR 0 0 (.slice none 0 0) ⟨0, 0, 0, 0, 0, 0⟩) 51)
  have hBp : Blk (((w.alloc (.cells (arrR n s.now (.slice A s.L.length cp) s.c) 51)).alloc (.cells (arrO o) 40)).alloc (.cells (arrR 0 0 (.slice none 0 0) ⟨0, 0, 0, 0, 0, 0⟩) 51)) w.heap.size 51 (arrR n s.now (.slice A s.L.length cp) s.c) := ((Blk.new _ _ _).alloc _).alloc _
  have hBo : Blk (((w.alloc (.cells (arrR n s.now (.slice A s.L.length cp) s.c) 51)).alloc (.cells (arrO o) 40)).alloc (.cells (arrR 0 0 (.slice none 0 0) ⟨0, 0, 0, 0, 0, 0⟩) 51)) (w.heap.size + 1) 40 (arrO o) := (Blk.new' (by simp)).alloc _
  have hBr : Blk (((w.alloc (.cells (arrR n s.now (.slice A s.L.length cp) s.c) 51)).alloc (.cells (arrO o) 40)).alloc (.cells (arrR 0 0 (.slice none 0 0) ⟨0, 0, 0, 0, 0, 0⟩) 51)) (w.heap.size + 1 + 1) 51 (arrR 0 0 (.slice none 0 0) ⟨0, 0, 0, 0, 0, 0⟩) := Blk.new' (by simp)
  have HF1 := Lib.hid (h.chg0 hA1)
  have HR1 := Lib.hid (hR.chg0 hA1)
  have HLO := Lib.hid h.lt
  have HS := Lib.hid hS
  have HC1 := Lib.hid hA1
  have HB := Lib.hid (And.intro hBp (And.intro hBo hBr))
  have HOK := Lib.hid ho
  have HBD := Lib.hid (And.intro hn0 (And.intro hn1 (And.intro hk hC)))
  have c0 := hBo.cell 0
  have c35 := hBo.cell 35
  simp only [List.getElem?_toArray, List.getElem?_cons_succ, List.getElem?_cons_zero] at c0 c35
  have hro := opflow hBo.rangeQ
  have hrp := hBp.rangeQ
  have HSZ := Lib.hid hBr.lt
  clear h hR hA1 hBp hBo hBr hS ho hC hn0 hn1 hk
  generalize hM : s.L.length = M at *
  clear hM
  go_enter Tryz.func14, Tryz.ntmps14
  go_upto_region 1 with fail
  generalize hw1 : (((w.alloc (.cells (arrR n s.now (.slice A M cp) s.c) 51)).alloc (.cells (arrO o) 40)).alloc (.cells (arrR 0 0 (.slice none 0 0) ⟨0, 0, 0, 0, 0, 0⟩) 51)) = w1 at *
  generalize hgp : w.heap.size = gp at *
  clear hw1
  have FR := Lib.hid (rtick_any HR1.out HS.out)
  obtain ⟨r, hrr⟩ : ∃ r, o.kind.tmod 9 = r := ⟨_, rfl⟩
  rw [hrr] at hr
  have hq0 : ¬ r = 0 := by omega
  have hq1 : ¬ r = 1 := by omega
  have hq2 : ¬ r = 2 := by omega
  have hq3 : ¬ r = 3 := by omega
  have hq4 : ¬ r = 4 := by omega
  have hq5 : ¬ r = 5 := by omega
  have hb0 : (r == 0) = false := by simp [hq0]
  have hb1 : (r == 1) = false := by simp [hq1]
  have hb2 : (r == 2) = false := by simp [hq2]
  have hb3 : (r == 3) = false := by simp [hq3]
  have hb4 : (r == 4) = false := by simp [hq4]
  have hb5 : (r == 5) = false := by simp [hq5]
  clear hr
  go_wp2_with (first
    | (refine wpList_row 51 (.tmp 4) rfl rfl gp 0 rfl (arrR n s.now (.slice A M cp) s.c) _ hrp Tryz.underlying51 rfl infR ?_)
    | fail)
  refine FR.out.mono ?_
  rintro e w2 ⟨v2, vg, og, rfl, hr2, hso, hmo, hsl, hc2⟩
  obtain ⟨A2, c2, rfl⟩ := hr2.form
  obtain ⟨Ag, cg, rfl⟩ := Sl.form hsl
  have HG := Lib.hid (And.intro hso hmo)
  have HSL2 := Lib.hid hsl
  have HR2 := Lib.hid hr2
  have HC2 := Lib.hid hc2
  have HBR2 := Lib.hid (HB.out.2.2.chg hc2 (by simp))
  have HF2 := Lib.hid (HF1.out.chg0 hc2)
  clear hr2 hc2 hso hmo hsl FR hro hrp c0 c35 hrr hq0 hq1 hq2 hq3 hq4 hq5 hb0 hb1 hb2 hb3 hb4 hb5
  generalize hQ : (tickS s) = s2 at *
  have HQ := Lib.hid hQ
  clear hQ
  have hB2 : Blk (w2.alloc (.cells (arrR 0 0 (.slice none 0 0) ⟨0, 0, 0, 0, 0, 0⟩) 51)) w2.heap.size 51 (arrR 0 0 (.slice none 0 0) ⟨0, 0, 0, 0, 0, 0⟩) := Blk.new _ _ _
  have HA2 := Lib.hid ((Chg.refl [] w2).alloc (.cells (arrR 0 0 (.slice none 0 0) ⟨0, 0, 0, 0, 0, 0⟩) 51))
  generalize hml : og.length = m at *
  have HML := Lib.hid hml
  clear hml
  go_upto_region 18 with (first
    | (refine wpList_store_blk (vs := arrR n s2.now (.slice A2 s2.L.length c2) s2.c) rfl 51 (.tmp 19) (.tmp 113) rfl rfl hB2 rfl rfl rfl infR arrR_one ?_; intro w3 hB3 hc3)
    | fail)
  have hlt2 := HBR2.out.lt
  have hC3 : Chg [] w2 w3 := HA2.out.trans' hc3 (by intro y hy; simp at hy; subst hy; exact .inr (Nat.le_refl _))
  have HR3 := Lib.hid ((HR2.out.chg0 HA2.out).far hB2 tR_ne hc3)
  have HF3 := Lib.hid (HF2.out.chg0 hC3)
  have HB3 := Lib.hid hB3
  have HBR3 := Lib.hid (HBR2.out.chg hC3 (by simp))
  have HC3 : Hid (Chg [] w w3) := Lib.hid ((HC1.out.trans HC2.out).trans hC3)
  have HSL3 := Lib.hid (HSL2.out.chg0 hC3)
  have HLT := Lib.hid HBR3.out.lt
  have FP := Lib.hid (tick_any HF3.out HBD.out.1 HBD.out.2.1 HBD.out.2.2.2)
  rw [HQ.out] at FP
  clear hB3 hc3 hC3 hB2 HA2
  generalize hgq : w2.heap.size = gq at *
  replace hgq : gp + 1 + 1 < gq := hlt2
  clear hlt2
  go_wp2_with fail
  refine FP.out.mono ?_
  rintro e' w4 ⟨v4, L', F', b4, rfl, hp4, hs4, hsl4, hF4, hc4, hn4, hb4, hb4'⟩
  have hT4 : FTs w3 w4 tb n F (k + 1) s2 := ⟨F', hF4.more (by omega), hc4, hn4⟩
  have HT4 := Lib.hid hT4
  have HB4 := Lib.hid (hT4.blk HLO.out HB3.out (by omega))
  have HBR4 := Lib.hid (hT4.blk HLO.out HBR3.out (by omega))
  have HR4 := Lib.hid (HR3.out.fts HF3.out hT4)
  have hSL4 := HSL3.out.chg hc4 (fun x hx => by have := HLO.out x hx; have := HSZ.out; omega)
  have hLL : L' = og := srt_eq hs4 HG.out.1 (fun f => by rw [HG.out.2, hp4.mem_iff])
  subst hLL
  have hm64 : m ≤ 64 := by
    have h1 := hp4.length_eq
    have h2 := gone_len s.now s.L
    have h3 := HS.out.len
    have h4 := HS.out.hi
    have h5 := HML.out
    omega
  have HOK2 : Hid (∀ f ∈ L', okF f) := Lib.hid fun f hf => gone_ok HS.out ((HG.out.2 f).1 hf)
  obtain ⟨A4, c4, rfl⟩ := Sl.form hsl4
  rw [HML.out] at hsl4
  have HX1 := Lib.hid (fun W (hc : Chg [] w4 W) i (x : Fl) (hx : L'[i]? = some x) => sl_one HML.out (Sl.chg0 hsl4 hc) hx)
  have HX2 := Lib.hid (fun W (hc : Chg [] w4 W) i (x : Fl) (hx : L'[i]? = some x) => sl_one HML.out (Sl.chg0 hSL4 hc) hx)
  rw [HML.out]
  clear hp4 hs4 hsl4 hF4 hc4 hn4 hb4 hb4' hT4 hSL4 FP HR3 HF3 HB3 HBR3 HSL3 HR2 HF2 HBR2 HSL2 HR1 HF1 HB
  have hbn : ((m : Int) != (m : Int)) = false := by simp
  go_wp2_with fail
  go_loopw [22] (fun iv wr => ∃ i : Nat, i ≤ m ∧ iv = .int .i64 i ∧ Hid (Chg [] w4 wr)) (fun iv _ => m - (intOf iv).toNat)
  case atStart => exact ⟨0, by omega, rfl, Lib.hid (Chg.refl _ _)⟩
  case round =>
    obtain ⟨i, hi, rfl, HC⟩ := hrel
    by_cases hlt : i < m
    · have hx : L'[i]? = some (L'[i]'(by have := HML.out; omega)) := List.getElem?_eq_getElem _
      have hxo := HOK2.out _ (List.mem_of_getElem? hx)
      generalize L'[i]'(by have := HML.out; omega) = x at hx hxo
      obtain ⟨b1, o1, rfl, hr1⟩ := HX1.out _ HC.out i x hx
      obtain ⟨b2, o2, rfl, hr2⟩ := HX2.out _ HC.out i x hx
      have R1 := Lib.hid (fun W (hc : Chg [] wr W) => rangeAt_chg hr1 hc (by simp))
      have R2 := Lib.hid (fun W (hc : Chg [] wr W) => rangeAt_chg hr2 hc (by simp))
      have hE1 := fun W => eq_fl W hxo hxo
      rw [show decide (x = x) = true by simp] at hE1
      clear hr1 hr2 hx hxo
      go_upto_region 24 with fail
      refine wp_region_chg (by kernel_rfl) (by kernel_rfl) ?_
      (with_reducible refine wpQuiet_pure (v := ?_) ?_ (fun w => ?_) ?_); rotate_left; (focus rfl); (focus (go_simp <;> with_reducible rfl)); (try simp only [List.getElem_toArray, List.getElem_cons_succ, List.getElem_cons_zero, Act.put, List.setIfInBounds_toArray, List.set_cons_zero, List.set_cons_succ])
      (with_reducible refine wpQuiet_pure (v := ?_) ?_ (fun w => ?_) ?_); rotate_left; (focus rfl); (focus (go_simp <;> with_reducible rfl)); (try simp only [List.getElem_toArray, List.getElem_cons_succ, List.getElem_cons_zero, Act.put, List.setIfInBounds_toArray, List.set_cons_zero, List.set_cons_succ])
      (with_reducible refine wpQuiet_pure (v := ?_) ?_ (fun w => ?_) ?_); rotate_left; (focus rfl); (focus (go_simp <;> with_reducible rfl)); (try simp only [List.getElem_toArray, List.getElem_cons_succ, List.getElem_cons_zero, Act.put, List.setIfInBounds_toArray, List.set_cons_zero, List.set_cons_succ])
      (with_reducible refine wpQuiet_rowC 38 (.tmp 131) ?_ ?_ b1 _ ?_ (arrF x) _ R1.out Tryz.underlying38 ?_ infF ?_); (focus rfl); (focus rfl); (focus rfl); (focus rfl); (try simp only [List.getElem_toArray, List.getElem_cons_succ, List.getElem_cons_zero, Act.put, List.setIfInBounds_toArray, List.set_cons_zero, List.set_cons_succ])
      (with_reducible refine wpQuiet_pure (v := ?_) ?_ (fun w => ?_) ?_); rotate_left; (focus rfl); (focus (go_simp <;> with_reducible rfl)); (try simp only [List.getElem_toArray, List.getElem_cons_succ, List.getElem_cons_zero, Act.put, List.setIfInBounds_toArray, List.set_cons_zero, List.set_cons_succ])
      (with_reducible refine wpQuiet_pure (v := ?_) ?_ (fun w => ?_) ?_); rotate_left; (focus rfl); (focus (go_simp <;> with_reducible rfl)); (try simp only [List.getElem_toArray, List.getElem_cons_succ, List.getElem_cons_zero, Act.put, List.setIfInBounds_toArray, List.set_cons_zero, List.set_cons_succ])
      (with_reducible refine wpQuiet_pure (v := ?_) ?_ (fun w => ?_) ?_); rotate_left; (focus rfl); (focus (go_simp <;> with_reducible rfl)); (try simp only [List.getElem_toArray, List.getElem_cons_succ, List.getElem_cons_zero, Act.put, List.setIfInBounds_toArray, List.set_cons_zero, List.set_cons_succ])
      (with_reducible refine wpQuiet_rowC 38 (.tmp 135) ?_ ?_ b2 _ ?_ (arrF x) _ R2.out Tryz.underlying38 ?_ infF ?_); (focus rfl); (focus rfl); (focus rfl); (focus rfl); (try simp only [List.getElem_toArray, List.getElem_cons_succ, List.getElem_cons_zero, Act.put, List.setIfInBounds_toArray, List.set_cons_zero, List.set_cons_succ])
      (with_reducible refine wpQuiet_pure (v := ?_) ?_ (fun w => ?_) ?_); rotate_left; (focus rfl); (focus (go_simp <;> with_reducible rfl)); (try simp only [List.getElem_toArray, List.getElem_cons_succ, List.getElem_cons_zero, Act.put, List.setIfInBounds_toArray, List.set_cons_zero, List.set_cons_succ])
      refine wpQuiet_nil ?_
      intro w5 hc5
      have HC5 := Lib.hid (HC.out.trans hc5)
      clear hc5 R1 R2
      go_wp2_with fail
      go_roundw
      case rel => exact ⟨i + 1, by omega, by go_num, HC5⟩
      case measure => simp [intOf]; omega
    · obtain rfl : i = m := by omega
      have hBq := HB4.out.chg HC.out (by simp)
      have hrq := hBq.rangeQ
      have hBR5 := HBR4.out.chg HC.out (by simp)
      have HR5 := Lib.hid (HR4.out.chg0 HC.out)
      clear HX1 HX2 hBq
      go_wp2_with (first
        | (refine wpList_row 51 (.tmp 19) rfl rfl gq 0 rfl (arrR n s2.now (.slice A2 s2.L.length c2) s2.c) _ hrq Tryz.underlying51 rfl infR ?_)
        | (refine wpList_store_blk (vs := arrR n s2.now (.slice A2 s2.L.length c2) s2.c) rfl 51 (.tmp 6) (.tmp 139) rfl rfl hBR5 rfl rfl rfl infR arrR_one ?_; intro w6 hB6 hc6)
        | fail)
      refine bodyPost_ret (results_blk2 rfl rfl hB6 _ Tryz.underlying51 rfl (by kernel_rfl)) rfl ?_
      rw [HQ.out]
      refine ⟨.slice A2 s2.L.length c2, rfl, HR5.out.far hBR5 tR_ne hc6, ?_⟩
      refine FTs.later HC3.out HT4.out (by rw [hgp]; exact HLO.out) ((HC.out.more (by simp) : Chg [gp + 1 + 1] w4 wr).trans hc6) ?_
      intro x hx
      simp only [List.mem_cons, List.not_mem_nil, or_false] at hx
      subst hx
      exact ⟨by omega, .inl HLT.out⟩
theorem rcall_any {w : World} {tb n : Nat} {F : List Nat} {k : Nat} {s : Sx} {v : Value} (h : FT w tb n F k s) (hR : RL w v s.L) {o : Op6} (ho : okO6 o) (hn0 : 0 ≤ s.now) (hn1 : s.now ≤ 100000) (hk : k < 10000) (hC : bC s.c) :
    Calls Tryz.prog 14 #[.pointer (some ⟨tb, 0, none⟩), .agg (arrR n s.now v s.c), .agg (arrO o)] w fun e w' =>
      ∃ v', e = .returned (.tuple #[.agg (arrR n (doS n s o).1.now v' (doS n s o).1.c), .bool true]) ∧ RL w' v' (doS n s o).1.L ∧ FTs w w' tb n F (k + 1) (doS n s o).1 := by
  by_cases h0 : o.kind.tmod 9 = 0 ∨ o.kind.tmod 9 = 1
  · rw [do_look h0]; exact rcall_look h hR ho hn0 hn1 hk hC h0
  by_cases h2 : o.kind.tmod 9 = 2
  · rw [do_pend h2]; exact rcall_pend h hR ho hn0 hn1 hk hC h2
  by_cases h3 : o.kind.tmod 9 = 3 ∨ o.kind.tmod 9 = 4
  · rw [do_learn h3]; exact rcall_learn h hR ho hn0 hn1 hk hC h3
  by_cases h5 : o.kind.tmod 9 = 5
  · rw [do_forget h5]; exact rcall_forget h hR ho hn0 hn1 hk hC h5
  have hz : ¬ (0 ≤ o.kind.tmod 9 ∧ o.kind.tmod 9 ≤ 5) := by omega
  rw [do_tick hz]
  exact rcall_tick h hR ho hn0 hn1 hk hC hz
end Go.Proofs.YtldgdpekhjignaaGreat.Ft
namespace Go.Proofs.YtldgdpekhjignaaGreat.Ft
open Go.RowKit Go.Maps

theorem wfI_of {x : Int} (h : 0 ≤ x) (h2 : x ≤ 10000000) : wfI x := by
  unfold wfI
  simp [Lit.wf, IntKind.min, IntKind.max, IntKind.signed, IntKind.bits]
  omega
theorem infCn {c : Cn} : (Tryz.prog.info? 49).map (·.size) = some (arrC' c).size := by
  show _ = some 6
  kernel_rfl
theorem cn_row {w : World} {g : Nat} {n now : Int} {v : Value} {c : Cn} (h : Blk w g 51 (arrR n now v c)) : w.rangeAt g 3 (arrC' c).toList := fun j u hu => by
  have := h.rangeQ (j + 3) u hu
  rw [show 3 + j = 0 + (j + 3) by omega]
  exact this
theorem op_lt {w : World} {b off : Nat} {o : Op6} (h : w.rangeAt b off (arrO o).toList) : b < w.heap.size := World.block_lt_of_cell? w _ (h 0 (.int .i64 o.kind) rfl)
theorem step_run {P : Program} {ops : Array Oper} {op : Oper} {a : Act} {w w' : World} {v : Value} {K : Act → World → Prop} {Q : Exit → Act → World → Prop} {E : Prop} (hgd : op.guard = none) (hrun : (execOp a.eval op).run P w = .ok (.value v) w')
    (h : K (a.put op.dst v) w') : if Region.wanted op (yielded ops a.tmps) = true then Oper.wp P op a w K Q else E := by
  rw [if_pos (by simp [Region.wanted, hgd])]
  unfold Oper.wp
  simp only [hrun]
  exact h
section
variable {w wr w' w2 : World} {B : Bx} {n : Nat} {ka kb : Int} {J : Jx} {I : In} {s s' : Sx} {F : List Nat} {k k' tb g : Nat} {v v' : Value} {L : List En} {cs : Array Value}
theorem MemJ.tR_nin (h : MemJ w B n ka kb J I) (hB : Blk w g 51 cs) : g ∉ footT B J := by
  intro hm
  have ht := Blk.tag hB
  obtain ⟨t1, t2, t3, t4, t5, t6, t7, t8, t9⟩ := h.tags
  rcases mem_footT.1 hm with hm | hm | hm
  · rcases mem_fixB.1 hm with rfl | rfl | rfl | rfl | rfl | rfl | rfl | rfl | rfl
    all_goals first | rw [t1] at ht | rw [t2] at ht | rw [t3] at ht | rw [t4] at ht | rw [t5] at ht | rw [t6] at ht | rw [t7] at ht | rw [t8] at ht | rw [t9] at ht
    all_goals exact absurd ht (by decide)
  · rw [h.tag_f _ hm] at ht
    exact absurd ht (by decide)
  · have h2 := h.tag_w _ hm
    rw [ht] at h2
    exact absurd h2 (by decide)
theorem FT.tR_nin (h : FT w tb n F k s) (hB : Blk w g 51 cs) : g ∉ F := by
  obtain ⟨B, ka, kb, J, I, h1, h2, h3, h4, h5, rfl, h7⟩ := h
  exact h2.tR_nin hB
structure PJ (w wr : World) (tb n k : Nat) (F : List Nat) (s : Sx) (v : Value) : Prop where
  ft : FT wr tb n F k s
  rl : RL wr v s.L
  ch : Chg [] w wr
  lo : ∀ x ∈ F, w.heap.size ≤ x
theorem PJ.chg0 (h : PJ w wr tb n k F s v) (hc : Chg [] wr w') : PJ w w' tb n k F s v := ⟨h.ft.chg0 hc, h.rl.chg0 hc, h.ch.trans hc, h.lo⟩
theorem PJ.at_ (h : PJ w wr tb n k F s v) (hB : Blk wr g 51 cs) (hg : w.heap.size ≤ g) (hc : Chg [g] wr w') : PJ w w' tb n k F s v :=
  ⟨h.ft.chg hc (fun x hx => by simp only [List.mem_cons, List.not_mem_nil, or_false] at hx; subst hx; exact h.ft.tR_nin hB), h.rl.far hB tR_ne hc,
   h.ch.trans' hc (fun x hx => by simp only [List.mem_cons, List.not_mem_nil, or_false] at hx; subst hx; exact .inr hg), h.lo⟩
theorem PJ.call (h : PJ w wr tb n k F s v) (hT : FTs wr w' tb n F k' s') (hR : RL w' v' s'.L) : ∃ F', PJ w w' tb n k' F' s' v' := by
  obtain ⟨F', hF, hc, hn⟩ := hT
  exact ⟨F', hF, hR, h.ch.trans' hc (fun x hx => .inr (h.lo x hx)), fun x hx => (hn x hx).elim (h.lo x) (fun hh => by have := h.ch.size; omega)⟩
theorem PJ.blk (h : PJ w wr tb n k F s v) (hT : FTs wr w' tb n F k' s') (hB : Blk wr g 51 cs) : Blk w' g 51 cs := by
  obtain ⟨F', hF, hc, hn⟩ := hT
  exact hB.chg hc (h.ft.tR_nin hB)
end
end Go.Proofs.YtldgdpekhjignaaGreat.Ft
