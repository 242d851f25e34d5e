/-
  WALKS over package wheel: a timer taken away. Condition: the wheel is one that New made.
-/
import Derived.Test.YtldgdpekhjignaaGreatWheelMem
import Derived.StillTailTactics
import Derived.Deep.DeepCutAuto
set_option linter.unusedVariables false
set_option linter.unusedSimpArgs false
namespace Go.Proofs.YtldgdpekhjignaaGreat
open Go.RowKit Go.Maps

theorem stay_none {ls : Nat → List TM} {M : Int → Option Int} (h : WI ls M) {id : Int} (hn : M id = none) {s : Nat} (hs : s < 16) : stay id (ls s) = ls s := by
  unfold stay
  rw [List.filter_eq_self]
  intro t ht
  have := (h.out s hs t ht).1
  have : ¬ t.id = id := fun e => by rw [e, hn] at this; cases this
  simp [this]
theorem stay_far {ls : Nat → List TM} {M : Int → Option Int} (h : WI ls M) {id at_ : Int} (hm : M id = some at_) {s : Nat} (hs : s < 16) (hne : s ≠ (at_ % 16).toNat) : stay id (ls s) = ls s := by
  unfold stay
  rw [List.filter_eq_self]
  intro t ht
  have h1 := h.out s hs t ht
  have : ¬ t.id = id := fun e => by
    rw [e, hm] at h1
    injection h1.1 with h2
    exact hne (by rw [h2]; exact h1.2.symm)
  simp [this]

set_option maxRecDepth 100000 in
set_option maxHeartbeats 1000000 in
theorem unset_any {w : World} {b m n : Nat} {now : Int} {vs : Nat → Value} {ls : Nat → List TM} {M : Int → Option Int} (id : Int) (h : Wh w b m n now vs ls M) (hid : (Lit.int .i64 id).wf = true) :
    Calls Tryz.prog 62 #[.pointer (some ⟨b, 0, none⟩), .int .i64 id] w fun e w' => e = .returned (.bool (M id).isSome) ∧
      ∃ vs', Wh w' b m n now vs' (fun s => stay id (ls s)) (noM M id) ∧ Chg (foot b m vs) w w' ∧ ∀ x ∈ foot b m vs', x ∈ foot b m vs ∨ w.heap.size ≤ x := by
  have hA := (Chg.refl [] w).alloc (.cells #[.int .i64 id] 3)
  have hWA := h.chg0 hA
  have F1 := Lib.hid (when_any id hWA hid)
  have hx0 : (w.alloc (.cells #[.int .i64 id] 3)).cell? ⟨w.heap.size, 0, none⟩ = some (.int .i64 id) := (Blk.new w 3 #[.int .i64 id]).cell 0
  cases hm : M id with
  | none =>
    rw [hm] at F1
    have hres : Hid (∀ s, s < 16 → stay id (ls s) = ls s) := Lib.hid fun s hs => stay_none h.wi hm hs
    have hMM : noM M id = M := by funext x; unfold noM; split; (next e => rw [e, hm]); rfl
    have HM := Lib.hid hMM
    have HW := Lib.hid h
    clear h hWA hm hMM
    go_enter Tryz.func62, Tryz.ntmps62
    go_wp2_with fail
    refine F1.out.mono ?_
    rintro e w1 ⟨rfl, rfl⟩
    go_wp2_with fail
    go_ret
    have h1 := HW.out.chg0 hA
    refine ⟨rfl, vs, ?_, hA.more (by simp), fun x hx => .inl hx⟩
    exact ⟨h1.blk, fun s hs => by show World.ownsRow _ _ _ _ _ _ _; rw [hres.out s hs]; exact h1.rows s hs, by rw [HM.out]; exact h1.own, h1.bm, h1.off, h1.apart, h1.wi.unset id⟩
  | some at_ =>
    rw [hm] at F1
    obtain ⟨hp, hi0, hi1, hmem⟩ := h.wi.inl id at_ hm
    have hin := And.intro hi0 hi1
    have hsome : Hid ((M id).isSome = true) := Lib.hid (by rw [hm]; rfl)
    have hs16 : (at_ % 16).toNat < 16 := by omega
    have hlen := h.wi.len hs16
    have HFar : Hid (∀ s, s < 16 → s ≠ (at_ % 16).toNat → stay id (ls s) = ls s) := Lib.hid fun s hs hne => stay_far h.wi hm hs hne
    have hrow := h.rows _ hs16
    have hne : 0 < (ls (at_ % 16).toNat).length := List.length_pos_of_mem hmem
    have SP := Lib.hid (fun w1 => spoke_any at_ w1 hp)
    have HW := Lib.hid h
    have hvb : Hid (Blk w b 105 (whC now vs m)) := Lib.hid h.blk
    have hoff := Lib.hid (h.off _ hs16)
    have hbm := h.bm
    have hcs : Hid ((whC now vs m)[2 + (at_ % 16).toNat]? = some (vs (at_ % 16).toNat)) := Lib.hid (whC_list now vs m hs16)
    clear h hWA hm hmem
    generalize hsg : (at_ % 16).toNat = s at *
    rcases hrow.2 with ⟨_, h0⟩ | ⟨g, cap, cur, hv, _, hbk, hc1, hc2, hc3, hc4⟩
    · omega
    have hgb := hoff.out g (by rw [hv]; simp [Value.ownBlock])
    have hgl : g < w.heap.size := (Array.getElem?_eq_some_iff.1 hbk).1
    have hRT : Hid (RowT (w.alloc (.cells #[.int .i64 id] 3)) g (cap * 2) (ls s)) := Lib.hid ⟨cur, (show Blk w g _ cur from hbk).chg hA (by simp), hc3, hc4⟩
    have F2 := Lib.hid (fun w1 (hc : Chg [] (w.alloc (.cells #[.int .i64 id] 3)) w1) => delete_any (w := w1) (cap := cap) id w.heap.size (hRT.out.chg hc (by simp)) (by omega) (by omega) rfl (hc.cell hx0 (by simp)) (by omega))
    have hBA := Lib.hid (hvb.out.chg hA (by simp))
    have cb := (hBA.out.cell (2 + s)).trans hcs.out
    have c18 : (w.alloc (.cells #[.int .i64 id] 3)).cell? ⟨b, 18, none⟩ = some (.map (some m)) := hBA.out.cell 18
    have hsI : (s : Int) < 16 := by omega
    have HV := Lib.hid hv
    have hrl : (ls s).length ≤ cap := hc1
    clear hrow hbk hc1 hc3 hc4 hcs hsg
    rw [hv] at cb
    clear hv
    go_enter Tryz.func62, Tryz.ntmps62
    go_wp2_with fail
    refine F1.out.mono ?_
    rintro e w1 ⟨rfl, rfl⟩
    clear F1
    go_wp2_with fail
    go_quiet ((go_at_call 64; exact Calls.quiet_of_same ((SP.out _).mono fun _ _ ⟨a, b⟩ => ⟨a, b.symm⟩)))
    have hq := (Chg.refl [] (w.alloc (.cells #[.int .i64 id] 3))).drewN nq
    have cb2 := hq.cell cb (by simp)
    have F3 := Lib.hid (F2.out _ hq)
    go_wp2_with fail
    refine F3.out.mono ?_
    rintro e w3 ⟨rfl, hRT3, hc3⟩
    have hd3 : Chg [g] (w.alloc (.cells #[.int .i64 id] 3)) w3 := (hq.more (by simp)).trans hc3
    have hB3 := hBA.out.chg hd3 (by simpa using fun e => hgb.1 e.symm)
    have hx3 := hd3.cell hx0 (by simp; omega)
    have cb3 := hd3.cell cb (by simpa using fun e => hgb.1 e.symm)
    have fb3 := hB3.frozen (2 + s)
    have hbx : b ≠ w.heap.size := by have := hvb.out.lt; omega
    clear F3 F2 hq cb2 hRT
    go_wp2_with fail
    obtain ⟨D, hD, hR, hZ⟩ := HW.out.own
    have HZ : Hid (Maps.size (D.del (.int .i64 id)) = sizeM (noM M id)) := Lib.hid (by
      have e1 := Maps.size_del (k := .int .i64 id) (hD.tidy lawZ)
      have e2 := hR.has id
      rw [hsome.out] at e2
      have e3 := sizeM_no hin.1 hin.2 hsome.out
      rw [e2] at e1
      simp at e1
      omega)
    have hd4 : Chg [g, b] w (w3.setCell ⟨b, 2 + s, none⟩ (.slice (some ⟨g, 0, none⟩) (stay id (ls s)).length cap)) :=
      (((hA.more (T := [g, b]) (by simp)).trans' (hd3.more (T := [g, b]) (by simp)) (fun x hx => .inl hx)).setCell (p := ⟨b, 2 + s, none⟩) (.inl (by simp)) _)
    have hB4 := hB3.set_ (2 + s) (.slice (some ⟨g, 0, none⟩) (stay id (ls s)).length cap)
    rw [whC_set now vs m hs16] at hB4
    have hRT4 := hRT3.chg (S := [b]) ((Chg.refl _ _).setCell (p := ⟨b, 2 + s, none⟩) (.inl (by simp)) (.slice (some ⟨g, 0, none⟩) (stay id (ls s)).length cap)) (by simpa using hgb.1)
    have hx4 : (w3.setCell ⟨b, 2 + s, none⟩ (.slice (some ⟨g, 0, none⟩) (stay id (ls s)).length cap)).cell? ⟨w.heap.size, 0, none⟩ = some (.int .i64 id) := ((Chg.refl [b] w3).setCell (p := ⟨b, 2 + s, none⟩) (.inl (by simp)) _).cell hx3 (by simpa using fun e => hbx e.symm)
    have hD4 := ownsMap_chg hD hd4 (by simp; exact ⟨fun e => hgb.2 e.symm, fun e => hbm e.symm⟩)
    have c184 := hB4.cell 18
    have HB4 := Lib.hid hB4
    have HRT4 := Lib.hid hRT4
    have HR := Lib.hid hR
    have HD4 := Lib.hid hd4
    have hkey : keyOf Tryz.prog 3 (.int .i64 id) = some (.int .i64 id) := keyOf_int_mk Tryz.underlying3 hid
    clear hZ hB4 hRT4 hR hd4 hB3 hx3 cb3 fb3 hRT3 hc3 hd3 hx0 hA hD SP hvb hoff hBA cb c18
    generalize w3.setCell ⟨b, 2 + s, none⟩ (.slice (some ⟨g, 0, none⟩) (stay id (ls s)).length cap) = w4 at *
    have c184' : w4.cell? ⟨b, 18, none⟩ = some (.map (some m)) := c184
    clear c184
    go_still_tail 5, (by kernel_rfl)
    change wpList _ _ _ _ _ w4.drew
    have hD5 := hD4.drew
    have HD5 := Lib.hid (HD4.out.drew)
    have HB5 : Hid (Blk w4.drew b 105 (whC now (upS vs s (.slice (some ⟨g, 0, none⟩) (stay id (ls s)).length cap)) m)) := Lib.hid HB4.out
    have HRT5 := Lib.hid (HRT4.out.chg ((Chg.refl [] w4).drew) (by simp))
    clear hD4 HD4 HB4 HRT4
    generalize w4.drew = w5 at *
    go_wp2_with (first | (at_delete; refine wpList_delete_own _ rfl _ _ 101 3 rfl 3 lawZ Tryz.underlying101 _ m n D rfl hD5 _ _ rfl hkey ?_; intro w6 hown6 hturn6) | fail)
    go_ret
    have hc6 : Chg [m] w5 w6 := (Chg.refl _ _).grown hturn6.grown (fun k e => by cases e; exact .inl (by simp))
    have hB6 := HB5.out.chg hc6 (by simpa using hbm)
    obtain ⟨cs, hb6, hcs6, ht6⟩ := HRT5.out.chg hc6 (by simpa using hgb.2)
    have hkl : (stay id (ls s)).length ≤ (ls s).length := List.length_filter_le _ _
    have hrow6 : w6.ownsRow 0 114 2 (.slice (some ⟨g, 0, none⟩) (stay id (ls s)).length cap) (stay id (ls s)).length ((stay id (ls s)).flatMap encT) :=
      ⟨flat_len encT_len _, .inr ⟨g, cap, cs, rfl, Nat.zero_le _, hb6, by omega, hc2, hcs6, ht6⟩⟩
    have hall : Chg [g, b, m] w w6 := (HD5.out.more (by simp)).trans (hc6.more (by simp))
    have hgs : g ∈ (vs s).ownBlock.toList := by rw [HV.out]; simp [Value.ownBlock]
    have hSS : ∀ x ∈ [g, b, m], x = b ∨ x = m ∨ x ∈ (vs s).ownBlock.toList := by
      intro x hx
      simp at hx
      rcases hx with rfl | rfl | rfl
      · exact .inr (.inr hgs)
      · exact .inl rfl
      · exact .inr (.inl rfl)
    have hnew : ∀ x ∈ (Value.slice (some ⟨g, 0, none⟩) (stay id (ls s)).length cap).ownBlock.toList, x ∈ (vs s).ownBlock.toList ∨ w.heap.size ≤ x := by
      intro x hx
      simp [Value.ownBlock] at hx
      subst hx
      exact .inl hgs
    refine ⟨rfl, _, HW.out.relist hs16 hB6 hrow6 hown6 (HR.out.del id) HZ.out hall hSS hnew (fun t ht hne => HFar.out t ht hne) (HW.out.wi.unset id), hall.more (fun x hx => mem_foot.2 ?_), foot_relist hs16 hnew⟩
    rcases hSS x hx with h1 | h1 | h1
    · exact .inl h1
    · exact .inr (.inl h1)
    · exact .inr (.inr ⟨s, hs16, h1⟩)

def setT (ls : Nat → List TM) (id at_ : Int) : Nat → List TM := upS (fun s => stay id (ls s)) (at_ % 16).toNat (stay id (ls (at_ % 16).toNat) ++ [⟨id, at_⟩])

set_option maxRecDepth 100000 in
set_option maxHeartbeats 1000000 in
theorem set_no {w : World} {b m n : Nat} {now : Int} {vs : Nat → Value} {ls : Nat → List TM} {M : Int → Option Int} (id at_ : Int) (h : Wh w b m n now vs ls M) (hn : ¬ (0 ≤ id ∧ id < 256)) :
    Calls Tryz.prog 56 #[.pointer (some ⟨b, 0, none⟩), .int .i64 id, .int .i64 at_] w fun e w' => e = .returned (.bool false) ∧ w = w' := by
  have F1 := Lib.hid (is_any h)
  clear h
  rcases (show id < 0 ∨ (¬ id < 0 ∧ 256 ≤ id) by omega) with h1 | ⟨h1, h2⟩
  all_goals
    clear hn
    go_enter Tryz.func56, Tryz.ntmps56
    go_wp2_with fail
    refine F1.out.mono ?_
    rintro e w1 ⟨rfl, rfl⟩
    go_wp2_with fail
    go_ret
    exact ⟨rfl, rfl⟩

set_option maxRecDepth 100000 in
set_option maxHeartbeats 1000000 in
theorem set_any {w : World} {b m n : Nat} {now : Int} {vs : Nat → Value} {ls : Nat → List TM} {M : Int → Option Int} (id at_ a2 : Int) (h : Wh w b m n now vs ls M) (h0 : 0 ≤ id) (h1 : id < 256) (hn : n < 10000) (hw0 : 0 ≤ now) (hw1 : now ≤ 100000) (ha2 : a2 = max at_ (now + 1)) (hwf : (Lit.int .i64 at_).wf = true) :
    Calls Tryz.prog 56 #[.pointer (some ⟨b, 0, none⟩), .int .i64 id, .int .i64 at_] w fun e w' => e = .returned (.bool true) ∧
      ∃ vs', Wh w' b m (n + 1) now vs' (setT ls id a2) (inM (noM M id) id a2) ∧ Chg (foot b m vs) w w' ∧ ∀ x ∈ foot b m vs', x ∈ foot b m vs ∨ w.heap.size ≤ x := by
  have hid : (Lit.int .i64 id).wf = true := by simp [Lit.wf, IntKind.min, IntKind.max, IntKind.signed, IntKind.bits]; omega
  have hwa : (Lit.int .i64 a2).wf = true := by
    rw [ha2]
    rcases Int.le_total at_ (now + 1) with hle | hle
    · rw [Int.max_eq_right hle]; simp [Lit.wf, IntKind.min, IntKind.max, IntKind.signed, IntKind.bits]; omega
    · rw [Int.max_eq_left hle]; exact hwf
  have hp : 0 < a2 := by omega
  have F1 := Lib.hid (is_any h)
  have F2 := Lib.hid (unset_any id h hid)
  have SP := Lib.hid (fun w1 => spoke_any a2 w1 hp)
  have hsz := h.lt b (mem_foot.2 (.inl rfl))
  have hmx : max at_ (now + 1) = a2 := ha2.symm
  have hwn : IntKind.i64.wrap (now + 1) = now + 1 := by rw [IntKind.wrap_i64]; omega
  have hs16 : (a2 % 16).toNat < 16 := by omega
  have hset : Hid (setT ls id a2 = upS (fun s => stay id (ls s)) (a2 % 16).toNat (stay id (ls (a2 % 16).toNat) ++ [⟨id, a2⟩])) := Lib.hid rfl
  have hkey : keyOf Tryz.prog 3 (.int .i64 id) = some (.int .i64 id) := keyOf_int_mk Tryz.underlying3 hid
  clear h ha2 hwf
  generalize hsg : (a2 % 16).toNat = s at *
  have HSG := Lib.hid hsg
  clear hsg
  go_enter Tryz.func56, Tryz.ntmps56
  go_wp2_with fail
  refine F1.out.mono ?_
  rintro e w1 ⟨rfl, rfl⟩
  clear F1
  go_wp2_with fail
  refine F2.out.mono ?_
  rintro e w1 ⟨rfl, vs1, hW1, hc1, hf1⟩
  clear F2
  have HW1 := Lib.hid hW1
  obtain ⟨D, hD, hR, hZ⟩ := hW1.own
  have HZ : Hid (Maps.size (D.put (.int .i64 id) (dI a2)) = sizeM (inM (noM M id) id a2)) := Lib.hid (by
    have e1 := Maps.size_put (k := .int .i64 id) (hD.tidy lawZ) (dI a2)
    have e2 := hR.has id
    have e4 : noM M id id = none := by simp [noM]
    rw [e4] at e2
    have e3 := sizeM_in (a := a2) h0 h1 e4
    rw [e2] at e1
    simp at e1
    omega)
  have HR := Lib.hid hR
  have c1 : w1.cell? ⟨b, 1, none⟩ = some (.int .i64 now) := hW1.blk.cell 1
  have c18 : w1.cell? ⟨b, 18, none⟩ = some (.map (some m)) := hW1.blk.cell 18
  have hbm := hW1.bm
  have hlen := hW1.wi.len hs16
  have hrow := hW1.rows s hs16
  have hcs : Hid ((whC now vs1 m)[2 + s]? = some (vs1 s)) := Lib.hid (whC_list now vs1 m hs16)
  clear hW1 hR hZ
  go_upto_region 4 with fail
  go_cut [2] (fun x wx => x = .int .i64 a2 ∧ w1 = wx)
  case first =>
    go_wp2_with fail
    all_goals
      go_meet
      exact ⟨by congr 1; omega, rfl⟩
  case rest =>
    obtain ⟨rfl, rfl⟩ := hcut
    go_wp2_with (first | (at_mapUpdate; refine wpList_mapUpdate_own _ rfl _ _ _ 101 rfl 3 3 lawZ Tryz.underlying101 _ m n _ rfl hD (by unfold maxLen; omega) _ _ _ rfl rfl hkey _ [] (plainElem_int Tryz.underlying3 hwa) ?_; intro w2 hown2 hg2) | fail)
    have hsI : (s : Int) < 16 := by omega
    have hq1 : Chg [m] w1 w2 := (Chg.refl _ _).grown hg2 (fun k e => by cases e; exact .inl (by simp))
    clear hg2
    go_quiet ((go_at_call 64; exact Calls.quiet_of_same ((SP.out _).mono fun _ _ ⟨a, b⟩ => ⟨a, b.symm⟩)))
    have hq2 := hq1.drewN nq
    have hB2 := HW1.out.blk.chg hq2 (by simpa using hbm)
    have cb := (hB2.cell (2 + s)).trans hcs.out
    have hoff := HW1.out.off s hs16
    have hrow2 := own_chg hrow hq2 (fun x hx => by simpa using (hoff x hx).2)
    have hown3 := ownsMap_chg hown2 ((Chg.refl [] w2).drewN nq) (by simp)
    have hw3 := hq2.size
    clear hq1 SP hown2
    generalize w2.drewN nq = w3 at *
    have hrow3 := hrow2.alloc (.cells #[.int .i64 id, .int .i64 a2] 114)
    have hB3 := hB2.alloc (.cells #[.int .i64 id, .int .i64 a2] 114)
    have hown4 := hown3.alloc (.cells #[.int .i64 id, .int .i64 a2] 114)
    have hcat : Sl (w3.alloc (.cells #[.int .i64 id, .int .i64 a2] 114)) 0 2 (.slice (some ⟨w3.heap.size, 0, none⟩) 1 1) 1 (encT ⟨id, a2⟩) :=
      Sl.of_own (own_lit (base := 0) w3 114 2 1 #[.int .i64 id, .int .i64 a2] (Nat.zero_le _) (by simp [maxLen]) rfl)
    have hbns : b ∉ (vs1 s).ownBlock.toList := fun hx => (hoff b hx).1 rfl
    have hmns : m ∉ (vs1 s).ownBlock.toList := fun hx => (hoff m hx).2 rfl
    have HB3 := Lib.hid hB3
    have HQ2 := Lib.hid hq2
    clear hB2 hrow hrow2 hown3 hB3 hq2 c1 c18 hD
    go_wp2_with (first | (at_builtin; refine wpList_app elT rfl (.tmp 44) (.tmp 48) rfl 0 rfl hrow3 rfl hcat (encT_one ⟨id, a2⟩) (by unfold maxLen; omega) (by omega) (Nat.zero_le _) ?_; intro v5 w5 hown5 hc5 hb5; obtain ⟨g5, cap5, rfl, _, _⟩ := own_form hown5 (by omega); have hB5 := HB3.out.chg hc5 hbns; have cb5 := (hB5.cell (2 + s)).trans hcs.out; have fb5 := hB5.frozen (2 + s)) | fail)
    go_ret
    have hown6 := ownsMap_chg (ownsMap_chg hown4 hc5 hmns) ((Chg.refl [b] w5).setCell (p := ⟨b, 2 + s, none⟩) (.inl (by simp)) (.slice (some ⟨g5, 0, none⟩) ((stay id (ls s)).length + 1) cap5)) (by simpa using fun e => hbm e.symm)
    have hB6 := hB5.set_ (2 + s) (.slice (some ⟨g5, 0, none⟩) ((stay id (ls s)).length + 1) cap5)
    rw [whC_set now vs1 m hs16] at hB6
    have hg5 : g5 ∈ (vs1 s).ownBlock.toList ∨ w1.heap.size ≤ g5 := by
      rcases hb5 with h2 | h2
      · have h3 : (Value.slice (some ⟨g5, 0, none⟩) ((stay id (ls s)).length + 1) cap5).ownBlock = (vs1 s).ownBlock := h2
        exact .inl (by rw [← h3]; simp [Value.ownBlock])
      · simp [Value.ownBlock] at h2; exact .inr (by omega)
    have hbg5 : b ≠ g5 := fun e => by
      rcases hg5 with h2 | h2
      · exact hbns (e ▸ h2)
      · have := HW1.out.lt b (mem_foot.2 (.inl rfl)); omega
    have hrow6 := own_chg hown5 ((Chg.refl [b] w5).setCell (p := ⟨b, 2 + s, none⟩) (.inl (by simp)) (.slice (some ⟨g5, 0, none⟩) ((stay id (ls s)).length + 1) cap5)) (by intro x hx; simp [Value.ownBlock] at hx; subst hx; simpa using fun e => hbg5 e.symm)
    have hls : setT ls id a2 s = stay id (ls s) ++ [⟨id, a2⟩] := by rw [hset.out, upS_same]
    have hrow7 : World.ownsRow (w5.setCell ⟨b, 2 + s, none⟩ (.slice (some ⟨g5, 0, none⟩) ((stay id (ls s)).length + 1) cap5)) 0 114 2 (.slice (some ⟨g5, 0, none⟩) ((stay id (ls s)).length + 1) cap5) (setT ls id a2 s).length ((setT ls id a2 s).flatMap encT) := by
      rw [hls, List.length_append, List.flatMap_append]
      simpa using hrow6
    have hall : Chg (b :: m :: (vs1 s).ownBlock.toList) w1 (w5.setCell ⟨b, 2 + s, none⟩ (.slice (some ⟨g5, 0, none⟩) ((stay id (ls s)).length + 1) cap5)) :=
      (((HQ2.out.more (by simp)).alloc _).trans (hc5.more (fun x hx => List.mem_cons_of_mem _ (List.mem_cons_of_mem _ hx)))).setCell (p := ⟨b, 2 + s, none⟩) (.inl (by simp)) _
    have hSS : ∀ x ∈ b :: m :: (vs1 s).ownBlock.toList, x = b ∨ x = m ∨ x ∈ (vs1 s).ownBlock.toList := fun x hx => (List.mem_cons.1 hx).imp (fun h => h) (fun h => List.mem_cons.1 h)
    have hnew : ∀ x ∈ (Value.slice (some ⟨g5, 0, none⟩) ((stay id (ls s)).length + 1) cap5).ownBlock.toList, x ∈ (vs1 s).ownBlock.toList ∨ w1.heap.size ≤ x := by
      intro x hx
      simp [Value.ownBlock] at hx
      subst hx
      exact hg5
    have hwi := HW1.out.wi.set (id := id) (at_ := a2) (by simp [noM]) hp h0 h1
    rw [HSG.out] at hwi
    have hwi' : WI (setT ls id a2) (inM (noM M id) id a2) := by rw [hset.out]; exact hwi
    have hw1s := hc1.size
    refine ⟨rfl, _, HW1.out.relist hs16 hB6 hrow7 hown6 (HR.out.put id a2) HZ.out hall hSS hnew (fun t ht hne => by rw [hset.out, upS_other _ _ hne]) hwi', hc1.trans' hall (fun x hx => ?_), fun x hx => ?_⟩
    · refine hf1 x (mem_foot.2 ?_)
      rcases hSS x hx with h2 | h2 | h2
      · exact .inl h2
      · exact .inr (.inl h2)
      · exact .inr (.inr ⟨s, hs16, h2⟩)
    · rcases foot_relist hs16 hnew x hx with h2 | h2
      · exact hf1 x h2
      · exact .inr (by omega)
end Go.Proofs.YtldgdpekhjignaaGreat
