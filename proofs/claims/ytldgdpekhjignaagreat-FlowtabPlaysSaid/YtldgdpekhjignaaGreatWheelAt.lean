/-
  WALKS over package wheel: a new one, its tick, how many timers, a tick on. Condition: the wheel is one that New made.
-/
import Derived.Test.YtldgdpekhjignaaGreatWheelW
import Derived.Test.YtldgdpekhjignaaGreatShelfT
import Derived.Sort.OwnSortedInts
set_option linter.unusedVariables false
set_option linter.unusedSimpArgs false
namespace Go.Proofs.YtldgdpekhjignaaGreat
open Go.RowKit Go.Maps Go.Sort

theorem own_base9 {w : World} {base base' size n : Nat} {e : TypeId} {v : Value} {xs : List Value} (h : w.ownsRow base e size v n xs) (hb : base' ≤ base) : w.ownsRow base' e size v n xs := by
  refine ⟨h.1, ?_⟩
  rcases h.2 with h2 | ⟨g, cap, cur, hv, hg, r⟩
  · exact .inl h2
  · exact .inr ⟨g, cap, cur, hv, by omega, r⟩
def vs0 : Nat → Value := fun _ => .slice none 0 0
def ls0 : Nat → List TM := fun _ => []
def M0 : Int → Option Int := fun _ => none
theorem sizeM0 : sizeM M0 = 0 := by decide +kernel
theorem foot0 {b m x : Nat} (h : x ∈ foot b m vs0) : x = b ∨ x = m := by
  rcases mem_foot.1 h with h | h | ⟨s, _, h⟩
  · exact .inl h
  · exact .inr h
  · simp [vs0, Value.ownBlock] at h
theorem WI0 : WI ls0 M0 := ⟨fun id a h => by simp [M0] at h, fun s hs t ht => by simp [ls0] at ht, fun s hs => by simp [ls0]⟩

set_option maxRecDepth 100000 in
set_option maxHeartbeats 400000 in
theorem new_any (w : World) : Calls Tryz.prog 26 #[] w fun e w' => ∃ b m, e = .returned (.pointer (some ⟨b, 0, none⟩)) ∧ Wh w' b m 0 0 vs0 ls0 M0 ∧ Chg [] w w' ∧ ∀ x ∈ foot b m vs0, w.heap.size ≤ x := by
  have hmm := @run_makeMap Tryz.prog
  go_enter Tryz.func26, Tryz.ntmps26
  go_wp2
  go_ret
  refine ⟨w.heap.size + 1, w.heap.size, rfl, ?_, ((Chg.refl _ _).alloc _).alloc _, fun x hx => by rcases foot0 hx with h | h <;> omega⟩
  have hb : Blk ((w.alloc (.map #[] 0)).alloc (.cells (whC 0 vs0 w.heap.size) 105)) (w.heap.size + 1) 105 (whC 0 vs0 w.heap.size) := Blk.new' (by simp)
  refine ⟨hb, fun s hs => World.ownsRow_nil .., ⟨.map [], (World.ownsMap_made _ _ _ _).alloc _, Reads.nil, by rw [sizeM0]; rfl⟩, by omega, fun s hs x hx => by simp [vs0, Value.ownBlock] at hx, fun s t hs ht hne x hx => by simp [vs0, Value.ownBlock] at hx, WI0⟩

set_option maxHeartbeats 400000 in
theorem now_any {w : World} {b m n : Nat} {now : Int} {vs : Nat → Value} {ls : Nat → List TM} {M : Int → Option Int} (h : Wh w b m n now vs ls M) :
    Calls Tryz.prog 54 #[.pointer (some ⟨b, 0, none⟩)] w fun e w' => e = .returned (.int .i64 now) ∧ w = w' := by
  have h1 : w.cell? ⟨b, 1, none⟩ = some (.int .i64 now) := h.blk.cell 1
  have F1 := Lib.hid (is_any h)
  clear h
  go_enter Tryz.func54, Tryz.ntmps54
  go_wp2_with fail
  refine F1.out.mono ?_
  rintro e w1 ⟨rfl, rfl⟩
  clear F1
  go_wp2_with fail
  go_ret
  exact ⟨rfl, rfl⟩

def foldL (ids : List Int) (ls : Nat → List TM) : Nat → List TM := fun s => ids.foldl (fun l id => stay id l) (ls s)
def foldM (ids : List Int) (M : Int → Option Int) : Int → Option Int := ids.foldl noM M
theorem foldL_snoc (ids : List Int) (x : Int) (ls : Nat → List TM) : foldL (ids ++ [x]) ls = fun s => stay x (foldL ids ls s) := by funext s; simp [foldL]
theorem foldM_snoc (ids : List Int) (x : Int) (M : Int → Option Int) : foldM (ids ++ [x]) M = noM (foldM ids M) x := by simp [foldM]
def dueOf (now : Int) (l : List TM) : List Int := (l.filter (fun t => t.at_ == now)).map TM.id

set_option maxRecDepth 100000 in
set_option maxHeartbeats 2000000 in
theorem advance_any {w : World} {b m n : Nat} {now : Int} {vs : Nat → Value} {ls : Nat → List TM} {M : Int → Option Int} (h : Wh w b m n now vs ls M) (hw0 : 0 ≤ now) (hw1 : now ≤ 100000) :
    Calls Tryz.prog 40 #[.pointer (some ⟨b, 0, none⟩)] w fun e w' => ∃ v D, e = .returned v ∧ D = dueOf (now + 1) (ls ((now + 1) % 16).toNat) ∧
      w'.ownsRow w.heap.size 3 1 v D.length ((D.mergeSort fun x y => decide (x ≤ y)).map (Value.int .i64)) ∧ ∃ vs', Wh w' b m n (now + 1) vs' (foldL D ls) (foldM D M) ∧ Chg (foot b m vs) w w' ∧ (∀ x ∈ foot b m vs', x ∈ foot b m vs ∨ w.heap.size ≤ x) ∧ ∀ x ∈ v.ownBlock.toList, x ∉ foot b m vs' := by
  obtain ⟨i0, hi, hz0, hz1, hz2⟩ := info_parts elZ.info
  have F1 := Lib.hid (is_any h)
  have SP := Lib.hid (fun w1 => spoke_any (now + 1) w1 (by omega))
  have h1 : w.cell? ⟨b, 1, none⟩ = some (.int .i64 now) := h.blk.cell 1
  have f1 := h.blk.frozen 1
  have hwn : IntKind.i64.wrap (now + 1) = now + 1 := by rw [IntKind.wrap_i64]; omega
  have hs16 : ((now + 1) % 16).toNat < 16 := by omega
  have hD0 : Hid (∀ l, dueOf (now + 1) l = (l.filter (fun t => t.at_ == now + 1)).map TM.id) := Lib.hid fun l => rfl
  have hc01 : Chg [b] w (w.setCell ⟨b, 1, none⟩ (.int .i64 (now + 1))) := (Chg.refl _ _).setCell (p := ⟨b, 1, none⟩) (.inl (by simp)) _
  have hW1 : Wh (w.setCell ⟨b, 1, none⟩ (.int .i64 (now + 1))) b m n (now + 1) vs ls M := by
    obtain ⟨D, hD, hR, hZ⟩ := h.own
    have hB1 := h.blk.set_ 1 (.int .i64 (now + 1))
    rw [whC_now] at hB1
    exact ⟨hB1, fun s hs => own_chg (h.rows s hs) hc01 (fun x hx => by simpa using (h.off s hs x hx).1), ⟨D, ownsMap_chg hD hc01 (by simpa using fun e => h.bm e.symm), hR, hZ⟩, h.bm, h.off, h.apart, h.wi⟩
  have hsz : w.heap.size = (w.setCell ⟨b, 1, none⟩ (.int .i64 (now + 1))).heap.size := by simp [World.setCell]
  clear h
  go_enter Tryz.func40, Tryz.ntmps40
  go_wp2_with fail
  refine F1.out.mono ?_
  rintro e w1 ⟨rfl, rfl⟩
  clear F1
  go_wp2_with fail
  generalize w.setCell ⟨b, 1, none⟩ (.int .i64 (now + 1)) = w1 at *
  clear h1 f1
  have h1 : w1.cell? ⟨b, 1, none⟩ = some (.int .i64 (now + 1)) := hW1.blk.cell 1
  generalize hnw : now + 1 = nw at *
  generalize hsg : (nw % 16).toNat = s at *
  have HNW := Lib.hid (And.intro hnw hsg)
  clear hnw hsg
  have hcs : Hid ((whC nw vs m)[2 + s]? = some (vs s)) := Lib.hid (whC_list nw vs m hs16)
  have cb := (hW1.blk.cell (2 + s)).trans hcs.out
  obtain ⟨A, c, hv⟩ := Sl.form (Sl.of_own (hW1.rows s hs16))
  rw [hv] at cb
  have HV := Lib.hid hv
  have hlen := hW1.wi.len hs16
  have HRec := Lib.hid (fun wr (hc : Chg [] w1 wr) i x (hx : (ls s)[i]? = some x) => Sl.rec encT_len (by omega) (Sl.of_own (own_chg (hW1.rows s hs16) hc (by simp))) hx)
  have HW1 := Lib.hid hW1
  have hsI : (s : Int) < 16 := by omega
  clear hv hW1 hcs
  generalize hln : (ls s).length = L at *
  go_quiet ((go_at_call 64; exact Calls.quiet_of_same ((SP.out _).mono fun _ _ ⟨a, b⟩ => ⟨a, b.symm⟩)))
  go_wp2_with fail
  go_loopw [3, 29] (fun v iv wr => ∃ k : Nat, k ≤ L ∧ iv = .int .i64 k ∧ Chg [] w1 wr ∧ wr.ownsRow w1.heap.size 3 1 v (dueOf nw ((ls s).take k)).length ((dueOf nw ((ls s).take k)).map (Value.int .i64))) (fun _ iv _ => L - (intOf iv).toNat)
  case atStart => exact ⟨0, by omega, rfl, (Chg.refl _ _).drewN _, by simpa [dueOf] using World.ownsRow_nil ..⟩
  case round =>
    obtain ⟨k, hk, rfl, hcr, hrow⟩ := hrel
    by_cases hlt : k < L
    · have ht : (ls s)[k]? = some ((ls s)[k]'(by omega)) := List.getElem?_eq_getElem _
      generalize (ls s)[k]'(by omega) = t at ht
      obtain ⟨b', o', c', hv, _, _, hg⟩ := HRec.out wr hcr k t ht
      have hv' := HV.out.symm.trans hv
      simp only [Value.slice.injEq, true_and] at hv'
      obtain ⟨rfl, rfl⟩ := hv'
      have htk : (ls s).take (k + 1) = (ls s).take k ++ [t] := by rw [List.take_add_one, ht]; rfl
      obtain ⟨ta, tb⟩ := t
      have hds : Hid (dueOf nw ((ls s).take (k + 1)) = dueOf nw ((ls s).take k) ++ (if tb = nw then [ta] else [])) := Lib.hid (by
        rw [htk, hD0.out, hD0.out, List.filter_append, List.map_append]
        by_cases e : tb = nw <;> simp [e])
      have hdl : (dueOf nw ((ls s).take k)).length ≤ 256 := by
        rw [hD0.out, List.length_map]
        have := List.length_filter_le (fun t : TM => t.at_ == nw) ((ls s).take k)
        have h2 : ((ls s).take k).length ≤ L := by rw [List.length_take]; omega
        omega
      have g0 : wr.cell? ⟨b', o' + k * 2, none⟩ = some (.int .i64 ta) := hg 0 (by omega)
      have g1 : wr.cell? ⟨b', o' + k * 2 + 1, none⟩ = some (.int .i64 tb) := hg 1 (by omega)
      have hal := (Chg.refl [] wr).alloc (.cells #[.int .i64 ta, .int .i64 tb] 114)
      have hBn := Blk.new wr 114 #[.int .i64 ta, .int .i64 tb]
      have n1 : (wr.alloc (.cells #[.int .i64 ta, .int .i64 tb] 114)).cell? ⟨wr.heap.size, 1, none⟩ = some (.int .i64 tb) := hBn.cell 1
      have n2 := (hcr.trans hal).cell h1 (by simp)
      clear hg hv htk HRec
      go_wp2_with fail
      go_quiet (fail)
      have hcz := (hcr.trans hal).drewN nq
      have n0 : ((wr.alloc (.cells #[.int .i64 ta, .int .i64 tb] 114)).drewN nq).cell? ⟨wr.heap.size, 0, none⟩ = some (.int .i64 ta) := ((Chg.refl [] _).drewN nq).cell (hBn.cell 0) (by simp)
      have hrow2 := own_chg hrow (hal.drewN nq) (by simp)
      clear g0 g1 n1 n2 hal hBn hrow hcr
      generalize (wr.alloc (.cells #[.int .i64 ta, .int .i64 tb] 114)).drewN nq = w2 at *
      by_cases hid : tb = nw
      · have hb : (tb == nw) = true := by simp [hid]
        have hd2 : Hid (dueOf nw ((ls s).take (k + 1)) = dueOf nw ((ls s).take k) ++ [ta]) := Lib.hid (by rw [hds.out, if_pos hid])
        have hws := hcz.size
        have hcat : Sl (w2.alloc (.cells #[.int .i64 ta] 3)) 0 1 (.slice (some ⟨w2.heap.size, 0, none⟩) 1 1) 1 [.int .i64 ta] := Sl.of_own (own_lit (base := 0) w2 3 1 1 #[.int .i64 ta] (Nat.zero_le _) (by simp [maxLen]) rfl)
        clear hid
        go_wp2_with (first | (at_builtin; refine wpList_app elZ rfl (.tmp 40) (.tmp 43) rfl w1.heap.size rfl (hrow2.alloc _) rfl hcat (by intro u hu; simp at hu; subst hu; rfl) (by unfold maxLen; omega) (by omega) (by simp; omega) ?_; intro v5 w5 hown5 hc5 hb5) | fail)
        have hfin : Chg [] w1 w5 := (hcz.alloc _).trans' hc5 (fun x hx => .inr (own_lt hrow2 x hx).1)
        clear hc5 hb5
        go_roundw
        case rel => exact ⟨k + 1, by omega, by go_num, hfin, by rw [hd2.out, List.length_append, List.map_append]; exact hown5⟩
        case measure => simp [intOf]; omega
      · have hb : (tb == nw) = false := by simp [hid]
        have hd2 : Hid (dueOf nw ((ls s).take (k + 1)) = dueOf nw ((ls s).take k)) := Lib.hid (by rw [hds.out, if_neg hid]; simp)
        clear hid
        go_wp2_with fail
        go_roundw
        case rel => exact ⟨k + 1, by omega, by go_num, hcz, by rw [hd2.out]; exact hrow2⟩
        case measure => simp [intOf]; omega
    · obtain rfl : k = L := by omega
      have htk : (ls s).take k = ls s := by rw [← hln, List.take_length]
      rw [htk] at hrow
      obtain ⟨wo, rfl⟩ : ∃ wo, wo = wr := ⟨_, rfl⟩
      have hWo := HW1.out.chg0 hcr
      have hids : Hid (∀ x ∈ dueOf nw (ls s), (Lit.int .i64 x).wf = true) := Lib.hid fun x hx => by
        rw [hD0.out] at hx
        obtain ⟨t, ht, rfl⟩ := List.mem_map.1 hx
        have h2 := HW1.out.wi.out s hs16 t (List.mem_filter.1 ht).1
        have h3 := HW1.out.wi.inl _ _ h2.1
        simp [Lit.wf, IntKind.min, IntKind.max, IntKind.signed, IntKind.bits]; omega
      have hDl : (dueOf nw (ls s)).length ≤ 256 := by
        rw [hD0.out, List.length_map]
        have := List.length_filter_le (fun t : TM => t.at_ == nw) (ls s)
        omega
      have hDe : Hid (dueOf nw (ls s) = dueOf nw (ls s)) := Lib.hid rfl
      have hvf := fun x hx => (own_lt hrow x hx).1
      obtain ⟨A3, c3, hv3⟩ := Sl.form (Sl.of_own hrow)
      clear HRec htk cb h1
      generalize hDg : dueOf nw (ls s) = D at *
      have HDG := Lib.hid hDg
      clear hDg
      subst hv3
      have hfw : ∀ x ∈ foot b m vs, x < w1.heap.size := HW1.out.lt
      generalize hq : D.length = q at *
      go_wp2_with fail
      go_loopw [48] (fun iv wx => ∃ (j : Nat) (vsj : Nat → Value), j ≤ q ∧ iv = .int .i64 j ∧ Wh wx b m n nw vsj (foldL (D.take j) ls) (foldM (D.take j) M) ∧ Chg (foot b m vs) w1 wx ∧ Hid (∀ x ∈ foot b m vsj, x ∈ foot b m vs ∨ w1.heap.size ≤ x) ∧
        wx.ownsRow w1.heap.size 3 1 (.slice A3 q c3) q (D.map (Value.int .i64)) ∧ Hid (∀ x ∈ (Value.slice A3 q c3).ownBlock.toList, x ∉ foot b m vsj)) (fun iv _ => q - (intOf iv).toNat)
      case atStart => exact ⟨0, vs, by omega, rfl, by rw [List.take_zero]; exact hWo, hcr.more (by simp), Lib.hid (fun x hx => .inl hx), hrow, Lib.hid (fun x hx hf => by have := hvf x hx; have := hfw x hf; omega)⟩
      case round =>
        obtain ⟨j, vsj, hj, rfl, hWj, hcj, HF, hrj, HN⟩ := hrel
        by_cases hjq : j < q
        · have hx : D[j]? = some (D[j]'(by omega)) := List.getElem?_eq_getElem _
          generalize D[j]'(by omega) = x at hx
          have htk : D.take (j + 1) = D.take j ++ [x] := by rw [List.take_add_one, hx]; rfl
          obtain ⟨b', o', c', hv, _, _, hg⟩ := Sl.at_ (Sl.of_own hrj) hjq (by omega)
          simp only [Value.slice.injEq, true_and] at hv
          obtain ⟨rfl, rfl⟩ := hv
          have g0 := hg 0 (by omega)
          simp only [Nat.mul_one, Nat.add_zero, List.getElem?_map, hx, Option.map_some] at g0
          have F2 := Lib.hid (unset_any x hWj (hids.out x (List.mem_of_getElem? hx)))
          have HTK := Lib.hid htk
          have hwz := hcj.size
          have hln2 := fun y hy => (own_lt hrj y hy).2
          clear hg hx htk
          go_wp2_with fail
          refine F2.out.mono ?_
          rintro e w6 ⟨rfl, vs6, hW6, hc6, hf6⟩
          clear F2
          go_wp2_with fail
          go_roundw
          case rel =>
            refine ⟨j + 1, vs6, by omega, by go_num, by rw [HTK.out, foldL_snoc, foldM_snoc]; exact hW6, hcj.trans' hc6 (fun y hy => HF.out y hy), Lib.hid (fun y hy => ?_), own_chg hrj hc6 (fun y hy => HN.out y hy), Lib.hid (fun y hy hyf => ?_)⟩
            · rcases hf6 y hy with h2 | h2
              · exact HF.out y h2
              · exact .inr (by omega)
            · rcases hf6 y hyf with h2 | h2
              · exact HN.out y hy h2
              · have := hln2 y hy; omega
          case measure => simp [intOf]; omega
        · obtain rfl : j = q := by omega
          have htk : D.take j = D := by rw [← hq, List.take_length]
          rw [htk] at hWj
          have hwz := hcj.size
          have hin : ∀ x ∈ foot b m vsj, x ∈ foot b m vs ∨ w.heap.size ≤ x := fun x hx => (HF.out x hx).imp (fun h => h) (fun h => by omega)
          have hct : Hid (Chg (foot b m vs) w wr) := Lib.hid (((hc01.more (fun x hx => by simp at hx; subst hx; exact mem_foot.2 (.inl rfl))) : Chg (foot b m vs) w w1).trans hcj)
          rcases hrj.2 with ⟨hvn, hn0⟩ | ⟨g, cap, cur, hvn, hbase, hb, h1, h2, h3, h4⟩
          · simp only [Value.slice.injEq] at hvn
            obtain ⟨rfl, rfl, rfl⟩ := hvn
            have hDn : D = [] := List.eq_nil_of_length_eq_zero hq
            have HDn := Lib.hid hDn
            clear hrj
            go_wp2_with (first | (go_at_call 65; refine (Tryz.slices_Sort_int_none _ _ _).mono ?_; rintro e w' ⟨rfl, rfl⟩) | fail)
            go_ret
            obtain ⟨rfl, rfl⟩ := HNW.out
            refine ⟨_, D, rfl, HDG.out.symm, ?_, vsj, hWj, hct.out, hin, fun x hx => by simp [Value.ownBlock] at hx⟩
            rw [HDn.out]
            simpa using World.ownsRow_nil ..
          · simp only [Value.slice.injEq, true_and] at hvn
            obtain ⟨rfl, rfl⟩ := hvn
            have hH := holds_of_blockI (ss := D) hb (by rw [hq]; simpa using h4)
            have hgl : g < wr.heap.size := (Array.getElem?_eq_some_iff.1 hb).1
            have hc := Tryz.slices_Sort_int g 0 c3 D wr hH hgl (by omega)
            rw [hq] at hc
            have hgn := HN.out g (by simp [Value.ownBlock])
            have HC := Lib.hid hc
            clear hrj hH hc
            go_wp2_with (first | (go_at_call 65; refine HC.out.mono ?_; rintro e w' ⟨rfl, nn, os, rfl⟩) | fail)
            go_ret
            have hgr : Chg [g] wr (grow (putRow (Value.int .i64) (Sort.ahead wr nn) g 0 (D.mergeSort fun x y => decide (x ≤ y)).toArray) os) := (Chg.refl _ _).grown (grownBy_sortedI _) (fun k e => by cases e; exact .inl (by simp))
            obtain ⟨rfl, rfl⟩ := HNW.out
            refine ⟨_, D, rfl, HDG.out.symm, ?_, vsj, hWj.chg hgr (fun x hx => by simp at hx; subst hx; exact hgn), hct.out.trans' hgr (fun x hx => by simp at hx; subst hx; exact .inr (by omega)), hin, HN.out⟩
            have hrow9 := ownsRow_sortedI (ts := D.mergeSort fun x y => decide (x ≤ y)) (ss := D) (n := nn) (os := os) (by simp) hbase hb (by omega) h2 h3
            have := own_base9 hrow9 (base' := w.heap.size) (by omega)
            rw [hq] at this ⊢
            exact this
end Go.Proofs.YtldgdpekhjignaaGreat
