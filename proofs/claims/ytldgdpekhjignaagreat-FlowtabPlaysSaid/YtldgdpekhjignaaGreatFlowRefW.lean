/-
  WALK: the document's sort of flows (chapter 14). Condition: at most 1000 flows, each reads as a flow.
-/
import Derived.Test.YtldgdpekhjignaaGreatFlowRef
import Derived.Test.YtldgdpekhjignaaGreatRowQ
import Derived.Deep.DeepCutAuto
import Derived.Deep.CutBlock
set_option linter.unusedVariables false
set_option linter.unusedSimpArgs false
namespace Go.Proofs.YtldgdpekhjignaaGreat
open Go.RowKit Go.Maps

def bI : Option Nat → Int | none => -1 | some k => k
set_option maxRecDepth 100000 in
set_option maxHeartbeats 2000000 in
theorem fsort14_any {w : World} {v : Value} {l : List Fl} (h : SlF w v l) (hl : l.length ≤ 1000) (hok : ∀ x ∈ l, okF x) :
    Calls Tryz.prog 51 #[v] w fun e w' => ∃ v' o, e = .returned v' ∧ SrtF o ∧ (∀ x, x ∈ o ↔ x ∈ l) ∧ Sl w' w.heap.size 34 v' o.length (o.flatMap encF) ∧ Chg [] w w' := by
  obtain ⟨A, c, rfl⟩ := Sl.form h
  have HR := Lib.hid (fun W (hc : Chg [] w W) i x hx => SlF.one (h.chg0 hc) rfl (i := i) (x := x) hx)
  have HX : Hid (∀ i, i < l.length → ∃ x, l[i]? = some x ∧ okF x) := Lib.hid fun i hi => ⟨_, List.getElem?_eq_getElem hi, hok _ (List.getElem_mem hi)⟩
  have HOK := Lib.hid hok
  have h0 : w.ownsRow w.heap.size 38 34 (.slice none 0 0) ([] : List Fl).length (([] : List Fl).flatMap encF) := World.ownsRow_nil ..
  have HLEN : Hid (∀ o, OutF l o → o.length ≤ l.length) := Lib.hid fun o ho => ho.len
  clear h hok
  generalize hN : l.length = N at *
  go_enter Tryz.func51, Tryz.ntmps51
  go_wp2_with fail
  go_loopw [3] (fun ov wr => ∃ o : List Fl, Hid (OutF l o) ∧ wr.ownsRow w.heap.size 38 34 ov o.length (o.flatMap encF) ∧ Hid (Chg [] w wr)) (fun ov _ => N + 1 - (match ov with | .slice _ n _ => n | _ => 0))
  case atStart => exact ⟨[], Lib.hid (OutF.nil l), h0, Lib.hid (Chg.refl _ _)⟩
  case round =>
    obtain ⟨o, HO, hrow, HC⟩ := hrel
    have hlen := HLEN.out o HO.out
    obtain ⟨A2, c2, rfl⟩ := Sl.form (Sl.of_own hrow)
    have HROW := Lib.hid hrow
    have HSL : Hid (SlF wr (.slice A2 o.length c2) o) := Lib.hid ((Sl.of_own hrow).less (Nat.zero_le _))
    clear h0 hrow
    generalize hn : o.length = n at *
    have HN := Lib.hid hn
    have hb1 : ((n : Int) ≤ (N : Int)) := by omega
    clear hn
    generalize wr = wo at *
    go_wp2_with fail
    go_loopw [4, 5] (fun bv iv wi => ∃ (i : Nat) (b : Option Nat), i ≤ N ∧ iv = .int .i64 i ∧ bv = .int .i64 (bI b) ∧ Hid (BestF l o i b) ∧ Hid (Chg [] wo wi)) (fun _ iv _ => N - (intOf iv).toNat)
    case atStart => exact ⟨0, none, by omega, rfl, rfl, Lib.hid (BestF.start l o), Lib.hid (Chg.refl _ _)⟩
    case round =>
      obtain ⟨i, b, hi, rfl, rfl, HB, HCI⟩ := hrel
      by_cases hlt : i < N
      · obtain ⟨x, hx, hxo⟩ := HX.out i hlt
        obtain ⟨b1, o1, rfl, hrg⟩ := HR.out _ (HC.out.trans HCI.out) i x hx
        have R1 := Lib.hid (fun w' (hc : Chg [] wr w') => rangeAt_chg hrg hc (by simp))
        have HXX := Lib.hid (And.intro hx hxo)
        clear hrg hx hxo
        go_upto_region 7 with fail
        go_cut [6] (fun lv wx => lv = .bool (lateF o x) ∧ Hid (Chg [] wr wx))
        case first =>
          rcases List.eq_nil_or_concat o with rfl | ⟨o', y, rfl⟩
          · obtain rfl : 0 = n := HN.out
            have hn0 : (((0 : Nat) : Int) == 0) = true := rfl
            refine wp_region_chg (by kernel_rfl) (by kernel_rfl) ?_
            repeat (first
              | ((with_reducible refine wpQuiet_skip ?_ ?_); (focus rfl); (try simp only [List.getElem_toArray, List.getElem_cons_succ, List.getElem_cons_zero, Act.put, List.setIfInBounds_toArray, List.set_cons_zero, List.set_cons_succ]))
              | ((with_reducible refine wpQuiet_pure (v := ?_) ?_ (fun w => ?_) ?_); rotate_left; (focus rfl); (focus (go_simp <;> with_reducible rfl)); (try simp only [List.getElem_toArray, List.getElem_cons_succ, List.getElem_cons_zero, Act.put, List.setIfInBounds_toArray, List.set_cons_zero, List.set_cons_succ])))
            refine wpQuiet_nil ?_
            intro w7 hc7
            have HC7 := Lib.hid hc7
            clear hc7
            go_wp2_with fail
            go_meet
            exact ⟨rfl, HC7⟩
          · rw [List.concat_eq_append] at *
            obtain ⟨m, hm⟩ : ∃ m, o'.length = m := ⟨_, rfl⟩
            obtain rfl : m + 1 = n := by rw [← HN.out, ← hm]; simp
            have HYO : Hid (okF y) := Lib.hid (HOK.out y (HO.out.sub y (by simp)))
            obtain ⟨g2, oo2, rfl, hy2⟩ := SlF.one HSL.out HN.out (i := m) (x := y) (by rw [← hm]; simp)
            have RY := Lib.hid (fun w' (hc : Chg [] wr w') => rangeAt_chg hy2 (HCI.out.trans hc) (by simp))
            have F7 := Lib.hid (fun w' (hc : Chg [] wr w') => (flless14 HYO.out HXX.out.2 w').mono fun (e : Ending) w'' ⟨h1, h2⟩ => (⟨h1, hc.trans h2.chg⟩ : e = Ending.returned (.bool (lessF y x)) ∧ Chg [] wr w''))
            have hwn : IntKind.i64.wrap (((m + 1 : Nat) : Int) - 1) = (m : Int) := by rw [IntKind.wrap_i64]; omega
            have hn0 : (((m + 1 : Nat) : Int) == 0) = false := by simp; omega
            have hwn1 : IntKind.i64.wrap (m : Int) = (m : Int) := by rw [IntKind.wrap_i64]; omega
            have hq1 : (m : Int) < (m : Int) + 1 := by omega
            have hn1 : ((m : Int) + 1 == 0) = false := by simp; omega
            have hq3 : (0 : Int) ≤ (m : Int) := by omega
            have HLA := Lib.hid (lateF_snoc o' y x)
            clear hy2 hm
            refine wp_region_chg (by kernel_rfl) (by kernel_rfl) ?_
            repeat (first
              | ((with_reducible refine wpQuiet_rowC 38 (.tmp 26) ?_ ?_ g2 _ ?_ (arrF y) _ RY.out Tryz.underlying38 ?_ infF ?_); (focus rfl); (focus rfl); (focus rfl); (focus rfl); (try simp only [List.getElem_toArray, List.getElem_cons_succ, List.getElem_cons_zero, Act.put, List.setIfInBounds_toArray, List.set_cons_zero, List.set_cons_succ]))
              | ((with_reducible refine wpQuiet_rowC 38 (.tmp 30) ?_ ?_ b1 _ ?_ (arrF x) _ R1.out Tryz.underlying38 ?_ infF ?_); (focus rfl); (focus rfl); (focus rfl); (focus rfl); (try simp only [List.getElem_toArray, List.getElem_cons_succ, List.getElem_cons_zero, Act.put, List.setIfInBounds_toArray, List.set_cons_zero, List.set_cons_succ]))
              | ((with_reducible refine wpQuiet_pure (v := ?_) ?_ (fun w => ?_) ?_); rotate_left; (focus rfl); (focus (go_simp <;> with_reducible rfl)); (try simp only [List.getElem_toArray, List.getElem_cons_succ, List.getElem_cons_zero, Act.put, List.setIfInBounds_toArray, List.set_cons_zero, List.set_cons_succ]); (try simp only [hn0, hwn, hn1, hwn1]))
              | ((with_reducible refine wpQuiet_do ?_ (fun K hK => ?_)); (focus rfl); go_simp; (apply Exists.intro); (refine ⟨fun W hW => ?_, hK _ ?_⟩); (first | exact F7.out W hW); (clear hK K); (try simp only [List.getElem_toArray, List.getElem_cons_succ, List.getElem_cons_zero, Act.put, List.setIfInBounds_toArray, List.set_cons_zero, List.set_cons_succ])))
            refine wpQuiet_nil ?_
            intro w7 hc7
            have HC7 := Lib.hid hc7
            clear hc7
            go_wp2_with fail
            go_meet
            exact ⟨by rw [HLA.out], HC7⟩
        case rest =>
          obtain ⟨rfl, HC7⟩ := hcut
          have HLT := Lib.hid (rfl : lateF o x = lateF o x)
          revert HLT
          generalize hlt0 : lateF o x = lt0
          intro HLT
          have HLX := Lib.hid hlt0
          clear HLT hlt0
          go_upto_region 8 with fail
          go_cut [49] (fun tv wx => ∃ tb : Bool, tv = .bool tb ∧ Hid (BestF l o (i + 1) (if tb then some i else b)) ∧ Hid (Chg [] wr wx))
          case first =>
            have hlate := HLX.out
            cases lt0 with
            | false =>
              have HBN := Lib.hid (HB.out.skip HXX.out.1 hlate)
              have HLA := Lib.hid hlate
              clear hlate
              refine wp_region_chg (by kernel_rfl) (by kernel_rfl) ?_
              repeat (first
                | ((with_reducible refine wpQuiet_skip ?_ ?_); (focus rfl); (try simp only [List.getElem_toArray, List.getElem_cons_succ, List.getElem_cons_zero, Act.put, List.setIfInBounds_toArray, List.set_cons_zero, List.set_cons_succ]))
                | ((with_reducible refine wpQuiet_pure (v := ?_) ?_ (fun w => ?_) ?_); rotate_left; (focus rfl); (focus (go_simp <;> with_reducible rfl)); (try simp only [List.getElem_toArray, List.getElem_cons_succ, List.getElem_cons_zero, Act.put, List.setIfInBounds_toArray, List.set_cons_zero, List.set_cons_succ])))
              refine wpQuiet_nil ?_
              intro w8 hc8
              have HC8 := Lib.hid (HC7.out.trans hc8)
              clear hc8
              go_wp2_with fail
              go_meet
              exact ⟨false, rfl, HBN, HC8⟩
            | true =>
              rcases b with _ | k
              · have HBN := Lib.hid (HB.out.first HXX.out.1 hlate)
                have HLA := Lib.hid hlate
                clear hlate
                refine wp_region_chg (by kernel_rfl) (by kernel_rfl) ?_
                repeat (first
                  | ((with_reducible refine wpQuiet_skip ?_ ?_); (focus rfl); (try simp only [List.getElem_toArray, List.getElem_cons_succ, List.getElem_cons_zero, Act.put, List.setIfInBounds_toArray, List.set_cons_zero, List.set_cons_succ]))
                  | ((with_reducible refine wpQuiet_pure (v := ?_) ?_ (fun w => ?_) ?_); rotate_left; (focus rfl); (focus (go_simp <;> with_reducible rfl)); (try simp only [List.getElem_toArray, List.getElem_cons_succ, List.getElem_cons_zero, Act.put, List.setIfInBounds_toArray, List.set_cons_zero, List.set_cons_succ])))
                refine wpQuiet_nil ?_
                intro w8 hc8
                have HC8 := Lib.hid (HC7.out.trans hc8)
                clear hc8
                go_wp2_with fail
                go_meet
                exact ⟨true, rfl, HBN, HC8⟩
              · simp only [bI]
                obtain ⟨hki, z, hz, _, _⟩ := id HB.out
                have hkN : k < N := by omega
                have hkb8 : decide ((k : Int) < 0) = false := by simp
                obtain ⟨x2, hx2, hzo⟩ := HX.out k hkN
                rw [hz] at hx2
                obtain rfl : z = x2 := by injection hx2
                obtain ⟨b2, o2, hAA, hrg2⟩ := HR.out _ ((HC.out.trans HCI.out).trans HC7.out) k z hz
                obtain ⟨rfl, rfl⟩ : b1 = b2 ∧ o1 = o2 := by injection hAA with hAA; injection hAA with h1 h2; exact ⟨h1, h2⟩
                have R2 := Lib.hid (fun w' (hc : Chg [] wc w') => rangeAt_chg hrg2 hc (by simp))
                have R3 := Lib.hid (fun w' (hc : Chg [] wc w') => R1.out w' (HC7.out.trans hc))
                have F8 := Lib.hid (fun w' (hc : Chg [] wc w') => (flless14 HXX.out.2 hzo w').mono fun (e : Ending) w'' ⟨h1, h2⟩ => (⟨h1, hc.trans h2.chg⟩ : e = Ending.returned (.bool (lessF x z)) ∧ Chg [] wc w''))
                have HBN : Hid (BestF l o (i + 1) (if lessF x z = true then some i else some k)) := Lib.hid (by
                  cases hlt8 : lessF x z with
                  | true => exact HB.out.better HXX.out.1 hz hlate hlt8
                  | false => exact HB.out.keep HXX.out.1 hz hlt8)
                clear hrg2 hAA hx2 hz hzo hlate
                refine wp_region_chg (by kernel_rfl) (by kernel_rfl) ?_
                repeat (first
                  | ((with_reducible refine wpQuiet_rowC 38 (.tmp 41) ?_ ?_ b1 _ ?_ (arrF x) _ R3.out Tryz.underlying38 ?_ infF ?_); (focus rfl); (focus rfl); (focus rfl); (focus rfl); (try simp only [List.getElem_toArray, List.getElem_cons_succ, List.getElem_cons_zero, Act.put, List.setIfInBounds_toArray, List.set_cons_zero, List.set_cons_succ]))
                  | ((with_reducible refine wpQuiet_rowC 38 (.tmp 45) ?_ ?_ b1 _ ?_ (arrF z) _ R2.out Tryz.underlying38 ?_ infF ?_); (focus rfl); (focus rfl); (focus rfl); (focus rfl); (try simp only [List.getElem_toArray, List.getElem_cons_succ, List.getElem_cons_zero, Act.put, List.setIfInBounds_toArray, List.set_cons_zero, List.set_cons_succ]))
                  | ((with_reducible refine wpQuiet_pure (v := ?_) ?_ (fun w => ?_) ?_); rotate_left; (focus rfl); (focus (go_simp <;> with_reducible rfl)); (try simp only [List.getElem_toArray, List.getElem_cons_succ, List.getElem_cons_zero, Act.put, List.setIfInBounds_toArray, List.set_cons_zero, List.set_cons_succ]); (try simp only [hkb8]))
                  | ((with_reducible refine wpQuiet_do ?_ (fun K hK => ?_)); (focus rfl); go_simp; (apply Exists.intro); (refine ⟨fun W hW => ?_, hK _ ?_⟩); (first | exact F8.out W hW); (clear hK K); (try simp only [List.getElem_toArray, List.getElem_cons_succ, List.getElem_cons_zero, Act.put, List.setIfInBounds_toArray, List.set_cons_zero, List.set_cons_succ])))
                refine wpQuiet_nil ?_
                intro w8 hc8
                have HC8 := Lib.hid (HC7.out.trans hc8)
                clear hc8 R2 R3 F8
                go_wp2_with fail
                go_meet
                exact ⟨lessF x z, rfl, HBN, HC8⟩
          case rest =>
            obtain ⟨tb, rfl, HBN, HC8⟩ := hcut
            have HCN := Lib.hid (HCI.out.trans HC8.out)
            clear HB R1
            cases tb with
            | true =>
              go_wp2_with fail
              go_roundw
              case rel => exact ⟨i + 1, some i, by omega, by go_num, by first | rfl | simp [bI] | go_num, HBN, HCN⟩
              case measure => simp [intOf]; omega
            | false =>
              go_wp2_with fail
              go_roundw
              case rel => exact ⟨i + 1, b, by omega, by go_num, rfl, HBN, HCN⟩
              case measure => simp [intOf]; omega
      · obtain rfl : i = N := by omega
        rcases b with _ | k
        · have HD : Hid (OutF l o ∧ ∀ x, x ∈ o ↔ x ∈ l) := Lib.hid ⟨HO.out, HO.out.done (fun y hy => by
            obtain ⟨j, hj, rfl⟩ := List.mem_iff_getElem.1 hy
            exact HB.out j _ (by omega) (List.getElem?_eq_getElem hj))⟩
          have HCW := Lib.hid (HC.out.trans HCI.out)
          have HSF := Lib.hid (Sl.chg0 ((Sl.of_own HROW.out)) HCI.out)
          clear HB HCI HC HROW HSL HO HX HR
          simp only [bI]
          go_wp2_with fail
          go_ret
          refine ⟨_, o, rfl, HD.out.1.srt, HD.out.2, ?_, HCW.out⟩
          rw [HN.out]
          exact HSF.out
        · obtain ⟨hki, z, hz, hzl, hzm⟩ := id HB.out
          obtain ⟨x2, hx2, hzo⟩ := HX.out k hki
          obtain ⟨b2, o2, rfl, hrg2⟩ := HR.out _ (HC.out.trans HCI.out) k z hz
          have HON : Hid (OutF l (o ++ [z])) := Lib.hid (HO.out.step (List.mem_of_getElem? hz) hzl (fun y hy hl => by
            obtain ⟨j, hj, rfl⟩ := List.mem_iff_getElem.1 hy
            exact hzm j _ (by omega) (List.getElem?_eq_getElem hj) hl))
          have HRZ := Lib.hid hrg2
          have hcat := litFl wr z
          have hone : Hid (∀ u ∈ encF z, u.oneCell' = true) := Lib.hid (encF_one z)
          have hrow4 := own_chg HROW.out HCI.out (by simp)
          have hrow5 := own_chg hrow4 ((Chg.refl [] wr).alloc (.cells (arrF z) 38)) (by simp)
          have hkb : decide ((k : Int) < 0) = false := by simp
          have HHH := Lib.hid (HC.out.trans HCI.out)
          have hszz := HHH.out.size
          clear hrg2 hz hzl hzm hx2 hzo HB HCI HROW HSL HO hrow4
          simp only [bI]
          go_wp2_with (first
            | (refine wpList_row 38 (.tmp 56) rfl rfl b2 _ rfl _ _ HRZ.out Tryz.underlying38 rfl infF ?_)
            | (at_builtin; refine wpList_app elFl rfl (.tmp 53) (.tmp 58) rfl w.heap.size rfl hrow5 rfl hcat hone.out (by unfold maxLen; omega) (by omega) (by first | omega | (simp; omega)) ?_; intro v9 w9 hown9 hc9 hb9)
            | fail)
          have hlt9 := own_lt hrow5
          have HC9 : Hid (Chg [] w w9) := Lib.hid ((HHH.out.alloc _).trans' hc9 (fun y hy => .inr (hlt9 y hy).1))
          obtain ⟨A9, c9, e9⟩ := Sl.form (Sl.of_own hown9)
          have hrow9 : w9.ownsRow w.heap.size 38 34 v9 (o ++ [z]).length ((o ++ [z]).flatMap encF) := by
            rw [← flat_snoc, List.length_append, HN.out]; exact hown9
          clear hc9 hb9 hcat hrow5 hlt9 hown9
          go_roundw
          case rel => exact ⟨o ++ [z], HON, hrow9, HC9⟩
          case measure => rw [e9]; simp <;> omega
end Go.Proofs.YtldgdpekhjignaaGreat
