/-
  WALK: ScriptTexts. Conditions: Gl; the numbers are ints.
-/
import Derived.Test.YtljgemknccodeaaDoorScU
set_option linter.unusedVariables false
set_option linter.unusedSimpArgs false
namespace Go.Proofs.YtljgemknccodeaaDoor
open Go.RowKit

/-- A step's numbers are ints. -/
structure I64St (s : St) : Prop where
  kd : I64s s.kind
  n : I64s s.n
  m : I64s s.m
  k : I64s s.k
set_option maxRecDepth 100000 in
set_option maxHeartbeats 8000000 in
theorem texts46 {w : World} {v : Value} {es : List SV} (h : SlT w 0 v es) (hS : StsR w [] es) (hi : ∀ x ∈ es, I64St x.1) (hl : es.length ≤ 9223372036854775807) (hg : Gl w) : Calls Tryd.prog 4 #[v] w fun e w' => e = .returned (.bool true) ∧ Chg [] w w' := by
  have F1 := Lib.hid (small_any h hS hl)
  have FL := Lib.hid (fun W (hW : Chg [] w W) => lives46 (hg.chg hW))
  have HM := Lib.hid (fun W (hW : Chg [] w W) => And.intro (show SlT W 0 v es from Sl.chg0 h hW) (hS.chg0 hW))
  have HI := Lib.hid hi
  have HG := Lib.hid hg
  obtain ⟨A, c, hf⟩ := Sl.form h
  subst hf
  clear h hS hi hg
  go_enter Tryd.func4, Tryd.ntmps4
  go_wp2_with fail
  refine F1.out.mono ?_
  rintro e w1 ⟨r, rfl, hr, rfl⟩
  cases r with
  | false =>
    clear hr F1 HM HI
    go_wp2_with fail
    refine (FL.out w (Chg.refl _ _)).mono ?_
    rintro e w2 ⟨rfl, hc2⟩
    have HC2 := Lib.hid hc2
    clear hc2 FL
    go_wp2_with fail
    go_ret
    exact ⟨rfl, HC2.out⟩
  | true =>
    obtain ⟨h40, hb⟩ := hr rfl
    have HOK : Hid (∀ x ∈ es, OkSt x.1) := Lib.hid fun x hx => ⟨(HI.out x hx).kd, (HI.out x hx).n, (HI.out x hx).m, (HI.out x hx).k, hb x hx⟩
    have FSH := Lib.hid (fun W (hW : Chg [] w W) => show_any (HM.out W hW).1 (HM.out W hW).2 HOK.out (by omega) (HG.out.chg hW))
    have HX : Hid (∀ i, i < es.length → ∃ s v, es[i]? = some (s, v) ∧ OkSt s) := Lib.hid fun i hi => ⟨es[i].1, es[i].2, List.getElem?_eq_getElem hi, HOK.out _ (List.getElem_mem hi)⟩
    have HLN : Hid (∀ k, k ≤ es.length → (showP ((es.take k).map (·.1))).length ≤ 3301 * k) := Lib.hid fun k hk => by
      have := showP_len (L := (es.take k).map (·.1)) (fun s hs => by
        obtain ⟨x, hx, rfl⟩ := List.mem_map.1 hs
        exact HOK.out x (List.mem_of_mem_take hx))
      rw [List.length_map, List.length_take] at this
      have h2 : min k es.length = k := by omega
      rw [h2] at this
      exact this
    have HF : Hid (showP (es.map (·.1)) = showP ((es.take es.length).map (·.1))) := Lib.hid (by rw [List.take_length])
    clear hr hb F1 HI HOK
    generalize hn : es.length = n at *
    clear hn
    go_wp2_with fail
    go_loopw [3, 4] (fun sv iv wr => ∃ (k : Nat) (L : Bs), k ≤ n ∧ sv = str L ∧ iv = .int .i64 k ∧ L.length ≤ 3301 * k ∧ Hid (L = showP ((es.take k).map (·.1))) ∧ Hid (Chg [] w wr)) (fun _ iv _ => n - (intOf iv).toNat)
    case atStart => exact ⟨0, [], by omega, rfl, rfl, by simp, Lib.hid (by simp [showP]), Lib.hid (Chg.refl _ _)⟩
    case round =>
      obtain ⟨k, L, hk, rfl, rfl, hLl, HL, HC⟩ := hrel
      by_cases hlt : k < n
      · have hcn : (k : Int) < (n : Int) := by omega
        obtain ⟨s, vs, hx, hso⟩ := HX.out k hlt
        obtain ⟨m1, m3⟩ := HM.out wr HC.out
        have y1 : SlY wr 0 vs s.b := (m3 _ (List.mem_of_getElem? hx)).1
        obtain ⟨A', c', rfl⟩ := Sl.form y1
        obtain ⟨b, o, rfl, hr1⟩ := SlT.one m1 hx
        have htl := text_len hso
        have HT : Hid (L ++ textP s ++ [10] = showP ((es.take (k + 1)).map (·.1))) := Lib.hid (by
          rw [List.take_add_one, hx, HL.out]
          show _ = showP ((es.take k ++ [(s, Value.slice A' s.b.length c')]).map (·.1))
          rw [List.map_append]
          exact (showP_snoc _ s).symm)
        have F7 := Lib.hid (text46_any y1 hso)
        have F8 := Lib.hid (fun W (hW : Chg [] wr W) => text_any (Sl.chg0 y1 hW) hso (HG.out.chg (HC.out.trans hW)))
        have HR := Lib.hid (fun W (hW : Chg [] wr W) => range_chg0 hr1 hW)
        have ha1 := run_add (a := L) (b := textP s) (by omega)
        have ha2 := run_add (a := L ++ textP s) (b := [10]) (by simp; omega)
        rw [show bsA [10] = ({ data := #[10] } : ByteArray) from rfl] at ha2
        have heq : ((bsA (textP s)).toList == (bsA (textP s)).toList) = true := by simp
        have hTl : (L ++ textP s ++ [10]).length ≤ 3301 * (k + 1) := by simp; omega
        generalize textP s = t at *
        clear m1 m3 y1 hx HL hso HX HM HLN FSH FL HF HG
        go_wp2_with (first
          | (refine wpList_row 32 (.tmp 18) rfl rfl b (o + k * 5) rfl (arrSt s (.slice A' s.b.length c')) _ hr1 Tryd.underlying32 rfl infS ?_)
          | fail)
        refine F7.out.mono ?_
        rintro e w3 ⟨rfl, hc3⟩
        have HC3 := Lib.hid hc3
        have hr3 := HR.out w3 hc3
        clear hc3 F7 hr1
        go_wp2_with (first
          | (refine wpList_row 32 (.tmp 23) rfl rfl b (o + k * 5) rfl (arrSt s (.slice A' s.b.length c')) _ hr3 Tryd.underlying32 rfl infS ?_)
          | fail)
        refine (F8.out w3 HC3.out).mono ?_
        rintro e w4 ⟨rfl, hc4⟩
        have HC4 := Lib.hid (HC.out.trans (HC3.out.trans hc4))
        clear hc4 F8 hr3 HR HC3
        go_wp2_with fail
        go_roundw
        case rel => exact ⟨k + 1, L ++ t ++ [10], by omega, by simp, by go_num, hTl, HT, HC4⟩
        case measure => simp [intOf] <;> omega
      · obtain rfl : k = n := by omega
        have HQ : Hid (showP (es.map (·.1)) = L) := Lib.hid (by rw [HF.out, HL.out])
        have FS := Lib.hid (FSH.out wr HC.out)
        rw [HQ.out] at FS
        have heq : ((bsA L).toList == (bsA L).toList) = true := by simp
        clear HF HL HX HM HLN FSH HQ
        go_wp2_with fail
        refine FS.out.mono ?_
        rintro e w5 ⟨rfl, hc5⟩
        have HC5 := Lib.hid (HC.out.trans hc5)
        clear hc5 FS
        go_wp2_with fail
        refine (FL.out w5 HC5.out).mono ?_
        rintro e w6 ⟨rfl, hc6⟩
        have HC6 := Lib.hid (HC5.out.trans hc6)
        clear hc6 FL
        go_wp2_with fail
        go_ret
        exact ⟨rfl, HC6.out⟩
end Go.Proofs.YtljgemknccodeaaDoor
