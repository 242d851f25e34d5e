/-
  WALK: ScriptBack. Conditions: Gl; the numbers are ints.
-/
import Derived.Test.YtljgemknccodeaaDoorScW
import Derived.Test.YtljgemknccodeaaDoorScTexts
set_option linter.unusedVariables false
set_option linter.unusedSimpArgs false
namespace Go.Proofs.YtljgemknccodeaaDoor
open Go.RowKit

theorem plain_out {w : World} {A : Option Addr} {nn c : Nat} {s : St} (hk : 0 ≤ s.kind ∧ s.kind ≤ 13) (hy : SlY w 0 (.slice A nn c) s.b) : Calls Tryd.prog 17 #[.agg (arrSt s (.slice A nn c))] w fun e w' => ∃ A2 n2 c2, e = .returned (.agg (arrSt (plainS s) (.slice A2 n2 c2))) ∧ SlY w' 0 (.slice A2 n2 c2) (plainS s).b ∧ (0 < (plainS s).b.length → 0 < s.b.length ∧ ∀ y ∈ blkOf (.slice A2 n2 c2), y ∈ blkOf (.slice A nn c)) ∧ Chg [] w w' := by
  refine (plain_any (A := A) (nn := nn) (c := c) hk).mono ?_
  rintro e w' ⟨rfl, hc⟩
  by_cases h13 : s.kind = 13
  · have eb : (plainS s).b = s.b := by unfold plainS; simp only; rw [if_pos h13]
    refine ⟨A, nn, c, by rw [if_pos h13], ?_, ?_, hc⟩
    · rw [eb]; exact Sl.chg0 hy hc
    · rw [eb]; exact fun h => ⟨h, fun y hy => hy⟩
  · have eb : (plainS s).b = [] := by unfold plainS; simp only; rw [if_neg h13]
    refine ⟨none, 0, 0, by rw [if_neg h13], ?_, ?_, hc⟩
    · rw [eb]; exact Sl.nil _ _ _
    · rw [eb]; intro h; simp at h
theorem text_out {s : St} (h : s.kind < 0 ∨ 13 < s.kind) : textP s = [] := by
  unfold textP
  rw [if_neg (by omega)]
  unfold baseT
  rw [show numW s.kind = 0 by unfold numW; rw [if_neg (by omega)], show wordP s.kind = [] by unfold wordP; rw [if_neg (by omega)]]
  rfl
set_option maxRecDepth 100000 in
set_option maxHeartbeats 8000000 in
theorem back46 {w : World} {v : Value} {es : List SV} (h : SlT w 0 v es) (hS : StsR w [] es) (hi : ∀ x ∈ es, I64St x.1) (hl : es.length ≤ 9223372036854775807) (hg : Gl w) : Calls Tryd.prog 5 #[v] w fun e w' => e = .returned (.bool true) ∧ Chg [] w w' := by
  have F1 := Lib.hid (small_any h hS hl)
  have FL := Lib.hid (fun W (hW : Chg [] w W) => lives46 (hg.chg hW))
  have HM := Lib.hid (fun W (hW : Chg [] w W) => And.intro (show SlT W 0 v es from Sl.chg0 h hW) (hS.chg0 hW))
  have HLO : Hid (∀ x ∈ es, 0 < x.1.b.length → ∀ y ∈ blkOf x.2, y < w.heap.size) := Lib.hid fun x hx hn y hy => ((hS x hx).2 hn y hy).2
  have HI := Lib.hid hi
  have HG := Lib.hid hg
  obtain ⟨A, c, hf⟩ := Sl.form h
  subst hf
  clear h hS hi hg
  go_enter Tryd.func5, Tryd.ntmps5
  go_wp2_with fail
  refine F1.out.mono ?_
  rintro e w1 ⟨r, rfl, hr, rfl⟩
  cases r with
  | false =>
    clear hr F1 HM HI HLO
    go_wp2_with fail
    refine (FL.out w (Chg.refl _ _)).mono ?_
    rintro e w2 ⟨rfl, hc2⟩
    have HC2 := Lib.hid hc2
    clear hc2 FL
    go_wp2_with fail
    go_ret
    exact ⟨rfl, HC2.out⟩
  | true =>
    obtain ⟨h40, hb⟩ := hr rfl
    have HOK : Hid (∀ x ∈ es, OkSt x.1) := Lib.hid fun x hx => ⟨(HI.out x hx).kd, (HI.out x hx).n, (HI.out x hx).m, (HI.out x hx).k, hb x hx⟩
    have FSH := Lib.hid (fun W (hW : Chg [] w W) => show_any (HM.out W hW).1 (HM.out W hW).2 HOK.out (by omega) (HG.out.chg hW))
    have HX : Hid (∀ i, i < es.length → ∃ s v, es[i]? = some (s, v) ∧ OkSt s) := Lib.hid fun i hi => ⟨es[i].1, es[i].2, List.getElem?_eq_getElem hi, HOK.out _ (List.getElem_mem hi)⟩
    have HLN : Hid ((showP (es.map (·.1))).length ≤ 3301 * es.length) := Lib.hid (by
      have := showP_len (L := es.map (·.1)) (fun s hs => by
        obtain ⟨x, hx, rfl⟩ := List.mem_map.1 hs
        exact HOK.out x hx)
      rw [List.length_map] at this
      exact this)
    have HF : Hid ((∀ x ∈ es.take es.length, 0 ≤ x.1.kind ∧ x.1.kind ≤ 13) → readP (showP (es.map (·.1))) = .inr ((es.take es.length).map fun x => plainS x.1)) := Lib.hid fun hk => by
      rw [List.take_length] at hk ⊢
      unfold readP
      rw [read_show (es.map (·.1)) 0 (fun s hs => by
        obtain ⟨x, hx, rfl⟩ := List.mem_map.1 hs
        exact ⟨HOK.out x hx, hk x hx⟩)]
      simp
    clear hr hb F1 HI HOK
    generalize hn : es.length = n at *
    clear hn
    go_wp2_with fail
    go_loopw [3, 4] (fun ov iv wr => ∃ (k : Nat) (os : List SV), k ≤ n ∧ iv = .int .i64 k ∧ os.length = k ∧ Hid (os.map (·.1) = (es.take k).map fun x => plainS x.1) ∧ Hid (∀ x ∈ es.take k, 0 ≤ x.1.kind ∧ x.1.kind ≤ 13) ∧ Hid (OwT 35 wr w.heap.size ov os ∧ StsR wr ov.ownBlock.toList os) ∧ Hid (Chg [] w wr)) (fun _ iv _ => n - (intOf iv).toNat)
    case atStart => exact ⟨0, [], by omega, rfl, rfl, Lib.hid rfl, Lib.hid (by simp), Lib.hid ⟨World.ownsRow_nil .., fun x hx => absurd hx (by simp)⟩, Lib.hid (Chg.refl _ _)⟩
    case round =>
      obtain ⟨k, os, hk, rfl, hos, HE, HK, HO, HC⟩ := hrel
      by_cases hlt : k < n
      · have hcn : (k : Int) < (n : Int) := by omega
        obtain ⟨s, vs, hx, hso⟩ := HX.out k hlt
        obtain ⟨m1, m3⟩ := HM.out wr HC.out
        have y1 : SlY wr 0 vs s.b := (m3 _ (List.mem_of_getElem? hx)).1
        have HY1 : Hid (0 < s.b.length → ∀ y ∈ blkOf vs, y < w.heap.size) := Lib.hid (HLO.out _ (List.mem_of_getElem? hx))
        obtain ⟨A', c', rfl⟩ := Sl.form y1
        obtain ⟨b, o, rfl, hr1⟩ := SlT.one m1 hx
        have HE1 : Hid (∀ v2, (os ++ [((plainS s, v2) : SV)]).map (·.1) = (es.take (k + 1)).map fun x => plainS x.1) := Lib.hid fun v2 => by
          rw [List.take_add_one, hx, List.map_append, HE.out]
          simp
        have HK1 : Hid (0 ≤ s.kind ∧ s.kind ≤ 13 → ∀ x ∈ es.take (k + 1), 0 ≤ x.1.kind ∧ x.1.kind ≤ 13) := Lib.hid fun hs x hxm => by
          rw [List.take_add_one, hx] at hxm
          rcases List.mem_append.1 hxm with h | h
          · exact HK.out x h
          · simp at h; subst h; exact hs
        have HOL := Lib.hid (own_lt HO.out.1)
        have c0 : wr.cell? ⟨b, o + k * 5, none⟩ = some (.int .i64 s.kind) := hr1 0 _ rfl
        by_cases hout : s.kind < 0 ∨ 13 < s.kind
        · have F8 := Lib.hid (text_any y1 hso (HG.out.chg HC.out))
          rw [text_out hout] at F8
          have F8 : Hid (Calls Tryd.prog 15 #[.agg (arrSt s (.slice A' s.b.length c'))] wr fun e w' => e = .returned (.string ({ data := #[] } : ByteArray)) ∧ Chg [] wr w') := F8
          have hkk : (s.kind < 0 ∧ s.kind < 0) ∨ (¬ s.kind < 0 ∧ 13 < s.kind) := by omega
          clear m1 m3 y1 hx HE HE1 HK HK1 HO hso HX HM HLN FSH HF HG HLO HY1 HOL
          rcases hkk with ⟨hkn, _⟩ | ⟨hkn, hk13⟩
          · go_wp2_with (first
              | (refine wpList_row 32 (.tmp 34) rfl rfl b (o + k * 5) rfl (arrSt s (.slice A' s.b.length c')) _ hr1 Tryd.underlying32 rfl infS ?_)
              | fail)
            refine F8.out.mono ?_
            rintro e w3 ⟨rfl, hc3⟩
            have HC3 := Lib.hid (HC.out.trans hc3)
            clear hc3 F8 hr1 c0
            go_wp2_with fail
            refine (FL.out w3 HC3.out).mono ?_
            rintro e w6 ⟨rfl, hc6⟩
            have HC6 := Lib.hid (HC3.out.trans hc6)
            clear hc6 FL
            go_wp2_with fail
            go_ret
            exact ⟨rfl, HC6.out⟩
          · go_wp2_with (first
              | (refine wpList_row 32 (.tmp 34) rfl rfl b (o + k * 5) rfl (arrSt s (.slice A' s.b.length c')) _ hr1 Tryd.underlying32 rfl infS ?_)
              | fail)
            refine F8.out.mono ?_
            rintro e w3 ⟨rfl, hc3⟩
            have HC3 := Lib.hid (HC.out.trans hc3)
            clear hc3 F8 hr1 c0
            go_wp2_with fail
            refine (FL.out w3 HC3.out).mono ?_
            rintro e w6 ⟨rfl, hc6⟩
            have HC6 := Lib.hid (HC3.out.trans hc6)
            clear hc6 FL
            go_wp2_with fail
            go_ret
            exact ⟨rfl, HC6.out⟩
        · have hin : 0 ≤ s.kind ∧ s.kind ≤ 13 := by omega
          have hkn : ¬ s.kind < 0 := by omega
          have hk13 : ¬ 13 < s.kind := by omega
          have HK2 := Lib.hid (HK1.out hin)
          have F9 := Lib.hid (plain_out hin y1)
          clear m1 m3 y1 hx HE HK HK1 hso HX HM HLN FSH HF HG HLO hout hin FL
          go_wp2_with (first
            | (refine wpList_row 32 (.tmp 44) rfl rfl b (o + k * 5) rfl (arrSt s (.slice A' s.b.length c')) _ hr1 Tryd.underlying32 rfl infS ?_)
            | fail)
          refine F9.out.mono ?_
          rintro e w4 ⟨A2, n2, c2, rfl, hY2, hB2, hc4⟩
          have hY2' := hY2
          generalize plainS s = s2 at *
          have hsz4 := HC.out.size
          have hA := hc4.alloc (.cells (arrSt s2 (.slice A2 n2 c2)) 35)
          have hbl : Blk (w4.alloc (.cells (arrSt s2 (.slice A2 n2 c2)) 35)) w4.heap.size 35 (arrSt s2 (.slice A2 n2 c2)) := Blk.new _ _ _
          have hY5 := Sl.chg0 hY2 ((Chg.refl [] w4).alloc (.cells (arrSt s2 (.slice A2 n2 c2)) 35))
          have HR1 := Lib.hid (own_chg HO.out.1 hA (by simp))
          have HS1 := Lib.hid (one_t (x := ((s2, Value.slice A2 n2 c2) : SV)) hbl)
          have HO1 := Lib.hid (encT_one ((s2, Value.slice A2 n2 c2) : SV) rfl)
          have hws : w.heap.size ≤ (w4.alloc (.cells (arrSt s2 (.slice A2 n2 c2)) 35)).heap.size := by have := hc4.size; rw [World.size_alloc]; omega
          have HFIN : Hid (∀ v1 w1, w1.ownsRow w.heap.size 35 5 v1 (os.length + 1) (os.flatMap encT ++ encT ((s2, Value.slice A2 n2 c2) : SV)) → Chg u3.ownBlock.toList (w4.alloc (.cells (arrSt s2 (.slice A2 n2 c2)) 35)) w1 → (v1.ownBlock = u3.ownBlock ∨ v1.ownBlock = some (w4.alloc (.cells (arrSt s2 (.slice A2 n2 c2)) 35)).heap.size) →
              (OwT 35 w1 w.heap.size v1 (os ++ [((s2, Value.slice A2 n2 c2) : SV)]) ∧ StsR w1 v1.ownBlock.toList (os ++ [((s2, Value.slice A2 n2 c2) : SV)])) ∧ Chg [] w w1) := Lib.hid fun v1 w1 h1 h2 h3 => by
            have hlt5 := HOL.out
            have hS : StsR (w4.alloc (.cells (arrSt s2 (.slice A2 n2 c2)) 35)) u3.ownBlock.toList (os ++ [((s2, Value.slice A2 n2 c2) : SV)]) := by
              refine (HO.out.2.chg0 hA).snoc hY5 (fun hn y hy => ?_)
              obtain ⟨h5, h6⟩ := hB2 hn
              have h7 := HY1.out h5 y (h6 y hy)
              exact ⟨fun hyF => by have := (hlt5 y hyF).1; omega, by omega⟩
            refine ⟨⟨owT_snoc h1, ?_⟩, (HC.out.trans hA).trans' h2 (fun x hx => .inr (hlt5 x hx).1)⟩
            have hS3 : StsR (w4.alloc (.cells (arrSt s2 (.slice A2 n2 c2)) 35)) (u3.ownBlock.toList ++ v1.ownBlock.toList) (os ++ [((s2, Value.slice A2 n2 c2) : SV)]) := hS.other (fun y hy => by
              rcases List.mem_append.1 hy with hy | hy
              · exact .inl hy
              · rcases h3 with h3 | h3
                · rw [h3] at hy; exact .inl hy
                · rw [h3] at hy
                  simp only [Option.toList_some, List.mem_singleton] at hy
                  exact .inr (by omega))
            have hS4 := hS3.chg (h2.more (fun x hx => List.mem_append.2 (.inl hx)))
            exact hS4.other (fun y hy => .inl (List.mem_append.2 (.inr hy)))
          clear hY2 hY2' hB2 hc4 hA hbl hY5 F9 hr1 c0
          go_wp2_with (first
            | (at_builtin; refine wpList_app elT46 rfl (.tmp 41) (.tmp 47) rfl w.heap.size rfl HR1.out rfl HS1.out HO1.out (by unfold maxLen; omega) (by omega) hws ?_; intro v1 w1 hown1 hc1 hb1)
            | fail)
          go_roundw
          case rel => exact ⟨k + 1, os ++ [((s2, Value.slice A2 n2 c2) : SV)], by omega, by go_num, by simp; omega, Lib.hid (HE1.out _), HK2, Lib.hid (HFIN.out _ _ hown1 hc1 hb1).1, Lib.hid (HFIN.out _ _ hown1 hc1 hb1).2⟩
          case measure => simp [intOf] <;> omega
      · obtain rfl : k = n := by omega
        have HR := Lib.hid (HF.out HK.out)
        have hTl := HLN.out
        have FS := Lib.hid (FSH.out wr HC.out)
        generalize showP (es.map (·.1)) = T at *
        have FR := Lib.hid (fun W (hW : Chg [] w W) => read_any T (by omega) (HG.out.chg hW))
        have HOS := Lib.hid (And.intro (Sl.of_own HO.out.1) HO.out.2)
        obtain ⟨A3, c3, hf⟩ := Sl.form HOS.out.1
        subst hf
        clear HF HK HX HM HLN FSH HG HLO HO
        go_wp2_with fail
        refine FS.out.mono ?_
        rintro e w5 ⟨rfl, hc5⟩
        have HC5 := Lib.hid (HC.out.trans hc5)
        have HOS5 := Lib.hid (And.intro (Sl.chg0 HOS.out.1 hc5) (HOS.out.2.chg0 hc5))
        clear hc5 FS HOS
        go_wp2_with fail
        refine (FR.out w5 HC5.out).mono ?_
        rintro e w6 ⟨v6, n6, er, es6, rfl, hcase, hT6, hS6, hc6⟩
        have hcase' : er = 0 ∧ n6 = 0 ∧ es6.map (·.1) = os.map (·.1) := by
          rcases hcase with ⟨h1, h2, h3⟩ | ⟨h1, ⟨m, h2, h3⟩, h4⟩
          · rw [HR.out] at h3
            injection h3 with h3
            exact ⟨h1, h2, by rw [← h3, HE.out]⟩
          · rw [HR.out] at h3; cases h3
        obtain ⟨rfl, rfl, he6⟩ := hcase'
        have hl6 : es6.length = os.length := by simpa using congrArg List.length he6
        have HC6 := Lib.hid (HC5.out.trans hc6)
        have FQ := Lib.hid (same_true hT6 (show SlT w6 w.heap.size _ os from Sl.chg0 HOS5.out.1 hc6) hS6 ((HOS5.out.2.chg0 hc6).other (by simp)) he6 (by omega))
        obtain ⟨A6, c6, rfl⟩ := Sl.form hT6
        rw [hos] at FQ
        clear hcase hT6 hS6 hc6 he6 HOS5 HC5 FR HR HE hTl h40 hl6
        generalize es6.length = n6 at *
        go_wp2_with fail
        refine FQ.out.mono ?_
        rintro e w7 ⟨rfl, hc7⟩
        have HC7 := Lib.hid (HC6.out.trans hc7)
        clear hc7 FQ
        go_wp2_with fail
        refine (FL.out w7 HC7.out).mono ?_
        rintro e w8 ⟨rfl, hc8⟩
        have HC8 := Lib.hid (HC7.out.trans hc8)
        clear hc8 FL
        go_wp2_with fail
        go_ret
        exact ⟨rfl, HC8.out⟩
end Go.Proofs.YtljgemknccodeaaDoor
