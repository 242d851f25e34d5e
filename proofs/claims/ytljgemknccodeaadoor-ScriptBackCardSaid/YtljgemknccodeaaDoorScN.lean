/-
  CONTRACT: the program's Read. Conditions: Gl, lengths.
-/
import Derived.Test.YtljgemknccodeaaDoorScM
set_option linter.unusedVariables false
set_option linter.unusedSimpArgs false
namespace Go.Proofs.YtljgemknccodeaaDoor
open Go.RowKit

def strLen : Value → Nat
  | .string s => s.size
  | _ => 0
theorem LineR.bytes {l : Bs} {w w' : World} {e : Ending} (h : LineR l w w' e) : ∃ s A n c er, e = .returned (.tuple #[.agg (arrSt s (.slice A n c)), .int .i64 er]) ∧ ((er = 0 ∧ lineP l = some s) ∨ (er = 14 ∧ lineP l = none)) ∧ SlY w' w.heap.size (.slice A n c) s.b ∧ Chg [] w w' := by
  obtain ⟨s, v, er, h1, h2, h3, h4⟩ := h
  obtain ⟨A, c, rfl⟩ := Sl.form h3
  exact ⟨s, A, _, c, er, h1, h2.imp id (fun x => ⟨x.1, x.2.1⟩), h3, h4⟩
set_option maxRecDepth 100000 in
set_option maxHeartbeats 8000000 in
theorem read_any (T : Bs) (hT : T.length ≤ 1000000) {w : World} (hg : Gl w) : Calls Tryd.prog 7 #[str T] w fun e w' => ReadR T w w' e := by
  have HG := Lib.hid hg
  have HP : Hid (readP T = readR 0 (spl 10 T)) := Lib.hid rfl
  clear hg
  generalize hTn : T.length = N at *
  have HTN := Lib.hid hTn
  clear hTn
  go_enter Tryd.func7, Tryd.ntmps7
  go_wp2_with fail
  go_step3
  go_wp2_with fail
  go_step3
  go_wp2_with fail
  go_loopw [0, 5, 6] (fun tv ov nv wr => ∃ (t : Bs) (j : Nat) (es : List SV), tv = str t ∧ nv = .int .i64 j ∧ 1 ≤ j ∧ j + t.length ≤ N + 1 ∧ es.length < j ∧ Hid (readP T = comb (es.map (·.1)) (readR (j - 1) (spl 10 t))) ∧ Hid (OwT 32 wr w.heap.size ov es ∧ StsR wr ov.ownBlock.toList es) ∧ Hid (Chg [] w wr)) (fun tv _ _ _ => strLen tv)
  case atStart => exact ⟨T, 1, [], rfl, rfl, by omega, by have := HTN.out; omega, by simp, Lib.hid (by rw [HP.out]; exact (comb_nil _).symm), Lib.hid ⟨World.ownsRow_nil .., fun x hx => absurd hx (by simp)⟩, Lib.hid (Chg.refl _ _)⟩
  case round =>
    obtain ⟨t, j, es, rfl, rfl, hj1, hjl, hes, HQ, HO, HC⟩ := hrel
    by_cases ht : t = []
    · have heq : (bsA t).toList.isEmpty = true := by rw [isE]; exact decide_eq_true ht
      have HR : Hid (readP T = .inr (es.map (·.1))) := Lib.hid (by rw [HQ.out, ht]; simp [spl, readR, comb])
      obtain ⟨A, c, hf⟩ := Sl.form (Sl.of_own HO.out.1)
      subst hf
      clear ht HQ
      go_wp2_with fail
      try rw [Exit.noGoto_ret]
      go_ret3
      exact ⟨_, 0, 0, es, rfl, .inl ⟨rfl, rfl, HR.out⟩, Sl.less (Sl.of_own HO.out.1) (Nat.zero_le _), HO.out.2.other (by simp), HC.out⟩
    · have heq : (bsA t).toList.isEmpty = false := by rw [isE]; exact decide_eq_false ht
      have FC := Lib.hid (cut_lib t (by omega) (HG.out.chg HC.out))
      have hcl := cut_len ht
      have hcl1 := cut_len1 t
      have HQ1 : Hid (readP T = comb (es.map (·.1)) (readR (j - 1) ((cutP t).1 :: spl 10 (cutP t).2))) := Lib.hid (by rw [HQ.out, read_cut])
      have HTL : Hid (strLen (str t) = t.length) := Lib.hid (bsA_size t)
      clear ht HQ
      generalize (cutP t).1 = a at *
      generalize (cutP t).2 = b at *
      go_wp2_with fail
      refine FC.out.mono ?_
      rintro e w3 ⟨bb, rfl, hc3⟩
      have HC3 := Lib.hid (HC.out.trans hc3)
      have HO3 := Lib.hid (And.intro (own_chg HO.out.1 hc3 (by simp)) (HO.out.2.chg0 hc3))
      clear FC hc3 HC HO
      by_cases ha : a = []
      · have heq2 : (bsA a).toList.isEmpty = true := by rw [isE]; exact decide_eq_true ha
        have HQ2 : Hid (readP T = comb (es.map (·.1)) (readR (j + 1 - 1) (spl 10 b))) := Lib.hid (by
          rw [HQ1.out, ha, comb_skip, show j - 1 + 1 = j by omega, show j + 1 - 1 = j by omega])
        have hsb := bsA_size b
        clear ha HQ1
        go_wp2_with fail
        go_roundw
        case rel => exact ⟨b, j + 1, es, rfl, by go_num, by omega, by omega, by omega, HQ2, HO3, HC3⟩
        case measure => show (bsA b).size < (bsA t).size; rw [bsA_size, bsA_size]; exact hcl
      · have heq2 : (bsA a).toList.isEmpty = false := by rw [isE]; exact decide_eq_false ha
        have FL := Lib.hid (line_any a (by omega) (HG.out.chg HC3.out))
        go_wp2_with fail
        refine FL.out.mono ?_
        intro e w4 hr
        obtain ⟨s, A, nn, cc, er, rfl, hcase, hY, hc4⟩ := hr.bytes
        have hsz34 := hc4.size
        have HY4 := Lib.hid hY
        have HC4 := Lib.hid (HC3.out.trans hc4)
        have HO4 := Lib.hid (And.intro (own_chg HO3.out.1 hc4 (by simp)) (HO3.out.2.chg0 hc4))
        have HOL := Lib.hid (own_lt HO3.out.1)
        clear hr hY hc4 FL HC3 HO3
        go_upto_region 9 with (first
          | (refine wpList_store_blk (vs := arrSt s (.slice A nn cc)) rfl 32 (.tmp 10) (.tmp 28) rfl rfl (Blk.new _ _ _) rfl rfl rfl (by kernel_rfl) rfl ?_; intro w5 hB5 hc5)
          | fail)
        have hcA : Chg [] w4 w5 := ((Chg.refl [] w4).alloc _).trans' hc5 (by intro x hx; simp at hx; subst hx; exact .inr (Nat.le_refl _))
        have HC5 := Lib.hid (HC4.out.trans hcA)
        have HO5 := Lib.hid (And.intro (own_chg HO4.out.1 hcA (by simp)) (HO4.out.2.chg0 hcA))
        have HY5 := Lib.hid (Sl.chg0 HY4.out hcA)
        clear hc5 hcA HC4 HO4 HY4
        rcases hcase with ⟨rfl, hls⟩ | ⟨rfl, hls⟩
        · have HQ2 : Hid (readP T = comb ((es ++ [((s, Value.slice A nn cc) : SV)]).map (·.1)) (readR (j + 1 - 1) (spl 10 b))) := Lib.hid (by
            rw [HQ1.out, comb_next ha hls, show j - 1 + 1 = j by omega, show j + 1 - 1 = j by omega]
            simp)
          have hA := (Chg.refl [] w5).alloc (.cells (arrSt s (.slice A nn cc)) 32)
          have hbl : Blk (w5.alloc (.cells (arrSt s (.slice A nn cc)) 32)) w5.heap.size 32 (arrSt s (.slice A nn cc)) := Blk.new _ _ _
          have HR1 := Lib.hid (own_chg HO5.out.1 hA (by simp))
          have HS1 := Lib.hid (one_t (x := ((s, Value.slice A nn cc) : SV)) hbl)
          have HO1 := Lib.hid (encT_one ((s, Value.slice A nn cc) : SV) rfl)
          have hws : w.heap.size ≤ (w5.alloc (.cells (arrSt s (.slice A nn cc)) 32)).heap.size := by have := HC5.out.size; rw [World.size_alloc]; omega
          have HFIN : Hid (∀ v1 w1, w1.ownsRow w.heap.size 32 5 v1 (es.length + 1) (es.flatMap encT ++ encT ((s, Value.slice A nn cc) : SV)) → Chg u5.ownBlock.toList (w5.alloc (.cells (arrSt s (.slice A nn cc)) 32)) w1 → (v1.ownBlock = u5.ownBlock ∨ v1.ownBlock = some (w5.alloc (.cells (arrSt s (.slice A nn cc)) 32)).heap.size) →
              (OwT 32 w1 w.heap.size v1 (es ++ [((s, Value.slice A nn cc) : SV)]) ∧ StsR w1 v1.ownBlock.toList (es ++ [((s, Value.slice A nn cc) : SV)])) ∧ Chg [] w w1) := Lib.hid fun v1 w1 h1 h2 h3 => by
            have hO5 := HO5.out.1
            have hlt5 := own_lt hO5
            have hS : StsR (w5.alloc (.cells (arrSt s (.slice A nn cc)) 32)) u5.ownBlock.toList (es ++ [((s, Value.slice A nn cc) : SV)]) := by
              refine (HO5.out.2.chg0 hA).snoc (Sl.less (Sl.chg0 HY5.out hA) (Nat.zero_le _)) (fun hn y hy => ?_)
              obtain ⟨h5, h6⟩ := SlY.fresh (Sl.chg0 HY5.out hA) hn y hy
              exact ⟨fun hyF => by have := (HOL.out y hyF).2; omega, h6⟩
            refine ⟨⟨owT_snoc h1, ?_⟩, (HC5.out.trans hA).trans' h2 (fun x hx => .inr (hlt5 x hx).1)⟩
            have hS3 : StsR (w5.alloc (.cells (arrSt s (.slice A nn cc)) 32)) (u5.ownBlock.toList ++ v1.ownBlock.toList) (es ++ [((s, Value.slice A nn cc) : SV)]) := hS.other (fun y hy => by
              rcases List.mem_append.1 hy with hy | hy
              · exact .inl hy
              · rcases h3 with h3 | h3
                · rw [h3] at hy; exact .inl hy
                · rw [h3] at hy
                  simp only [Option.toList_some, List.mem_singleton] at hy
                  exact .inr (by omega))
            have hS4 := hS3.chg (h2.more (fun x hx => List.mem_append.2 (.inl hx)))
            exact hS4.other (fun y hy => .inl (List.mem_append.2 (.inr hy)))
          have hsb := bsA_size b
          clear hls ha HQ1 hA hbl
          go_wp2_with (first
            | (refine wpList_load_blk rfl 32 (.tmp 10) rfl hB5 rfl _ Tryd.underlying32 rfl (by kernel_rfl) ?_)
            | (at_builtin; refine wpList_app elT rfl (.tmp 34) (.tmp 36) rfl w.heap.size rfl HR1.out rfl HS1.out HO1.out (by unfold maxLen; omega) (by omega) hws ?_; intro v1 w1 hown1 hc1 hb1)
            | fail)
          go_roundw
          case rel => exact ⟨b, j + 1, es ++ [((s, Value.slice A nn cc) : SV)], rfl, by go_num, by omega, by omega, by simp; omega, HQ2, Lib.hid (HFIN.out _ _ hown1 hc1 hb1).1, Lib.hid (HFIN.out _ _ hown1 hc1 hb1).2⟩
          case measure => show (bsA b).size < (bsA t).size; rw [bsA_size, bsA_size]; exact hcl
        · have HQ2 : Hid (readP T = .inl (j - 1 + 1)) := Lib.hid (by rw [HQ1.out, comb_bad ha hls])
          clear hls ha HQ1
          go_wp2_with fail
          try rw [Exit.noGoto_ret]
          go_ret3
          exact ⟨.slice none 0 0, j, 14, [], rfl, .inr ⟨rfl, ⟨j - 1 + 1, by omega, HQ2.out⟩, rfl⟩, Sl.nil _ _ _, (fun x hx => absurd hx (by simp)), HC5.out⟩
end Go.Proofs.YtljgemknccodeaaDoor
