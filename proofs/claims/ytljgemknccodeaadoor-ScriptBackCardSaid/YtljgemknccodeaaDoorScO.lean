/-
  CONTRACT: the document's Read. Conditions: lengths. Printed by wip/tools/gen_r46.py.
-/
import Derived.Test.YtljgemknccodeaaDoorScN
set_option linter.unusedVariables false
set_option linter.unusedSimpArgs false
namespace Go.Proofs.YtljgemknccodeaaDoor
open Go.RowKit

theorem split_nl (l : Bs) (w : World) (hl : l.length ≤ 1000000) : Calls Tryd.prog 19 #[str l, .int .u8 10] w fun e w' => ∃ v, e = .returned v ∧ OwS w' w.heap.size v (spl 10 l) ∧ Chg [] w w' := split_any l 10 w hl
set_option maxRecDepth 100000 in
set_option maxHeartbeats 8000000 in
theorem read46_any (T : Bs) (hT : T.length ≤ 1000000) (w : World) : Calls Tryd.prog 8 #[str T] w fun e w' => ReadR T w w' e := by
  have HP : Hid (readP T = readR 0 (spl 10 T)) := Lib.hid rfl
  go_enter Tryd.func8, Tryd.ntmps8
  go_wp2_with fail
  refine (split_nl T w hT).mono ?_
  rintro e w1 ⟨lv, rfl, hls, hc1⟩
  have HKEY : Hid (∀ e w', ReadR T w1 w' e → ReadR T w w' e) := Lib.hid fun e w' ⟨v, n, er, es, h1, h2, h3, h4, h5⟩ => ⟨v, n, er, es, h1, h2, h3, h4, hc1.trans h5⟩
  have HX : Hid (∀ i, i < (spl 10 T).length → ∃ x, (spl 10 T)[i]? = some x ∧ x.length ≤ 1000000) := Lib.hid fun i hi => ⟨_, List.getElem?_eq_getElem hi, Nat.le_trans (spl_mem_len 10 T _ (List.getElem_mem hi)) hT⟩
  have hLl : (spl 10 T).length ≤ 1000001 := Nat.le_trans (spl_len 10 T) (by omega)
  generalize spl 10 T = L at *
  obtain ⟨lA, lc, rfl⟩ := Sl.form hls.sl
  have HCA := Lib.hid (fun i p (hp : L[i]? = some p) W (hW : Chg [] w1 W) => SlS.at_ (Sl.chg0 hls.sl hW) (k := i) (p := p) hp)
  clear hls hc1
  generalize hn : L.length = n at *
  have HLN := Lib.hid hn
  clear hn
  go_wp2_with fail
  go_loopw [6, 7] (fun ov iv wr => ∃ (k : Nat) (es : List SV), k ≤ n ∧ iv = .int .i64 k ∧ es.length ≤ k ∧ Hid (readP T = comb (es.map (·.1)) (readR k (L.drop k))) ∧ Hid (OwT 35 wr w1.heap.size ov es ∧ StsR wr ov.ownBlock.toList es) ∧ Hid (Chg [] w1 wr)) (fun _ iv _ => n - (intOf iv).toNat)
  case atStart => exact ⟨0, [], by omega, rfl, by simp, Lib.hid (by rw [HP.out]; exact (comb_nil _).symm), Lib.hid ⟨World.ownsRow_nil .., fun x hx => absurd hx (by simp)⟩, Lib.hid (Chg.refl _ _)⟩
  case round =>
    obtain ⟨k, es, hk, rfl, hes, HQ, HO, HC⟩ := hrel
    by_cases hlt : k < n
    · have hcn : (k : Int) < (n : Int) := by omega
      obtain ⟨a, hp, hal⟩ := HX.out k hlt
      obtain ⟨b, o, c', hv, hcap, c0⟩ := HCA.out k a hp wr HC.out
      simp only [Value.slice.injEq] at hv
      obtain ⟨rfl, hnn, rfl⟩ := hv
      clear hnn
      by_cases ha : a = []
      · have heq2 : (bsA a).toList.isEmpty = true := by rw [isE]; exact decide_eq_true ha
        have HQ2 : Hid (readP T = comb (es.map (·.1)) (readR (k + 1) (L.drop (k + 1)))) := Lib.hid (by
          rw [HQ.out, drop_cons_of hp, ha, comb_skip])
        clear ha HQ hp HX HCA
        go_wp2_with fail
        go_roundw
        case rel => exact ⟨k + 1, es, by omega, by go_num, by omega, HQ2, HO, HC⟩
        case measure => simp [intOf] <;> omega
      · have heq2 : (bsA a).toList.isEmpty = false := by rw [isE]; exact decide_eq_false ha
        have FL := Lib.hid (line46_any a hal wr)
        have HC3 := HC
        have HO3 := HO
        clear HX HCA
        go_wp2_with fail
        refine FL.out.mono ?_
        intro e w4 hr
        obtain ⟨s, A, nn, cc, er, rfl, hcase, hY, hc4⟩ := hr.bytes
        have hsz34 := hc4.size
        have HY4 := Lib.hid hY
        have HC4 := Lib.hid (HC3.out.trans hc4)
        have HO4 := Lib.hid (And.intro (own_chg HO3.out.1 hc4 (by simp)) (HO3.out.2.chg0 hc4))
        have HOL := Lib.hid (own_lt HO3.out.1)
        clear hr hY hc4 FL HC3 HO3 c0
        go_upto_region 8 with (first
          | (refine wpList_store_blk (vs := arrSt s (.slice A nn cc)) rfl 35 (.tmp 8) (.tmp 29) rfl rfl (Blk.new _ _ _) rfl rfl rfl (by kernel_rfl) rfl ?_; intro w5 hB5 hc5)
          | fail)
        have hcA : Chg [] w4 w5 := ((Chg.refl [] w4).alloc _).trans' hc5 (by intro x hx; simp at hx; subst hx; exact .inr (Nat.le_refl _))
        have HC5 := Lib.hid (HC4.out.trans hcA)
        have HO5 := Lib.hid (And.intro (own_chg HO4.out.1 hcA (by simp)) (HO4.out.2.chg0 hcA))
        have HY5 := Lib.hid (Sl.chg0 HY4.out hcA)
        clear hc5 hcA HC4 HO4 HY4
        rcases hcase with ⟨rfl, hls⟩ | ⟨rfl, hls⟩
        · have HQ2 : Hid (readP T = comb ((es ++ [((s, Value.slice A nn cc) : SV)]).map (·.1)) (readR (k + 1) (L.drop (k + 1)))) := Lib.hid (by
            rw [HQ.out, drop_cons_of hp, comb_next ha hls]
            simp)
          have hA := (Chg.refl [] w5).alloc (.cells (arrSt s (.slice A nn cc)) 35)
          have hbl : Blk (w5.alloc (.cells (arrSt s (.slice A nn cc)) 35)) w5.heap.size 35 (arrSt s (.slice A nn cc)) := Blk.new _ _ _
          have HR1 := Lib.hid (own_chg HO5.out.1 hA (by simp))
          have HS1 := Lib.hid (one_t (x := ((s, Value.slice A nn cc) : SV)) hbl)
          have HO1 := Lib.hid (encT_one ((s, Value.slice A nn cc) : SV) rfl)
          have hws : w1.heap.size ≤ (w5.alloc (.cells (arrSt s (.slice A nn cc)) 35)).heap.size := by have := HC5.out.size; rw [World.size_alloc]; omega
          have HFIN : Hid (∀ v1 w7, w7.ownsRow w1.heap.size 35 5 v1 (es.length + 1) (es.flatMap encT ++ encT ((s, Value.slice A nn cc) : SV)) → Chg u6.ownBlock.toList (w5.alloc (.cells (arrSt s (.slice A nn cc)) 35)) w7 → (v1.ownBlock = u6.ownBlock ∨ v1.ownBlock = some (w5.alloc (.cells (arrSt s (.slice A nn cc)) 35)).heap.size) →
              (OwT 35 w7 w1.heap.size v1 (es ++ [((s, Value.slice A nn cc) : SV)]) ∧ StsR w7 v1.ownBlock.toList (es ++ [((s, Value.slice A nn cc) : SV)])) ∧ Chg [] w1 w7) := Lib.hid fun v1 w7 h1 h2 h3 => by
            have hO5 := HO5.out.1
            have hlt5 := own_lt hO5
            have hS : StsR (w5.alloc (.cells (arrSt s (.slice A nn cc)) 35)) u6.ownBlock.toList (es ++ [((s, Value.slice A nn cc) : SV)]) := by
              refine (HO5.out.2.chg0 hA).snoc (Sl.less (Sl.chg0 HY5.out hA) (Nat.zero_le _)) (fun hn y hy => ?_)
              obtain ⟨h5, h6⟩ := SlY.fresh (Sl.chg0 HY5.out hA) hn y hy
              exact ⟨fun hyF => by have := (HOL.out y hyF).2; omega, h6⟩
            refine ⟨⟨owT_snoc h1, ?_⟩, (HC5.out.trans hA).trans' h2 (fun x hx => .inr (hlt5 x hx).1)⟩
            have hS3 : StsR (w5.alloc (.cells (arrSt s (.slice A nn cc)) 35)) (u6.ownBlock.toList ++ v1.ownBlock.toList) (es ++ [((s, Value.slice A nn cc) : SV)]) := hS.other (fun y hy => by
              rcases List.mem_append.1 hy with hy | hy
              · exact .inl hy
              · rcases h3 with h3 | h3
                · rw [h3] at hy; exact .inl hy
                · rw [h3] at hy
                  simp only [Option.toList_some, List.mem_singleton] at hy
                  exact .inr (by omega))
            have hS4 := hS3.chg (h2.more (fun x hx => List.mem_append.2 (.inl hx)))
            exact hS4.other (fun y hy => .inl (List.mem_append.2 (.inr hy)))
          clear hls ha HQ hA hbl hp
          go_wp2_with (first
            | (refine wpList_load_blk rfl 35 (.tmp 8) rfl hB5 rfl _ Tryd.underlying35 rfl (by kernel_rfl) ?_)
            | (at_builtin; refine wpList_app elT46 rfl (.tmp 36) (.tmp 38) rfl w1.heap.size rfl HR1.out rfl HS1.out HO1.out (by unfold maxLen; omega) (by omega) hws ?_; intro v1 w7 hown1 hc1 hb1)
            | fail)
          go_roundw
          case rel => exact ⟨k + 1, es ++ [((s, Value.slice A nn cc) : SV)], by omega, by go_num, by simp; omega, HQ2, Lib.hid (HFIN.out _ _ hown1 hc1 hb1).1, Lib.hid (HFIN.out _ _ hown1 hc1 hb1).2⟩
          case measure => simp [intOf] <;> omega
        · have HQ2 : Hid (readP T = .inl (k + 1)) := Lib.hid (by rw [HQ.out, drop_cons_of hp, comb_bad ha hls])
          clear hls ha HQ hp
          go_wp2_with fail
          go_ret3
          exact HKEY.out _ _ ⟨.slice none 0 0, (k : Int) + 1, 14, [], rfl, .inr ⟨rfl, ⟨k + 1, by omega, HQ2.out⟩, rfl⟩, Sl.nil _ _ _, (fun x hx => absurd hx (by simp)), HC5.out⟩
    · obtain rfl : k = n := by omega
      have HR : Hid (readP T = .inr (es.map (·.1))) := Lib.hid (by rw [HQ.out, List.drop_eq_nil_of_le (by rw [HLN.out]; exact Nat.le_refl _)]; simp [readR, comb])
      obtain ⟨A, c, hf⟩ := Sl.form (Sl.of_own HO.out.1)
      subst hf
      clear HQ
      go_wp2_with fail
      go_ret3
      exact HKEY.out _ _ ⟨_, 0, 0, es, rfl, .inl ⟨rfl, rfl, HR.out⟩, Sl.less (Sl.of_own HO.out.1) (Nat.zero_le _), HO.out.2.other (by simp), HC.out⟩
end Go.Proofs.YtljgemknccodeaaDoor
