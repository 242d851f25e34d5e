/-
  CONTRACT: the program's unhex. Conditions: lengths.
-/
import Derived.Test.YtljgemknccodeaaDoorScE
set_option linter.unusedVariables false
set_option linter.unusedSimpArgs false
namespace Go.Proofs.YtljgemknccodeaaDoor
open Go.RowKit

theorem ixb_lit (c : UInt8) (w : World) :
    Calls Tryd.prog 37 #[.string ({ data := #[48, 49, 50, 51, 52, 53, 54, 55, 56, 57, 97, 98, 99, 100, 101, 102] } : ByteArray), .int .u8 c.toNat] w fun e w' => e = .returned (.int .i64 (nibP c)) ∧ w = w' := indexByte_lib c w
theorem pairs_nil {l bs : Bs} {k : Nat} (h : pairsP l = (pairsP (l.drop k)).map (bs ++ ·)) (hk : l.length ≤ k) : pairsP l = some bs := by
  rw [h, List.drop_eq_nil_of_le hk]
  simp [pairsP]
theorem or_nib_all : ∀ a b : Fin 16, bits .or .i64 (16 * ((a.val : Nat) : Int)) ((b.val : Nat) : Int) = 16 * ((a.val : Nat) : Int) + ((b.val : Nat) : Int) := by decide +kernel
theorem or_nib {x y : Int} (h1 : ¬ x < 0) (h2 : ¬ y < 0) (h3 : x < 16) (h4 : y < 16) : bits .or .i64 (16 * x) y = 16 * x + y := by
  have := or_nib_all ⟨x.toNat, by omega⟩ ⟨y.toNat, by omega⟩
  simp only at this
  rwa [show ((x.toNat : Nat) : Int) = x by omega, show ((y.toNat : Nat) : Int) = y by omega] at this
set_option maxRecDepth 100000 in
set_option maxHeartbeats 4000000 in
theorem unhex_any (l : Bs) (hl : l.length ≤ 1000000) (w : World) : Calls Tryd.prog 23 #[str l] w fun e w' => UnhR l w w' e := by
  have hsz := bsA_size l
  by_cases h45 : l = [45]
  · have heq : ((bsA l).toList == [45]) = true := by rw [eqL]; exact decide_eq_true h45
    have HR : Hid (unhexP l = some []) := Lib.hid (by unfold unhexP; rw [if_pos h45])
    clear h45
    go_enter Tryd.func23, Tryd.ntmps23
    go_wp2_with fail
    go_ret2
    exact ⟨.slice none 0 0, true, rfl, (fun _ => ⟨[], HR.out, Sl.nil _ _ _⟩), (fun h => by cases h), ⟨_, _, _, rfl⟩, Chg.refl _ _⟩
  have heq : ((bsA l).toList == [45]) = false := by rw [eqL]; exact decide_eq_false h45
  have HU : Hid (unhexP l = if l = [] then none else pairsP l) := Lib.hid (by unfold unhexP; rw [if_neg h45])
  have HL0 : Hid (l = [] ↔ l.length = 0) := Lib.hid List.length_eq_zero_iff.symm
  have HPL := Lib.hid (fun (bs : Bs) (h : pairsP l = some bs) => pairs_len h)
  have HB : Hid (∀ k, k < l.length → ∃ b, l[k]? = some b ∧ ∀ h, (bsA l)[k]'h = b) := Lib.hid fun k hk => ⟨_, List.getElem?_eq_getElem hk, fun h => bsA_at (List.getElem?_eq_getElem hk) h⟩
  generalize hn : l.length = n at *
  have HLN := Lib.hid hn
  clear hn h45
  go_enter Tryd.func23, Tryd.ntmps23
  go_wp2_with fail
  go_loopw [4, 5] (fun ov iv wr => ∃ (k : Nat) (bs : Bs), k ≤ n ∧ 2 * bs.length = k ∧ iv = .int .i64 k ∧ Hid (pairsP l = (pairsP (l.drop k)).map (bs ++ ·)) ∧ Hid (OwY wr w.heap.size ov bs) ∧ Hid (Chg [] w wr)) (fun _ iv _ => n - (intOf iv).toNat)
  case atStart => exact ⟨0, [], by omega, rfl, rfl, Lib.hid (by rw [List.drop_zero]; cases pairsP l <;> rfl), Lib.hid (World.ownsRow_nil ..), Lib.hid (Chg.refl _ _)⟩
  case round =>
    obtain ⟨k, bs, hk, hk2, rfl, HP, HO, HC⟩ := hrel
    have hwk : IntKind.i64.wrap ((k : Int) + 1) = (k : Int) + 1 := by rw [IntKind.wrap_i64]; omega
    have hwn : ((k : Int) + 1).toNat = k + 1 := by omega
    have hk0 : 0 ≤ (k : Int) + 1 := by omega
    by_cases hlt : k + 1 < n
    · have hcn1 : (k : Int) + 1 < (n : Int) := by omega
      have hcn : (k : Int) < (n : Int) := by omega
      obtain ⟨ca, ha, haa⟩ := HB.out k (by omega)
      obtain ⟨cb, hb, hba⟩ := HB.out (k + 1) hlt
      have HAB := Lib.hid (And.intro ha hb)
      have N1 := Lib.hid (fun W (hW : Chg [] wr W) => (ixb_lit ca W).mono fun (r : Ending) w'' ⟨h1, h2⟩ => (⟨h1, h2 ▸ hW⟩ : r = Ending.returned (.int .i64 (nibP ca)) ∧ Chg [] wr w''))
      have N2 := Lib.hid (fun W (hW : Chg [] wr W) => (ixb_lit cb W).mono fun (r : Ending) w'' ⟨h1, h2⟩ => (⟨h1, h2 ▸ hW⟩ : r = Ending.returned (.int .i64 (nibP cb)) ∧ Chg [] wr w''))
      clear ha hb HB HL0 HPL
      go_upto_region 7 with fail
      refine wp_region_chg (by kernel_rfl) (by kernel_rfl) ?_
      (with_reducible refine wpQuiet_pure (v := ?_) ?_ (fun w => ?_) ?_); rotate_left; (focus rfl); (focus (go_simp <;> with_reducible rfl)); (try simp only [List.getElem_toArray, List.getElem_cons_succ, List.getElem_cons_zero, Act.put, List.setIfInBounds_toArray, List.set_cons_zero, List.set_cons_succ])
      (with_reducible refine wpQuiet_pure (v := ?_) ?_ (fun w => ?_) ?_); rotate_left; (focus rfl); (focus (go_simp <;> with_reducible rfl)); (try simp only [List.getElem_toArray, List.getElem_cons_succ, List.getElem_cons_zero, Act.put, List.setIfInBounds_toArray, List.set_cons_zero, List.set_cons_succ])
      (with_reducible refine wpQuiet_pure (v := ?_) ?_ (fun w => ?_) ?_); rotate_left; (focus rfl); (focus (go_simp <;> with_reducible rfl)); (try simp only [List.getElem_toArray, List.getElem_cons_succ, List.getElem_cons_zero, Act.put, List.setIfInBounds_toArray, List.set_cons_zero, List.set_cons_succ])
      (with_reducible refine wpQuiet_do ?_ (fun K hK => ?_)); (focus rfl); go_simp; (apply Exists.intro); (refine ⟨fun W hW => N1.out W hW, hK _ ?_⟩); (clear hK K); (try simp only [List.getElem_toArray, List.getElem_cons_succ, List.getElem_cons_zero, Act.put, List.setIfInBounds_toArray, List.set_cons_zero, List.set_cons_succ])
      (with_reducible refine wpQuiet_pure (v := ?_) ?_ (fun w => ?_) ?_); rotate_left; (focus rfl); (focus (go_simp <;> with_reducible rfl)); (try simp only [List.getElem_toArray, List.getElem_cons_succ, List.getElem_cons_zero, Act.put, List.setIfInBounds_toArray, List.set_cons_zero, List.set_cons_succ])
      (with_reducible refine wpQuiet_pure (v := ?_) ?_ (fun w => ?_) ?_); rotate_left; (focus rfl); (focus (go_simp <;> with_reducible rfl)); (try simp only [List.getElem_toArray, List.getElem_cons_succ, List.getElem_cons_zero, Act.put, List.setIfInBounds_toArray, List.set_cons_zero, List.set_cons_succ])
      (with_reducible refine wpQuiet_pure (v := ?_) ?_ (fun w => ?_) ?_); rotate_left; (focus rfl); (focus (go_simp <;> with_reducible rfl)); (try simp only [List.getElem_toArray, List.getElem_cons_succ, List.getElem_cons_zero, Act.put, List.setIfInBounds_toArray, List.set_cons_zero, List.set_cons_succ])
      (with_reducible refine wpQuiet_pure (v := ?_) ?_ (fun w => ?_) ?_); rotate_left; (focus rfl); (focus (go_simp <;> with_reducible rfl)); (try simp only [List.getElem_toArray, List.getElem_cons_succ, List.getElem_cons_zero, Act.put, List.setIfInBounds_toArray, List.set_cons_zero, List.set_cons_succ])
      (with_reducible refine wpQuiet_do ?_ (fun K hK => ?_)); (focus rfl); go_simp; (apply Exists.intro); (refine ⟨fun W hW => N2.out W hW, hK _ ?_⟩); (clear hK K); (try simp only [List.getElem_toArray, List.getElem_cons_succ, List.getElem_cons_zero, Act.put, List.setIfInBounds_toArray, List.set_cons_zero, List.set_cons_succ])
      (with_reducible refine wpQuiet_pure (v := ?_) ?_ (fun w => ?_) ?_); rotate_left; (focus rfl); (focus (go_simp <;> with_reducible rfl)); (try simp only [List.getElem_toArray, List.getElem_cons_succ, List.getElem_cons_zero, Act.put, List.setIfInBounds_toArray, List.set_cons_zero, List.set_cons_succ])
      (with_reducible refine wpQuiet_pure (v := ?_) ?_ (fun w => ?_) ?_); rotate_left; (focus rfl); (focus (go_simp <;> with_reducible rfl)); (try simp only [List.getElem_toArray, List.getElem_cons_succ, List.getElem_cons_zero, Act.put, List.setIfInBounds_toArray, List.set_cons_zero, List.set_cons_succ])
      refine wpQuiet_nil ?_
      intro w8 hc8
      have hc8' : Chg [] wr w8 := hc8
      have HC8 := Lib.hid (HC.out.trans hc8')
      have HO8 := Lib.hid (own_chg HO.out hc8' (by simp))
      clear hc8 hc8' HC HO N1 N2
      by_cases hbad : nibP ca < 0 ∨ nibP cb < 0
      · have HN : Hid (unhexP l = none) := Lib.hid (by
          rw [HU.out, pairs_bad HP.out HAB.out.1 HAB.out.2 hbad]
          split <;> rfl)
        have hor : (decide (nibP ca < 0) || decide (nibP cb < 0)) = true := by simpa using hbad
        clear hbad HP HAB HU
        go_wp2_with fail
        all_goals
          go_ret2
          exact ⟨.slice none 0 0, false, rfl, (fun h => by cases h), (fun _ => HN.out), ⟨_, _, _, rfl⟩, HC8.out⟩
      · have HP2 := Lib.hid (pairs_next HP.out HAB.out.1 HAB.out.2 hbad)
        have hn1 : ¬ nibP ca < 0 := fun h => hbad (.inl h)
        have hn2 : ¬ nibP cb < 0 := fun h => hbad (.inr h)
        have hl1 := nib_lt ca
        have hl2 := nib_lt cb
        have hwu := wrap_nib hn1 hn2
        have hor := or_nib hn1 hn2 hl1 hl2
        have hm1 : IntKind.i64.wrap (16 * nibP ca) = 16 * nibP ca := by rw [IntKind.wrap_i64]; omega
        have hm0 : IntKind.i64.wrap (nibP ca * 16) = 16 * nibP ca := by rw [IntKind.wrap_i64]; omega
        have hm2 : IntKind.i64.wrap (16 * nibP ca + nibP cb) = 16 * nibP ca + nibP cb := by rw [IntKind.wrap_i64]; omega
        generalize UInt8.ofNat (16 * nibP ca + nibP cb).toNat = d at *
        have hA := (Chg.refl [] w8).alloc (.cells #[yv d] 5)
        have hbl : Blk (w8.alloc (.cells #[yv d] 5)) w8.heap.size 5 #[yv d] := Blk.new _ _ _
        have HR1 := Lib.hid (own_chg HO8.out hA (by simp))
        have HS1 := Lib.hid (one_s hbl)
        have HLT := Lib.hid (own_lt HO8.out)
        have hws : w.heap.size ≤ (w8.alloc (.cells #[yv d] 5)).heap.size := by have := HC8.out.size; rw [World.size_alloc]; omega
        have HA := Lib.hid hA
        have HFIN : Hid (∀ v1 w1, w1.ownsRow w.heap.size 5 1 v1 (bs.length + 1) (bs.map yv ++ [yv d]) → Chg u4.ownBlock.toList (w8.alloc (.cells #[yv d] 5)) w1 → OwY w1 w.heap.size v1 (bs ++ [d]) ∧ Chg [] w w1) := Lib.hid fun v1 w1 h1 h2 =>
          ⟨by unfold OwY; rw [List.length_append, List.map_append]; exact h1, (HC8.out.trans HA.out).trans' h2 (fun x hx => .inr (HLT.out x hx).1)⟩
        clear hbad hA hbl HP HAB HLT HA
        go_wp2_with (first
          | (at_builtin; refine wpList_app elY rfl (.tmp 32) (.tmp 38) rfl w.heap.size rfl HR1.out rfl HS1.out (one_cy d) (by unfold maxLen; omega) (by omega) hws ?_; intro v1 w1 hown1 hc1 hb1)
          | fail)
        go_roundw
        case rel => exact ⟨k + 2, bs ++ [d], by omega, by simp; omega, by go_num, HP2, Lib.hid (HFIN.out _ _ hown1 hc1).1, Lib.hid (HFIN.out _ _ hown1 hc1).2⟩
        case measure => show n - ((k : Int) + 2).toNat < n - ((k : Int)).toNat; omega
    · have hcn1 : ¬ (k : Int) + 1 < (n : Int) := by omega
      obtain ⟨A, c, hform⟩ := Sl.form (Sl.of_own HO.out)
      subst hform
      by_cases hok : 0 < bs.length ∧ 2 * bs.length = n
      · have HR : Hid (unhexP l = some bs) := Lib.hid (by
          rw [HU.out, if_neg (fun e => by have := HL0.out.1 e; omega)]
          exact pairs_nil HP.out (by rw [HLN.out]; omega))
        have hok1 : (0 : Int) < (bs.length : Int) := by omega
        have hok2 : ((2 * (bs.length : Int)) == (n : Int)) = true := by rw [beq_iff_eq]; omega
        clear hok HP HU HB HL0 HPL
        go_wp2_with fail
        go_ret2
        exact ⟨_, true, rfl, (fun _ => ⟨bs, HR.out, Sl.of_own HO.out⟩), (fun h => by cases h), ⟨_, _, _, rfl⟩, HC.out⟩
      · have HR : Hid (unhexP l = none) := Lib.hid (by
          rw [HU.out]
          split
          · rfl
          · next h0 =>
            cases hp : pairsP l with
            | none => rfl
            | some bs2 =>
              have h2 := HPL.out bs2 hp
              have h3 : n ≠ 0 := fun e => h0 (HL0.out.2 e)
              have hkn : k = n := by omega
              have := pairs_nil HP.out (by rw [HLN.out]; omega)
              rw [hp] at this
              cases this
              omega)
        by_cases hpos : 0 < bs.length
        · have hok1 : (0 : Int) < (bs.length : Int) := by omega
          have hok2 : ((2 * (bs.length : Int)) == (n : Int)) = false := by rw [beq_eq_false_iff_ne]; omega
          clear hok HP HU HB HL0 HPL
          go_wp2_with fail
          go_ret2
          exact ⟨_, false, rfl, (fun h => by cases h), (fun _ => HR.out), ⟨_, _, _, rfl⟩, HC.out⟩
        · have hok1 : ¬ (0 : Int) < (bs.length : Int) := by omega
          clear hok HP HU HB HL0 HPL
          go_wp2_with fail
          go_ret2
          exact ⟨_, false, rfl, (fun h => by cases h), (fun _ => HR.out), ⟨_, _, _, rfl⟩, HC.out⟩
end Go.Proofs.YtljgemknccodeaaDoor
