/-
  CONTRACTS: hexadecimal digits: the document's hex; unhex and the document's bytes. Conditions: lengths.
-/
import Derived.Test.YtljgemknccodeaaDoorScD
import Derived.Test.YtljgemknccodeaaDoorScB
set_option linter.unusedVariables false
set_option linter.unusedSimpArgs false
namespace Go.Proofs.YtljgemknccodeaaDoor
open Go.RowKit

theorem dgs_ext {q : Nat} (h : q < 16) : ({ data := #[48, 49, 50, 51, 52, 53, 54, 55, 56, 57, 97, 98, 99, 100, 101, 102] } : ByteArray).extract q (q + 1) = bsA [dgs.getD q 0] := by
  rw [← dgs_lit, bsA_ext]
  congr 1
  have hl : dgs.length = 16 := rfl
  have e1 : (dgs.drop q).take 1 = [dgs[q]] := by rw [List.drop_eq_getElem_cons (by omega)]; rfl
  rw [show q + 1 - q = 1 by omega, e1, List.getD_eq_getElem?_getD, List.getElem?_eq_getElem (by omega)]
  rfl
theorem wrap_u8 {x : Nat} (h : x < 256) : IntKind.u8.wrap (x : Int) = x := by
  simp [IntKind.wrap, IntKind.signed, IntKind.bits, IntKind.min, IntKind.max] <;> omega
theorem isE (a : Bs) : (bsA a).toList.isEmpty = decide (a = []) := by
  rw [ByteArray.toList_eq, bsA_data]
  cases a <;> simp
theorem eqL (a b : Bs) : ((bsA a).toList == b) = decide (a = b) := by
  rw [ByteArray.toList_eq, bsA_data]
  by_cases h : a = b
  · subst h; simp
  · rw [decide_eq_false h, beq_eq_false_iff_ne]; exact h
theorem run_dg {q : Nat} (h : q < 16) (W : World) : (Instr.slice 9 (.string ({ data := #[48, 49, 50, 51, 52, 53, 54, 55, 56, 57, 97, 98, 99, 100, 101, 102] } : ByteArray)) (some (.int .u8 (q : Int))) (some (.int .u8 ((q : Int) + 1))) none).run Tryd.prog W = .ok (str [dgs.getD q 0]) W := by
  rw [run_slice_string W 9 _ .u8 .u8 (q : Int) ((q : Int) + 1) Tryd.underlying9 (by omega) (by omega) (by show (q : Int) + 1 ≤ 16; omega)]
  rw [show ((q : Int)).toNat = q by omega, show ((q : Int) + 1).toNat = q + 1 by omega, dgs_ext h]
set_option maxRecDepth 100000 in
set_option maxHeartbeats 4000000 in
theorem hex46_any {w : World} {B : Nat} {v : Value} {l : Bs} (h : SlY w B v l) (hl : l.length ≤ 100000) : Calls Tryd.prog 30 #[v] w fun e w' => e = .returned (str (hexP l)) ∧ Chg [] w w' := by
  obtain ⟨A, c, rfl⟩ := Sl.form h
  have HS := Lib.hid (fun W (hW : Chg [] w W) i p hp => SlY.at_ (h.chg0 hW) (k := i) (p := p) hp)
  have HX : Hid (∀ i, i < l.length → ∃ x, l[i]? = some x) := Lib.hid fun i hi => ⟨_, List.getElem?_eq_getElem hi⟩
  have HR : Hid (hexP l = if l = [] then [45] else hexL l) := Lib.hid rfl
  have HL0 : Hid (l = [] ↔ l.length = 0) := Lib.hid List.length_eq_zero_iff.symm
  clear h
  generalize hn : l.length = n at *
  have HLN := Lib.hid hn
  clear hn
  go_enter Tryd.func30, Tryd.ntmps30
  go_wp2_with fail
  go_loopw [4, 5] (fun ov iv wr => ∃ k : Nat, k ≤ n ∧ iv = .int .i64 k ∧ ov = str (hexL (l.take k)) ∧ Hid (Chg [] w wr)) (fun _ iv _ => n - (intOf iv).toNat)
  case atStart => exact ⟨0, by omega, rfl, rfl, Lib.hid (Chg.refl _ _)⟩
  case round =>
    obtain ⟨k, hk, rfl, rfl, HC⟩ := hrel
    by_cases hlt : k < n
    · have hcn : (k : Int) < (n : Int) := by omega
      obtain ⟨p, hp⟩ := HX.out k hlt
      obtain ⟨b, o, c', hv, hcap, c0⟩ := HS.out wr HC.out k p hp
      simp only [Value.slice.injEq] at hv
      obtain ⟨rfl, hnn, rfl⟩ := hv
      clear hnn
      obtain ⟨q, hq⟩ : ∃ q : Nat, (p.toNat : Int) / 16 = q := ⟨p.toNat / 16, by omega⟩
      obtain ⟨r, hr⟩ : ∃ r : Nat, (p.toNat : Int).tmod 16 = r := ⟨p.toNat % 16, by rw [Int.tmod_eq_emod_of_nonneg (by omega)]; omega⟩
      have hr0 : (p.toNat : Int) % 16 = r := by rw [← hr, Int.tmod_eq_emod_of_nonneg (by omega)]
      have hpl := p.toNat_lt
      have hq16 : q < 16 := by omega
      have hr16 : r < 16 := by omega
      have hxq := run_dg hq16
      have hxr := run_dg hr16
      have HD : Hid (hexL (l.take (k + 1)) = hexL (l.take k) ++ [dgs.getD q 0, dgs.getD r 0]) := Lib.hid (by
        rw [List.take_add_one, hp]
        show hexL (l.take k ++ [p]) = _
        rw [hexL_snoc, show p.toNat / 16 = q by omega, show p.toNat % 16 = r by omega])
      have hqI : (q : Int) < 16 := by omega
      have hrI : (r : Int) < 16 := by omega
      generalize dgs.getD q 0 = dq at *
      generalize dgs.getD r 0 = dr at *
      have hLl : (hexL (l.take k)).length ≤ 2 * k := by rw [hexL_len, List.length_take]; omega
      generalize hexL (l.take k) = L at *
      have ha1 := run_add (a := L) (b := [dq]) (by simp; omega)
      have ha2 := run_add (a := L ++ [dq]) (b := [dr]) (by simp; omega)
      rw [List.append_assoc] at ha2
      have hwq := wrap_u8 (x := q) (by omega)
      have hwq1 := wrap_u8 (x := q + 1) (by omega)
      have hwr := wrap_u8 (x := r) (by omega)
      have hwr1 := wrap_u8 (x := r + 1) (by omega)
      push_cast at hwq1 hwr1
      clear hp HS HX HR HL0 HLN hr0
      go_upto_region 6 with fail
      go_still_tail 28, (by kernel_rfl)
      go_wp2_with fail
      go_roundw
      case rel => exact ⟨k + 1, by omega, by go_num, by rw [HD.out], Lib.hid HC.out.drew⟩
      case measure => simp [intOf] <;> omega
    · obtain rfl : k = n := by omega
      have HT : Hid (l.take k = l) := Lib.hid (List.take_of_length_le (by rw [HLN.out]; exact Nat.le_refl _))
      rw [HT.out] at *
      by_cases h0 : hexL l = []
      · have hl0 : l = [] := by
          have := hexL_len l
          rw [h0] at this
          exact List.eq_nil_of_length_eq_zero (by simp at this; omega)
        have heq : (bsA (hexL l)).toList.isEmpty = true := by rw [isE]; exact decide_eq_true h0
        have HR3 : Hid (hexP l = [45]) := Lib.hid (by rw [HR.out, if_pos hl0])
        clear h0 hl0 HR HL0 HLN HT HS HX
        go_wp2_with fail
        go_ret
        exact ⟨by rw [HR3.out]; rfl, HC.out⟩
      · have hl0 : l ≠ [] := fun e => h0 (by rw [e]; rfl)
        have heq : (bsA (hexL l)).toList.isEmpty = false := by rw [isE]; exact decide_eq_false h0
        have HR3 : Hid (hexP l = hexL l) := Lib.hid (by rw [HR.out, if_neg hl0])
        clear h0 hl0 HR HL0 HLN HT HS HX
        go_wp2_with fail
        go_ret
        exact ⟨by rw [HR3.out]; rfl, HC.out⟩
/-! Bytes of digits. -/
def pairsP : Bs → Option Bs
  | [] => some []
  | [_] => none
  | a :: b :: r => if nibP a < 0 ∨ nibP b < 0 then none else (pairsP r).map (UInt8.ofNat (16 * nibP a + nibP b).toNat :: ·)
def unhexP (l : Bs) : Option Bs := if l = [45] then some [] else if l = [] then none else pairsP l
theorem nib_lt (c : UInt8) : nibP c < 16 := by
  unfold nibP
  split
  · omega
  · split <;> omega
theorem drop_two {l : Bs} {k : Nat} {a b : UInt8} (ha : l[k]? = some a) (hb : l[k + 1]? = some b) : l.drop k = a :: b :: l.drop (k + 2) := by
  rw [drop_cons_of ha, drop_cons_of hb]
theorem pairs_bad {l : Bs} {k : Nat} {a b : UInt8} {bs : Bs} (h : pairsP l = (pairsP (l.drop k)).map (bs ++ ·)) (ha : l[k]? = some a) (hb : l[k + 1]? = some b) (hn : nibP a < 0 ∨ nibP b < 0) : pairsP l = none := by
  rw [h, drop_two ha hb, pairsP, if_pos hn]
  rfl
theorem pairs_next {l : Bs} {k : Nat} {a b : UInt8} {bs : Bs} (h : pairsP l = (pairsP (l.drop k)).map (bs ++ ·)) (ha : l[k]? = some a) (hb : l[k + 1]? = some b) (hn : ¬ (nibP a < 0 ∨ nibP b < 0)) :
    pairsP l = (pairsP (l.drop (k + 2))).map ((bs ++ [UInt8.ofNat (16 * nibP a + nibP b).toNat]) ++ ·) := by
  rw [h, drop_two ha hb, pairsP, if_neg hn, Option.map_map]
  congr 1
  funext x
  simp
theorem pairs_len : ∀ {l bs : Bs}, pairsP l = some bs → l.length = 2 * bs.length
  | [], bs, h => by simp [pairsP] at h; subst h; rfl
  | [_], bs, h => by simp [pairsP] at h
  | a :: b :: r, bs, h => by
    rw [pairsP] at h
    split at h
    · cases h
    · cases hr : pairsP r with
      | none => rw [hr] at h; cases h
      | some x =>
        rw [hr] at h
        simp at h
        subst h
        have := pairs_len hr
        simp
        omega
theorem wrap_nib {a b : UInt8} (h1 : ¬ nibP a < 0) (h2 : ¬ nibP b < 0) : IntKind.u8.wrap (16 * nibP a + nibP b) = ((UInt8.ofNat (16 * nibP a + nibP b).toNat).toNat : Int) := by
  have ha := nib_lt a
  have hb := nib_lt b
  have e : (16 * nibP a + nibP b) = ((16 * nibP a + nibP b).toNat : Int) := by omega
  have hlt : (16 * nibP a + nibP b).toNat < 256 := by omega
  generalize (16 * nibP a + nibP b).toNat = m at *
  rw [e, wrap_u8 hlt]
  simp [UInt8.toNat_ofNat']
  omega
/-- What a word's bytes are told as. -/
def UnhR (l : Bs) (w w' : World) (e : Ending) : Prop := ∃ v ok, e = .returned (.tuple #[v, .bool ok]) ∧ (ok = true → ∃ bs, unhexP l = some bs ∧ SlY w' w.heap.size v bs) ∧ (ok = false → unhexP l = none) ∧ (∃ A n c, v = .slice A n c) ∧ Chg [] w w'
theorem elY : El Tryd.prog 30 5 (.int .u8 0) 1 1 := ⟨Tryd.underlying30, by kernel_rfl, rfl, by omega⟩
theorem one_cy (b : UInt8) : ∀ u ∈ [yv b], u.oneCell' = true := by
  intro u hu
  simp at hu
  subst hu
  rfl
set_option maxRecDepth 100000 in
set_option maxHeartbeats 4000000 in
theorem bytes_any (l : Bs) (hl : l.length ≤ 1000000) (w : World) : Calls Tryd.prog 27 #[str l] w fun e w' => UnhR l w w' e := by
  have hsz := bsA_size l
  by_cases h45 : l = [45]
  · have heq : ((bsA l).toList == [45]) = true := by rw [eqL]; exact decide_eq_true h45
    have HR : Hid (unhexP l = some []) := Lib.hid (by unfold unhexP; rw [if_pos h45])
    clear h45
    go_enter Tryd.func27, Tryd.ntmps27
    go_wp2_with fail
    go_ret2
    exact ⟨.slice none 0 0, true, rfl, (fun _ => ⟨[], HR.out, Sl.nil _ _ _⟩), (fun h => by cases h), ⟨_, _, _, rfl⟩, Chg.refl _ _⟩
  have heq : ((bsA l).toList == [45]) = false := by rw [eqL]; exact decide_eq_false h45
  by_cases h0 : l = []
  · have heq2 : (bsA l).toList.isEmpty = true := by rw [isE]; exact decide_eq_true h0
    have HR : Hid (unhexP l = none) := Lib.hid (by unfold unhexP; rw [if_neg h45, if_pos h0])
    clear h45 h0
    go_enter Tryd.func27, Tryd.ntmps27
    go_wp2_with fail
    go_ret2
    exact ⟨.slice none 0 0, false, rfl, (fun h => by cases h), (fun _ => HR.out), ⟨_, _, _, rfl⟩, Chg.refl _ _⟩
  have heq2 : (bsA l).toList.isEmpty = false := by rw [isE]; exact decide_eq_false h0
  have HU : Hid (unhexP l = pairsP l) := Lib.hid (by unfold unhexP; rw [if_neg h45, if_neg h0])
  by_cases hodd : l.length % 2 = 1
  · have HR : Hid (unhexP l = none) := Lib.hid (by
      rw [HU.out]
      cases hp : pairsP l with
      | none => rfl
      | some bs => have := pairs_len hp; omega)
    have ho : ((bsA l).toList.isEmpty || ((l.length : Int) % 2 == 1)) = true := by rw [heq2, Bool.false_or, beq_iff_eq]; omega
    clear h45 h0 HU
    go_enter Tryd.func27, Tryd.ntmps27
    go_wp2_with fail
    go_ret2
    exact ⟨.slice none 0 0, false, rfl, (fun h => by cases h), (fun _ => HR.out), ⟨_, _, _, rfl⟩, Chg.refl _ _⟩
  have ho : ((bsA l).toList.isEmpty || ((l.length : Int) % 2 == 1)) = false := by rw [heq2, Bool.false_or, beq_eq_false_iff_ne]; omega
  have HB : Hid (∀ k, k < l.length → ∃ b, l[k]? = some b ∧ ∀ h, (bsA l)[k]'h = b) := Lib.hid fun k hk => ⟨_, List.getElem?_eq_getElem hk, fun h => bsA_at (List.getElem?_eq_getElem hk) h⟩
  generalize hn : l.length = n at *
  have HLN := Lib.hid hn
  clear hn h45 h0
  go_enter Tryd.func27, Tryd.ntmps27
  go_wp2_with fail
  go_loopw [4, 5] (fun ov iv wr => ∃ (k : Nat) (bs : Bs), k ≤ n ∧ k % 2 = 0 ∧ iv = .int .i64 k ∧ Hid (pairsP l = (pairsP (l.drop k)).map (bs ++ ·) ∧ bs.length ≤ k) ∧ Hid (OwY wr w.heap.size ov bs) ∧ Hid (Chg [] w wr)) (fun _ iv _ => n - (intOf iv).toNat)
  case atStart => exact ⟨0, [], by omega, rfl, rfl, Lib.hid ⟨by rw [List.drop_zero]; cases pairsP l <;> rfl, by simp⟩, Lib.hid (World.ownsRow_nil ..), Lib.hid (Chg.refl _ _)⟩
  case round =>
    obtain ⟨k, bs, hk, hk2, rfl, HP, HO, HC⟩ := hrel
    by_cases hlt : k < n
    · have hcn : (k : Int) < (n : Int) := by omega
      have hk1 : k + 1 < n := by
        have h2 : ¬ n % 2 = 1 := hodd
        omega
      have hcn1 : (k : Int) + 1 < (n : Int) := by omega
      have hwk : IntKind.i64.wrap ((k : Int) + 1) = (k : Int) + 1 := by rw [IntKind.wrap_i64]; omega
      have hwn : ((k : Int) + 1).toNat = k + 1 := by omega
      have hk0 : 0 ≤ (k : Int) + 1 := by omega
      obtain ⟨ca, ha, haa⟩ := HB.out k hlt
      obtain ⟨cb, hb, hba⟩ := HB.out (k + 1) hk1
      have HAB := Lib.hid (And.intro ha hb)
      have N1 := Lib.hid (fun W (hW : Chg [] wr W) => (nibble_any ca W).mono fun (r : Ending) w'' ⟨h1, h2⟩ => (⟨h1, h2 ▸ hW⟩ : r = Ending.returned (.int .i64 (nibP ca)) ∧ Chg [] wr w''))
      have N2 := Lib.hid (fun W (hW : Chg [] wr W) => (nibble_any cb W).mono fun (r : Ending) w'' ⟨h1, h2⟩ => (⟨h1, h2 ▸ hW⟩ : r = Ending.returned (.int .i64 (nibP cb)) ∧ Chg [] wr w''))
      clear ha hb hodd HB
      go_upto_region 9 with fail
      refine wp_region_chg (by kernel_rfl) (by kernel_rfl) ?_
      (with_reducible refine wpQuiet_pure (v := ?_) ?_ (fun w => ?_) ?_); rotate_left; (focus rfl); (focus (go_simp <;> with_reducible rfl)); (try simp only [List.getElem_toArray, List.getElem_cons_succ, List.getElem_cons_zero, Act.put, List.setIfInBounds_toArray, List.set_cons_zero, List.set_cons_succ])
      (with_reducible refine wpQuiet_pure (v := ?_) ?_ (fun w => ?_) ?_); rotate_left; (focus rfl); (focus (go_simp <;> with_reducible rfl)); (try simp only [List.getElem_toArray, List.getElem_cons_succ, List.getElem_cons_zero, Act.put, List.setIfInBounds_toArray, List.set_cons_zero, List.set_cons_succ])
      (with_reducible refine wpQuiet_pure (v := ?_) ?_ (fun w => ?_) ?_); rotate_left; (focus rfl); (focus (go_simp <;> with_reducible rfl)); (try simp only [List.getElem_toArray, List.getElem_cons_succ, List.getElem_cons_zero, Act.put, List.setIfInBounds_toArray, List.set_cons_zero, List.set_cons_succ])
      (with_reducible refine wpQuiet_do ?_ (fun K hK => ?_)); (focus rfl); go_simp; (apply Exists.intro); (refine ⟨fun W hW => N1.out W hW, hK _ ?_⟩); (clear hK K); (try simp only [List.getElem_toArray, List.getElem_cons_succ, List.getElem_cons_zero, Act.put, List.setIfInBounds_toArray, List.set_cons_zero, List.set_cons_succ])
      (with_reducible refine wpQuiet_pure (v := ?_) ?_ (fun w => ?_) ?_); rotate_left; (focus rfl); (focus (go_simp <;> with_reducible rfl)); (try simp only [List.getElem_toArray, List.getElem_cons_succ, List.getElem_cons_zero, Act.put, List.setIfInBounds_toArray, List.set_cons_zero, List.set_cons_succ])
      (with_reducible refine wpQuiet_pure (v := ?_) ?_ (fun w => ?_) ?_); rotate_left; (focus rfl); (focus (go_simp <;> with_reducible rfl)); (try simp only [List.getElem_toArray, List.getElem_cons_succ, List.getElem_cons_zero, Act.put, List.setIfInBounds_toArray, List.set_cons_zero, List.set_cons_succ])
      (with_reducible refine wpQuiet_pure (v := ?_) ?_ (fun w => ?_) ?_); rotate_left; (focus rfl); (focus (go_simp <;> with_reducible rfl)); (try simp only [List.getElem_toArray, List.getElem_cons_succ, List.getElem_cons_zero, Act.put, List.setIfInBounds_toArray, List.set_cons_zero, List.set_cons_succ])
      (with_reducible refine wpQuiet_pure (v := ?_) ?_ (fun w => ?_) ?_); rotate_left; (focus rfl); (focus (go_simp <;> with_reducible rfl)); (try simp only [List.getElem_toArray, List.getElem_cons_succ, List.getElem_cons_zero, Act.put, List.setIfInBounds_toArray, List.set_cons_zero, List.set_cons_succ])
      (with_reducible refine wpQuiet_do ?_ (fun K hK => ?_)); (focus rfl); go_simp; (apply Exists.intro); (refine ⟨fun W hW => N2.out W hW, hK _ ?_⟩); (clear hK K); (try simp only [List.getElem_toArray, List.getElem_cons_succ, List.getElem_cons_zero, Act.put, List.setIfInBounds_toArray, List.set_cons_zero, List.set_cons_succ])
      (with_reducible refine wpQuiet_pure (v := ?_) ?_ (fun w => ?_) ?_); rotate_left; (focus rfl); (focus (go_simp <;> with_reducible rfl)); (try simp only [List.getElem_toArray, List.getElem_cons_succ, List.getElem_cons_zero, Act.put, List.setIfInBounds_toArray, List.set_cons_zero, List.set_cons_succ])
      (with_reducible refine wpQuiet_pure (v := ?_) ?_ (fun w => ?_) ?_); rotate_left; (focus rfl); (focus (go_simp <;> with_reducible rfl)); (try simp only [List.getElem_toArray, List.getElem_cons_succ, List.getElem_cons_zero, Act.put, List.setIfInBounds_toArray, List.set_cons_zero, List.set_cons_succ])
      refine wpQuiet_nil ?_
      intro w8 hc8
      have hc8' : Chg [] wr w8 := hc8
      have HC8 := Lib.hid (HC.out.trans hc8')
      have HO8 := Lib.hid (own_chg HO.out hc8' (by simp))
      clear hc8 hc8' HC HO N1 N2
      by_cases hbad : nibP ca < 0 ∨ nibP cb < 0
      · have HN : Hid (unhexP l = none) := Lib.hid (by rw [HU.out]; exact pairs_bad HP.out.1 HAB.out.1 HAB.out.2 hbad)
        have hor : (decide (nibP ca < 0) || decide (nibP cb < 0)) = true := by simpa using hbad
        clear hbad HP HAB HU
        go_wp2_with fail
        all_goals
          go_ret2
          exact ⟨.slice none 0 0, false, rfl, (fun h => by cases h), (fun _ => HN.out), ⟨_, _, _, rfl⟩, HC8.out⟩
      · have HP2 := Lib.hid (pairs_next HP.out.1 HAB.out.1 HAB.out.2 hbad)
        have hn1 : ¬ nibP ca < 0 := fun h => hbad (.inl h)
        have hn2 : ¬ nibP cb < 0 := fun h => hbad (.inr h)
        have hl1 := nib_lt ca
        have hl2 := nib_lt cb
        have hwu := wrap_nib hn1 hn2
        have hm1 : IntKind.i64.wrap (16 * nibP ca) = 16 * nibP ca := by rw [IntKind.wrap_i64]; omega
        have hm2 : IntKind.i64.wrap (16 * nibP ca + nibP cb) = 16 * nibP ca + nibP cb := by rw [IntKind.wrap_i64]; omega
        generalize UInt8.ofNat (16 * nibP ca + nibP cb).toNat = d at *
        have hA := (Chg.refl [] w8).alloc (.cells #[yv d] 5)
        have hbl : Blk (w8.alloc (.cells #[yv d] 5)) w8.heap.size 5 #[yv d] := Blk.new _ _ _
        have hbsl := HP.out.2
        have HR1 := Lib.hid (own_chg HO8.out hA (by simp))
        have HS1 := Lib.hid (one_s hbl)
        have HLT := Lib.hid (own_lt HO8.out)
        have hws : w.heap.size ≤ (w8.alloc (.cells #[yv d] 5)).heap.size := by have := HC8.out.size; rw [World.size_alloc]; omega
        have HA := Lib.hid hA
        have HFIN : Hid (∀ v1 w1, w1.ownsRow w.heap.size 5 1 v1 (bs.length + 1) (bs.map yv ++ [yv d]) → Chg u4.ownBlock.toList (w8.alloc (.cells #[yv d] 5)) w1 → OwY w1 w.heap.size v1 (bs ++ [d]) ∧ Chg [] w w1) := Lib.hid fun v1 w1 h1 h2 =>
          ⟨by unfold OwY; rw [List.length_append, List.map_append]; exact h1, (HC8.out.trans HA.out).trans' h2 (fun x hx => .inr (HLT.out x hx).1)⟩
        have HP3 : Hid (pairsP l = (pairsP (l.drop (k + 2))).map ((bs ++ [d]) ++ ·) ∧ (bs ++ [d]).length ≤ k + 2) := Lib.hid ⟨HP2.out, by simp; omega⟩
        clear hbad hA hbl HP HP2 HAB HLT HA
        go_wp2_with (first
          | (at_builtin; refine wpList_app elY rfl (.tmp 39) (.tmp 45) rfl w.heap.size rfl HR1.out rfl HS1.out (one_cy d) (by unfold maxLen; omega) (by omega) hws ?_; intro v1 w1 hown1 hc1 hb1)
          | fail)
        go_roundw
        case rel => exact ⟨_, _, v1, .int .i64 ((k + 2 : Nat) : Int), ⟨k + 2, by omega, by omega, rfl, bs ++ [d], HP3, Lib.hid (HFIN.out _ _ hown1 hc1).1, Lib.hid (HFIN.out _ _ hown1 hc1).2⟩, rfl, rfl, rfl, by go_num⟩
        case measure => show n - ((k : Int) + 2).toNat < n - ((k : Int)).toNat; omega
    · obtain rfl : k = n := by omega
      have HR : Hid (unhexP l = some bs) := Lib.hid (by
        rw [HU.out, HP.out.1, show l.drop k = [] from List.drop_eq_nil_of_le (by rw [HLN.out]; exact Nat.le_refl _)]
        simp [pairsP])
      obtain ⟨A, c, hform⟩ := Sl.form (Sl.of_own HO.out)
      subst hform
      clear HP HU HB
      go_wp2_with fail
      go_ret2
      exact ⟨_, true, rfl, (fun _ => ⟨bs, HR.out, Sl.of_own HO.out⟩), (fun h => by cases h), ⟨_, _, _, rfl⟩, HC.out⟩
end Go.Proofs.YtljgemknccodeaaDoor
