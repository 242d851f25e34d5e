/-
  WALK: the rows of two tables by the document's answer. Condition: the tables read as at most 200 integers.
-/
import Derived.Test.YtimnkcjpgglpdaaShiftRows
set_option linter.unusedVariables false
set_option linter.unusedSimpArgs false
namespace Go.Proofs.Ytimnkcjpgglpdaa
open Go.RowKit

theorem elR19 : El Try.prog 32 36 (.agg #[.int .i64 0, .int .i64 0, .int .i64 0, .int .i64 0]) 4 32 := ⟨Try.underlying32, by kernel_rfl, rfl, by omega⟩
theorem ones_Z (l : List Int) : ∀ u ∈ l.map (Value.int .i64), u.oneCell' = true := by
  intro u hu
  obtain ⟨x, _, rfl⟩ := List.mem_map.1 hu
  rfl
def rC (nd H S K : Int) : Array Value := #[.int .i64 nd, .int .i64 H, .int .i64 S, .int .i64 K]

set_option maxRecDepth 100000 in
set_option maxHeartbeats 2000000 in
theorem rows19_any {w : World} {B B' : Nat} {v v' : Value} {l l' : List Int} (h : SlZ w B v l) (h' : SlZ w B' v' l') (hl : l.length ≤ 200) (hl' : l'.length ≤ 200) :
    Calls Try.prog 22 #[v, v'] w fun e w' => ∃ v2 L, e = .returned v2 ∧ IsRows (Mk l l' (max l.length l'.length)) L ∧ SlR w' w.heap.size v2 L ∧ Below w.heap.size w w' := by
  have HAt := Lib.hid (fun i w1 (hc : Chg [] w w1) => at_any (w := w1) i (h.chg0 hc) (by omega))
  have HAt' := Lib.hid (fun i w1 (hc : Chg [] w w1) => at_any (w := w1) i (h'.chg0 hc) (by omega))
  have HS1 := Lib.hid (fun w1 (hc : Chg [] w w1) => h.chg0 hc)
  have HS2 := Lib.hid (fun w1 (hc : Chg [] w w1) => h'.chg0 hc)
  obtain ⟨A1, c1, rfl⟩ := Sl.form h
  obtain ⟨A2, c2, rfl⟩ := Sl.form h'
  have HO1 := Lib.hid (ones_Z l)
  have HO2 := Lib.hid (ones_Z l')
  have HN2 : Hid (∀ (w1 : World) (B1 : Nat) (u : Value), SlZ w1 B1 u (l ++ l') → Calls Try.prog 18 #[u] w1 fun e w' => ∃ v' ns, e = .returned v' ∧ IsNodes (l ++ l') ns ∧ SlZ w' w1.heap.size v' ns ∧ Below w1.heap.size w1 w') :=
    Lib.hid (fun w1 B1 u hu => nodes18_any hu (by simp; omega))
  obtain ⟨K, hK⟩ : ∃ K, K = max l.length l'.length := ⟨_, rfl⟩
  have HIR : Hid (∀ ns, IsNodes (l ++ l') ns → IsRows (Mk l l' K) (ns.map fun n => rowK l l' n K)) := Lib.hid fun ns hN => IsRows.of_nodes hN.1 fun n => by
    rw [hN.2 n]
    constructor
    · rintro ⟨h0, hm⟩
      refine ⟨h0, ?_⟩
      rcases List.mem_append.1 hm with h1 | h1
      · exact .inl ((hadK_mem h0 (by omega)).2 h1)
      · exact .inr ((hadK_mem h0 (by omega)).2 h1)
    · rintro ⟨h0, hm⟩
      refine ⟨h0, List.mem_append.2 ?_⟩
      rcases hm with h1 | h1
      · exact .inl ((hadK_mem h0 (by omega)).1 h1)
      · exact .inr ((hadK_mem h0 (by omega)).1 h1)
  have HLn : Hid (∀ ns, IsNodes (l ++ l') ns → ns.length ≤ 400) := Lib.hid fun ns hN => by have := hN.length_le; simp at this; omega
  have hK2 : K ≤ 200 := by omega
  have HKR := Lib.hid hK
  clear hK
  have hcat1 : Sl (w.alloc (.cells #[] 3)) B 1 (.slice A1 l.length c1) l.length (l.map (Value.int .i64)) := Sl.chg0 h ((Chg.refl _ _).alloc _)
  have HL : Hid ((l ++ l').map (Value.int .i64) = l.map (Value.int .i64) ++ l'.map (Value.int .i64) ∧ (l ++ l').length = l.length + l'.length) := Lib.hid ⟨by simp, by simp⟩
  clear h h'
  generalize hnl : l.length = n at *
  generalize hml : l'.length = m at *
  have hown0 : (w.alloc (.cells #[] 3)).ownsRow w.heap.size 3 1 (.slice (some ⟨w.heap.size, 0, none⟩) 0 0) 0 [] := own_lit w _ 1 0 #[] (Nat.le_refl _) (by simp [maxLen]) rfl
  go_enter Try.func22, Try.ntmps22
  have tok1 : True := trivial
  go_wp2_with (first
    | (at_builtin; have _t := tok1; refine wpList_app elZ rfl (.tmp 12) (.tmp 13) rfl w.heap.size rfl hown0 rfl hcat1 HO1.out (by simp only [maxLen]; omega) (by omega) (by simp) ?_; intro v1 w1 hown1 hc1 hb1; clear tok1; have hd1 : Chg [] w w1 := ((Chg.refl [] w).alloc _).trans' hc1 (fun x hx => .inr ((own_lt hown0 x hx).1)); have hcat2 := HS2.out w1 hd1; rw [SlZ, hml] at hcat2; rw [Nat.zero_add, List.nil_append] at hown1; have hsz1 := hd1.size)
    | (at_builtin; refine wpList_app elZ rfl (.tmp 14) (.tmp 15) rfl w.heap.size rfl hown1 rfl hcat2 HO2.out (by simp only [maxLen]; omega) (by omega) hsz1 ?_; intro v2 w2 hown2 hc2 hb2)
    | fail)
  have hd2 : Chg [] w w2 := hd1.trans' hc2 (fun x hx => .inr ((own_lt hown1 x hx).1))
  have hS2 : SlZ w2 w.heap.size v2 (l ++ l') := by
    unfold SlZ
    rw [HL.out.1, HL.out.2]
    exact Sl.of_own hown2
  have F2 := Lib.hid (HN2.out w2 _ v2 hS2)
  clear hc2 hb2 hcat2 hown1 hown2 hS2 HN2 HL hd1 hsz1 HS1 HS2 HO1 HO2 hc1 hb1 hcat1 hown0
  go_wp2_with fail
  refine F2.out.mono ?_
  rintro e w3 ⟨v3, ns, rfl, hN, hs3, hB3⟩
  have hd3 : Chg [] w w3 := hd2.trans (Chg.of_below hB3)
  have HI := Lib.hid (HIR.out ns hN)
  have hln := HLn.out ns hN
  have hsz3 := hd3.size
  obtain ⟨A3, c3, rfl⟩ := Sl.form hs3
  have HS3 := Lib.hid (fun w1 (hc : Chg [] w3 w1) (i : Nat) (hi : i < ns.length) => Sl.at_ (Sl.chg0 hs3 hc) hi (by omega))
  clear F2 HIR HLn hN hs3 hB3 hd2
  generalize hq : ns.length = q at *
  go_wp2_with fail
  go_loopw [6, 7] (fun u iv wr => ∃ k : Nat, k ≤ q ∧ iv = .int .i64 k ∧ wr.ownsRow w3.heap.size 36 4 u k (((ns.take k).map fun n => rowK l l' n K).flatMap encR) ∧ Below w3.heap.size w3 wr) (fun _ iv _ => q - (intOf iv).toNat)
  case atStart => exact ⟨0, by omega, rfl, World.ownsRow_nil .., Below.refl _ _⟩
  case round =>
    obtain ⟨k, hk, rfl, hrow, hnx⟩ := hrel
    have hcr : Chg [] w3 wr := Chg.of_below hnx
    by_cases hlt : k < q
    · obtain ⟨b, o, c', hv, _, _, hx⟩ := HS3.out wr hcr k hlt
      simp only [Value.slice.injEq, true_and] at hv
      obtain ⟨rfl, rfl⟩ := hv
      have hnd : ns[k]? = some (ns[k]'(by omega)) := List.getElem?_eq_getElem _
      have ht : ns.take (k + 1) = ns.take k ++ [ns[k]'(by omega)] := by rw [List.take_add_one, hnd]; rfl
      have hx0 := hx 0 (by omega)
      simp only [Nat.mul_one, Nat.add_zero, List.getElem?_map, hnd, Option.map_some] at hx0
      have hcx : ∀ wx, Chg [] wr wx → wx.cell? ⟨b, o + k, none⟩ = some (.int .i64 (ns[k]'(by omega))) := fun wx hc => hc.cell hx0 (by simp)
      generalize ns[k]'(by omega) = nd at *
      have HT := Lib.hid ht
      have HCX := Lib.hid hcx
      clear hx hnd ht hcx
      obtain ⟨wo, rfl⟩ : ∃ wo, wo = wr := ⟨_, rfl⟩
      go_wp2_with fail
      go_loopw [9] (fun iv wx => ∃ j : Nat, j ≤ K ∧ iv = .int .i64 j ∧ Blk wx wo.heap.size 36 (rC nd (hadK l nd j) (hadK l' nd j) (keptK l l' nd j)) ∧ Chg [] wo wx) (fun iv _ => K - (intOf iv).toNat)
      case atStart => exact ⟨0, by omega, rfl, Blk.new _ _ _, (Chg.refl _ _).alloc _⟩
      case round =>
        obtain ⟨j, hj, rfl, hB, hcx⟩ := hrel
        have hcw := (hd3.trans hcr).trans hcx
        by_cases hjK : j < K
        · have HQ1 : Hid (∀ d, Calls Try.prog 51 #[.slice A1 n c1, .int .i64 j] (wr.drewN d) fun e w' => e = .returned (.int .i64 (aAt l j)) ∧ w' = wr.drewN d) := Lib.hid fun d => (HAt.out j _ (hcw.drewN d)).mono fun _ _ ⟨a, b⟩ => ⟨a, b.symm⟩
          have HQ2 : Hid (∀ d, Calls Try.prog 51 #[.slice A2 m c2, .int .i64 j] (wr.drewN d) fun e w' => e = .returned (.int .i64 (aAt l' j)) ∧ w' = wr.drewN d) := Lib.hid fun d => (HAt'.out j _ (hcw.drewN d)).mono fun _ _ ⟨a, b⟩ => ⟨a, b.symm⟩
          have hcl := HCX.out wr hcx
          have hs1 : hadK l nd (j + 1) = hadK l nd j + if (aAt l j == nd) = true then 1 else 0 := cnt_succ _ _
          have hs2 : hadK l' nd (j + 1) = hadK l' nd j + if (aAt l' j == nd) = true then 1 else 0 := cnt_succ _ _
          have hs3 : keptK l l' nd (j + 1) = keptK l l' nd j + if (aAt l j == nd && aAt l' j == nd) = true then 1 else 0 := cnt_succ _ _
          have hb1 : hadK l nd j ≤ j := cnt_le _ _
          have hb2 : hadK l' nd j ≤ j := cnt_le _ _
          have hb3 : keptK l l' nd j ≤ j := cnt_le _ _
          have hor : Hid (j < n ∨ (¬ j < n ∧ j < m)) := Lib.hid (by have := HKR.out; omega)
          generalize hadK l nd j = H at *
          generalize hadK l' nd j = S at *
          generalize keptK l l' nd j = T at *
          generalize aAt l j = a at *
          generalize aAt l' j = a' at *
          have hw1 : IntKind.i64.wrap ((H : Int) + 1) = (H : Int) + 1 := by rw [IntKind.wrap_i64]; omega
          have hw2 : IntKind.i64.wrap ((S : Int) + 1) = (S : Int) + 1 := by rw [IntKind.wrap_i64]; omega
          have hw3 : IntKind.i64.wrap ((T : Int) + 1) = (T : Int) + 1 := by rw [IntKind.wrap_i64]; omega
          have hkq : (k : Int) < (q : Int) := by omega
          clear HAt HAt' HS3 HCX HI hrow hx0 HT hcw HKR hnx
          rcases hp : (a == nd) with _ | _ <;> rcases hq' : (a' == nd) with _ | _
          rotate_left 3
          · -- True True
            have e1 : ((hadK l nd (j + 1) : Nat) : Int) = (H : Int) + 1 := by rw [hs1, hp]; push_cast; rfl
            have e2 : ((hadK l' nd (j + 1) : Nat) : Int) = (S : Int) + 1 := by rw [hs2, hq']; push_cast; rfl
            have e3 : ((keptK l l' nd (j + 1) : Nat) : Int) = (T : Int) + 1 := by rw [hs3, hp, hq']; push_cast; rfl
            have E1 := Lib.hid e1
            have E2 := Lib.hid e2
            have E3 := Lib.hid e3
            clear e1 e2 e3 hs1 hs2 hs3
            rcases hor.out with hjn | ⟨hjn, hjm⟩
            all_goals
              go_wp2_with fail
              go_quiet (first | (go_at_call 51; with_reducible exact Calls.quiet_of_same (HQ1.out _)) | (go_at_call 51; with_reducible exact Calls.quiet_of_same (HQ2.out _)))
              have hBq := hB.chg ((Chg.refl [] wr).drewN nq) (by simp)
              have hcq := hcx.drewN nq
              have g1 := hBq.cell 1
              have g2 := hBq.cell 2
              have g3 := hBq.cell 3
              have f1 := hBq.frozen 1
              have f2 := hBq.frozen 2
              have f3 := hBq.frozen 3
              simp only [rC] at g1 g2 g3
              generalize wr.drewN nq = wy at *
              go_wp2_with fail
              go_roundw
              case rel => exact ⟨j + 1, by omega, by go_num, by rw [E1.out, E2.out, E3.out]; simpa [rC] using (((hBq.set_ 1 (.int .i64 ((H : Int) + 1))).set_ 2 (.int .i64 ((S : Int) + 1))).set_ 3 (.int .i64 ((T : Int) + 1))), (((hcq.setCell (p := ⟨wo.heap.size, 1, none⟩) (.inr (Nat.le_refl _)) (.int .i64 ((H : Int) + 1))).setCell (p := ⟨wo.heap.size, 2, none⟩) (.inr (Nat.le_refl _)) (.int .i64 ((S : Int) + 1))).setCell (p := ⟨wo.heap.size, 3, none⟩) (.inr (Nat.le_refl _)) (.int .i64 ((T : Int) + 1)))⟩
              case measure => simp [intOf]; omega
          · -- False False
            have e1 : ((hadK l nd (j + 1) : Nat) : Int) = (H : Int) := by rw [hs1, hp]; push_cast; rfl
            have e2 : ((hadK l' nd (j + 1) : Nat) : Int) = (S : Int) := by rw [hs2, hq']; push_cast; rfl
            have e3 : ((keptK l l' nd (j + 1) : Nat) : Int) = (T : Int) := by rw [hs3, hp, hq']; push_cast; rfl
            have E1 := Lib.hid e1
            have E2 := Lib.hid e2
            have E3 := Lib.hid e3
            clear e1 e2 e3 hs1 hs2 hs3
            rcases hor.out with hjn | ⟨hjn, hjm⟩
            all_goals
              go_wp2_with fail
              go_quiet (first | (go_at_call 51; with_reducible exact Calls.quiet_of_same (HQ1.out _)) | (go_at_call 51; with_reducible exact Calls.quiet_of_same (HQ2.out _)))
              have hBq := hB.chg ((Chg.refl [] wr).drewN nq) (by simp)
              have hcq := hcx.drewN nq
              have g1 := hBq.cell 1
              have g2 := hBq.cell 2
              have g3 := hBq.cell 3
              have f1 := hBq.frozen 1
              have f2 := hBq.frozen 2
              have f3 := hBq.frozen 3
              simp only [rC] at g1 g2 g3
              generalize wr.drewN nq = wy at *
              go_wp2_with fail
              go_roundw
              case rel => exact ⟨j + 1, by omega, by go_num, by rw [E1.out, E2.out, E3.out]; simpa [rC] using hBq, hcq⟩
              case measure => simp [intOf]; omega
          · -- False True
            have e1 : ((hadK l nd (j + 1) : Nat) : Int) = (H : Int) := by rw [hs1, hp]; push_cast; rfl
            have e2 : ((hadK l' nd (j + 1) : Nat) : Int) = (S : Int) + 1 := by rw [hs2, hq']; push_cast; rfl
            have e3 : ((keptK l l' nd (j + 1) : Nat) : Int) = (T : Int) := by rw [hs3, hp, hq']; push_cast; rfl
            have E1 := Lib.hid e1
            have E2 := Lib.hid e2
            have E3 := Lib.hid e3
            clear e1 e2 e3 hs1 hs2 hs3
            rcases hor.out with hjn | ⟨hjn, hjm⟩
            all_goals
              go_wp2_with fail
              go_quiet (first | (go_at_call 51; with_reducible exact Calls.quiet_of_same (HQ1.out _)) | (go_at_call 51; with_reducible exact Calls.quiet_of_same (HQ2.out _)))
              have hBq := hB.chg ((Chg.refl [] wr).drewN nq) (by simp)
              have hcq := hcx.drewN nq
              have g1 := hBq.cell 1
              have g2 := hBq.cell 2
              have g3 := hBq.cell 3
              have f1 := hBq.frozen 1
              have f2 := hBq.frozen 2
              have f3 := hBq.frozen 3
              simp only [rC] at g1 g2 g3
              generalize wr.drewN nq = wy at *
              go_wp2_with fail
              go_roundw
              case rel => exact ⟨j + 1, by omega, by go_num, by rw [E1.out, E2.out, E3.out]; simpa [rC] using (hBq.set_ 2 (.int .i64 ((S : Int) + 1))), (hcq.setCell (p := ⟨wo.heap.size, 2, none⟩) (.inr (Nat.le_refl _)) (.int .i64 ((S : Int) + 1)))⟩
              case measure => simp [intOf]; omega
          · -- True False
            have e1 : ((hadK l nd (j + 1) : Nat) : Int) = (H : Int) + 1 := by rw [hs1, hp]; push_cast; rfl
            have e2 : ((hadK l' nd (j + 1) : Nat) : Int) = (S : Int) := by rw [hs2, hq']; push_cast; rfl
            have e3 : ((keptK l l' nd (j + 1) : Nat) : Int) = (T : Int) := by rw [hs3, hp, hq']; push_cast; rfl
            have E1 := Lib.hid e1
            have E2 := Lib.hid e2
            have E3 := Lib.hid e3
            clear e1 e2 e3 hs1 hs2 hs3
            rcases hor.out with hjn | ⟨hjn, hjm⟩
            all_goals
              go_wp2_with fail
              go_quiet (first | (go_at_call 51; with_reducible exact Calls.quiet_of_same (HQ1.out _)) | (go_at_call 51; with_reducible exact Calls.quiet_of_same (HQ2.out _)))
              have hBq := hB.chg ((Chg.refl [] wr).drewN nq) (by simp)
              have hcq := hcx.drewN nq
              have g1 := hBq.cell 1
              have g2 := hBq.cell 2
              have g3 := hBq.cell 3
              have f1 := hBq.frozen 1
              have f2 := hBq.frozen 2
              have f3 := hBq.frozen 3
              simp only [rC] at g1 g2 g3
              generalize wr.drewN nq = wy at *
              go_wp2_with fail
              go_roundw
              case rel => exact ⟨j + 1, by omega, by go_num, by rw [E1.out, E2.out, E3.out]; simpa [rC] using (hBq.set_ 1 (.int .i64 ((H : Int) + 1))), (hcq.setCell (p := ⟨wo.heap.size, 1, none⟩) (.inr (Nat.le_refl _)) (.int .i64 ((H : Int) + 1)))⟩
              case measure => simp [intOf]; omega
        · obtain rfl : j = K := by omega
          have hro := own_chg hrow hcx (by simp)
          have hjn : ¬ j < n := by have := HKR.out; omega
          have hjm : ¬ j < m := by have := HKR.out; omega
          have g0 := hB.cell 0
          have g1 := hB.cell 1
          have g2 := hB.cell 2
          have g3 := hB.cell 3
          simp only [rC] at g0 g1 g2 g3
          have hrk : rowK l l' nd j = ⟨nd, hadK l nd j, hadK l' nd j, keptK l l' nd j⟩ := rfl
          have HRK := Lib.hid hrk
          have hszo := hcx.size
          have hszw := hnx.size
          clear HAt HAt' HS3 HCX HI hrk hx0 HKR
          generalize (hadK l nd j : Int) = H at *
          generalize (hadK l' nd j : Int) = S at *
          generalize (keptK l l' nd j : Int) = T at *
          have hcat : Sl (wr.alloc (.cells #[.int .i64 nd, .int .i64 H, .int .i64 S, .int .i64 T] 36)) 0 4 (.slice (some ⟨wr.heap.size, 0, none⟩) 1 1) 1 (encR ⟨nd, H, S, T⟩) :=
            Sl.of_own (own_lit (base := 0) wr 36 4 1 #[.int .i64 nd, .int .i64 H, .int .i64 S, .int .i64 T] (Nat.zero_le _) (by simp [maxLen]) rfl)
          go_wp2_with (at_builtin; refine wpList_app elR19 rfl (.tmp 75) (.tmp 77) rfl w3.heap.size rfl (hro.alloc _) rfl hcat (encR_one ⟨nd, H, S, T⟩) (by unfold maxLen; omega) (by omega) (by simp; omega) ?_; intro v5 w5 hown5 hc5 hb5)
          have hall := ((hcx.more (T := Value.ownBlock _ |>.toList) (by simp)).alloc _).trans hc5
          have hB5 := hnx.trans (hall.below' hnx.size (fun x hx => (own_lt hro x hx).1))
          clear hall hB
          go_roundw
          case rel =>
            refine ⟨k + 1, by omega, by go_num, ?_, hB5⟩
            rw [HT.out, List.map_append, List.flatMap_append]
            simpa [HRK.out] using hown5
          case measure => simp [intOf]; omega
    · obtain rfl : k = q := by omega
      have htk : ns.take k = ns := by rw [← hq, List.take_length]
      rw [htk] at hrow
      have HIK := Lib.hid (HKR.out ▸ HI.out)
      rw [HKR.out] at hrow
      clear HAt HAt' HS3 HI HKR htk
      go_wp2_with fail
      go_ret
      refine ⟨_, _, rfl, HIK.out, ?_, hd3.below.trans (hnx.mono hsz3)⟩
      unfold SlR
      rw [List.length_map, hq]
      exact (Sl.of_own hrow).less hsz3
end Go.Proofs.Ytimnkcjpgglpdaa
