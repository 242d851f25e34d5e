/-
  WALK: members by their nodes, by the document's answer. Condition: members that can be.
-/
import Derived.Test.YtecblclpchndiaaGreatMagB
set_option linter.unusedVariables false
set_option linter.unusedSimpArgs false
namespace Go.Proofs.YtecblclpchndiaaGreat
open Go.RowKit

/-- Where a member comes among others. -/
def atM (out : List Mb) (x : Mb) : Nat := (out.takeWhile fun y => decide (y.node < x.node)).length
def insM (out : List Mb) (x : Mb) : List Mb := (out.take (atM out x) ++ [x]) ++ out.drop (atM out x)
theorem atM_le (out : List Mb) (x : Mb) : atM out x ≤ out.length := (List.takeWhile_sublist _).length_le
theorem atM_less : ∀ {out : List Mb} {x y : Mb} {j : Nat}, j < atM out x → out[j]? = some y → y.node < x.node
  | [], x, y, j, _, h => by simp at h
  | a :: out, x, y, j, hj, h => by
    unfold atM at hj
    rw [List.takeWhile_cons] at hj
    split at hj
    · next ha =>
      cases j with
      | zero => simp at h; subst h; simpa using ha
      | succ j => exact atM_less (by unfold atM; simpa using hj) (by simpa using h)
    · simp at hj
theorem atM_stop : ∀ {out : List Mb} {x y : Mb}, out[atM out x]? = some y → ¬ y.node < x.node
  | [], x, y, h => by simp at h
  | a :: out, x, y, h => by
    unfold atM at h
    rw [List.takeWhile_cons] at h
    split at h
    · next ha => exact atM_stop (by unfold atM; simpa using h)
    · next ha => simp at h; subst h; simpa using ha
theorem insM_perm (out : List Mb) (x : Mb) : (insM out x).Perm (out ++ [x]) := by
  unfold insM
  have e : (out.take (atM out x) ++ [x] ++ out.drop (atM out x)).Perm (out.take (atM out x) ++ out.drop (atM out x) ++ [x]) := by
    rw [List.append_assoc, List.append_assoc]
    exact List.Perm.append_left _ List.perm_append_comm
  rwa [List.take_append_drop] at e
theorem insM_srt {out : List Mb} {x : Mb} (h : SrtM out) (hx : x.node ∉ nodesM out) : SrtM (insM out x) := by
  unfold SrtM insM nodesM at *
  rw [List.map_append, List.map_append, List.pairwise_append, List.pairwise_append]
  have hall : ∀ (j : Nat) (y : Mb), out[j]? = some y → atM out x ≤ j → x.node < y.node := fun j y hy hj => by
    have hl := (List.getElem?_eq_some_iff.1 hy).1
    have hne : y.node ≠ x.node := fun e => hx (by rw [← e]; exact List.mem_map.2 ⟨y, List.mem_of_getElem? hy, rfl⟩)
    obtain ⟨z, hz⟩ : ∃ z, out[atM out x]? = some z := ⟨_, List.getElem?_eq_getElem (by omega)⟩
    have hzn := atM_stop hz
    by_cases e : j = atM out x
    · subst e
      rw [hy] at hz
      cases hz
      omega
    · have hpw := (List.pairwise_iff_getElem.1 h) (atM out x) j (by simp; omega) (by simp; omega) (by omega)
      simp only [List.getElem_map] at hpw
      have e1 : out[atM out x]'(by omega) = z := by rw [List.getElem?_eq_getElem (by omega)] at hz; exact Option.some.inj hz
      have e2 : out[j]'(by omega) = y := by rw [List.getElem?_eq_getElem (by omega)] at hy; exact Option.some.inj hy
      rw [e1, e2] at hpw
      omega
  have htk : ∀ a ∈ (out.take (atM out x)).map (·.node), a < x.node := fun a ha => by
    obtain ⟨y, hy, rfl⟩ := List.mem_map.1 ha
    obtain ⟨j, hj⟩ := List.getElem?_of_mem hy
    rw [List.getElem?_take] at hj
    split at hj
    · next hlt => exact atM_less hlt hj
    · cases hj
  have hdr : ∀ b ∈ (out.drop (atM out x)).map (·.node), x.node < b := fun b hb => by
    obtain ⟨y, hy, rfl⟩ := List.mem_map.1 hb
    obtain ⟨j, hj⟩ := List.getElem?_of_mem hy
    rw [List.getElem?_drop] at hj
    exact hall _ y hj (by omega)
  refine ⟨⟨h.sublist ((List.take_sublist _ _).map _), by simp, fun a ha b hb => ?_⟩, h.sublist ((List.drop_sublist _ _).map _), fun a ha b hb => ?_⟩
  · simp at hb; subst hb; exact htk a ha
  · rcases List.mem_append.1 ha with ha | ha
    · have := htk a ha; have := hdr b hb; omega
    · simp at ha; subst ha; exact hdr b hb

set_option maxRecDepth 100000 in
set_option maxHeartbeats 4000000 in
theorem sorted17_any {w : World} {B : Nat} {v : Value} {l : List Mb} (h : SlM w B v l) (hok : OkM l) :
    Calls Tryz.prog 31 #[v] w fun e w' => ∃ (v' : Value) (L : List Mb), e = .returned v' ∧ L.Perm l ∧ SrtM L ∧ SlM w' w.heap.size v' L ∧ Chg [] w w' := by
  obtain ⟨A, c, rfl⟩ := Sl.form h
  have HS := Lib.hid (fun W (hW : Chg [] w W) i x hx => (h.chg0 hW).at_ (i := i) (x := x) hx)
  have HX : Hid (∀ i, i < l.length → ∃ x, l[i]? = some x ∧ x.node ∉ nodesM (l.take i)) := Lib.hid fun i hi => by
    refine ⟨_, List.getElem?_eq_getElem hi, fun hm => ?_⟩
    obtain ⟨j, hj, y, hy, e⟩ := mem_nodes.1 hm
    have hnd := List.pairwise_iff_getElem.1 hok.nd j i (by simp [nodesM]; omega) (by simp [nodesM]; omega) hj
    simp only [nodesM, List.getElem_map] at hnd
    have e1 : l[j]'(by omega) = y := by rw [List.getElem?_eq_getElem (by omega)] at hy; exact Option.some.inj hy
    rw [e1] at hnd
    exact hnd e
  have hlen := hok.len
  have HLT : Hid (l.take l.length = l) := Lib.hid (List.take_length ..)
  clear h hok
  generalize hn : l.length = n at *
  have h0 : w.ownsRow w.heap.size 78 2 (.slice none 0 0) ([] : List Mb).length (([] : List Mb).flatMap encM) := World.ownsRow_nil ..
  go_enter Tryz.func31, Tryz.ntmps31
  go_wp2_with fail
  go_loopw [3, 4, 5, 6] (fun ov iv _ _ wr => ∃ (k : Nat) (out : List Mb), k ≤ n ∧ iv = .int .i64 k ∧ wr.ownsRow w.heap.size 78 2 ov out.length (out.flatMap encM) ∧ out.length = k ∧ Hid (out.Perm (l.take k)) ∧ Hid (SrtM out) ∧ Hid (Chg [] w wr)) (fun _ iv _ _ _ => n - (intOf iv).toNat)
  case atStart => exact ⟨0, [], by omega, rfl, h0, rfl, Lib.hid (by simp), Lib.hid (by simp [SrtM, nodesM]), Lib.hid (Chg.refl _ _)⟩
  case round =>
    obtain ⟨k, out, hk, rfl, hrow, hol, HP, HSR, HC⟩ := hrel
    by_cases hlt : k < n
    · have hcn : (k : Int) < (n : Int) := by omega
      obtain ⟨x, hx, hxn⟩ := HX.out k hlt
      obtain ⟨A3, c3, rfl⟩ := Sl.form (Sl.of_own hrow)
      have HSO := Lib.hid (fun W (hW : Chg [] wr W) i y hy => SlM.at_ (w := W) (B := w.heap.size) (Sl.chg0 (Sl.of_own hrow) hW) (i := i) (x := y) hy)
      have HTK : Hid (l.take (k + 1) = l.take k ++ [x]) := Lib.hid (by rw [List.take_add_one, hx]; rfl)
      have HXN := Lib.hid hxn
      have HSX := Lib.hid (fun W hW => HS.out W hW k x hx)
      have HAL : Hid (∀ j y, j < atM out x → out[j]? = some y → y.node < x.node) := Lib.hid fun j y => atM_less
      have HAS : Hid (∀ y, out[atM out x]? = some y → ¬ y.node < x.node) := Lib.hid fun y => atM_stop
      have hal := atM_le out x
      have HIN : Hid (insM out x = (out.take (atM out x) ++ [x]) ++ out.drop (atM out x)) := Lib.hid rfl
      have HIP := Lib.hid (insM_perm out x)
      have HIS := Lib.hid (fun hs hx => insM_srt (out := out) (x := x) hs hx)
      generalize atM out x = at_ at *
      have HROW := Lib.hid hrow
      clear hx hxn hrow HX
      rw [hol]
      obtain ⟨wo, rfl⟩ : ∃ wo, wo = wr := ⟨_, rfl⟩
      go_wp2_with fail
      go_loopw [5] (fun jv wx => ∃ j : Nat, j ≤ at_ ∧ jv = .int .i64 j ∧ Hid (Chg [] wo wx)) (fun jv _ => k + 1 - (intOf jv).toNat)
      case atStart => exact ⟨0, by omega, rfl, Lib.hid (Chg.refl _ _)⟩
      case round =>
        obtain ⟨j, hj, rfl, HCx⟩ := hrel
        by_cases hjk : j < k
        · have hjn : (j : Int) < (k : Int) := by omega
          obtain ⟨y, hy⟩ : ∃ y, out[j]? = some y := ⟨_, List.getElem?_eq_getElem (by omega)⟩
          obtain ⟨b3, o3, c3', hv3, _, d0, _⟩ := HSO.out wr HCx.out j y hy
          obtain ⟨b, o, c', hv, _, c0, c1⟩ := HSX.out wr (HC.out.trans HCx.out)
          rw [hol] at hv3
          simp only [Value.slice.injEq, true_and] at hv hv3
          obtain ⟨rfl, rfl⟩ := hv
          obtain ⟨rfl, rfl⟩ := hv3
          have HY := Lib.hid hy
          clear hy
          by_cases hja : j < at_
          · have hb := HAL.out j y hja HY.out
            generalize y.node = yn at *
            generalize hxx : x.node = xn at *
            clear hxx HAL HAS HIN HIP HIS HSX HSO HTK HXN HP HSR HY HS
            go_upto_region 6 with fail
            go_quiet (fail)
            go_wp2_with fail
            go_roundw
            case rel => exact ⟨j + 1, by omega, by go_num, Lib.hid (HCx.out.drewN _)⟩
            case measure => simp [intOf] <;> omega
          · obtain rfl : at_ = j := by omega
            have hb := HAS.out y HY.out
            have hal' : at_ ≤ k := by omega
            clear HY
            have hdec : decide (y.node < x.node) = false := by simp; omega
            go_upto_region 6 with fail
            go_quiet (fail)
            try simp only [hdec]
            have HCY := Lib.hid (HCx.out.drewN nq)
            generalize wr.drewN nq = wz at *
            clear HCx hb hdec d0 c0 c1
            have HCW := Lib.hid (HC.out.trans HCY.out)
            have hrow1 := own_chg HROW.out HCY.out (by simp)
            have hsl := Sl.of_own hrow1
            rw [hol] at hsl
            obtain ⟨q1, q2⟩ := cut_to elM hsl hal'
            obtain ⟨Y, r1, r2⟩ := cut_from elM hsl hal'
            obtain ⟨dd, hdd⟩ : ∃ dd, dd = k - at_ := ⟨_, rfl⟩
            obtain ⟨ec, hec⟩ : ∃ ec, ec = c3 - at_ := ⟨_, rfl⟩
            rw [← hdd, ← hec] at r1 r2
            have HDD := Lib.hid hdd
            have hdk : dd ≤ k := by omega
            clear hdd hec
            rw [flat_take encM_len] at q2
            rw [flat_drop encM_len] at r2
            obtain ⟨b, o, c', hv, _, c0, c1⟩ := HSX.out wz HCW.out
            simp only [Value.slice.injEq, true_and] at hv
            try simp only [Option.some.injEq, Addr.mk.injEq, and_true] at hv
            first | obtain ⟨rfl, rfl⟩ := hv | obtain ⟨⟨rfl, rfl⟩, rfl⟩ := hv
            have hA1 := (Chg.refl [] wz).alloc (.cells #[] 78)
            have hown0 := own_lit (base := w.heap.size) wz 78 2 0 #[] HCW.out.size (by simp [maxLen]) rfl
            have hq2 : Sl (wz.alloc (.cells #[] 78)) w.heap.size 2 (.slice (some ⟨b3, o3, none⟩) at_ c3) at_ ((out.take at_).flatMap encM) := q2.chg0 hA1
            have hz1 : w.heap.size ≤ (wz.alloc (.cells #[] 78)).heap.size := by have := HCW.out.size; simp; omega
            have HO1 := Lib.hid (flatM_one (out.take at_))
            have HO2 := Lib.hid (flatM_one (out.drop at_))
            have HE1 := Lib.hid (And.intro hA1 (And.intro r2 (And.intro HCY.out (And.intro c0 c1))))
            have HN0 : Hid (∀ y ∈ (Value.slice (some ⟨wz.heap.size, 0, none⟩) 0 0).ownBlock.toList, wz.heap.size ≤ y) := Lib.hid (by simp [Value.ownBlock])
            obtain ⟨nd, wt⟩ := x
            simp only at c0 c1
            clear hsl q2 hA1 r2 hrow1 HAL HAS HSO HS
            go_upto_region 9 with (first
              | (at_builtin; refine wpList_app elM rfl (.tmp 32) (.tmp 35) rfl w.heap.size rfl hown0 rfl hq2 HO1.out (by unfold maxLen; omega) (by omega) hz1 ?_; intro v1 w2 hown1 hc1 hb1)
              | fail)
            have hC1 : Chg [] wz w2 := HE1.out.1.trans' hc1 (fun y hy => .inr (HN0.out y hy))
            have d0 := hC1.cell HE1.out.2.2.2.1 (by simp)
            have d1 := hC1.cell HE1.out.2.2.2.2 (by simp)
            have hN1 : ∀ y ∈ v1.ownBlock.toList, wz.heap.size ≤ y := fun y hy => by
              rcases hb1 with e | e
              · rw [e] at hy; exact HN0.out y hy
              · rw [e] at hy; simp at hy; omega
            have hA2 := hC1.alloc (.cells #[.int .i64 nd, .int .i64 wt] 78)
            have hown1' := own_chg hown1 ((Chg.refl [] w2).alloc (.cells #[.int .i64 nd, .int .i64 wt] 78)) (by simp)
            have hcat : Sl (w2.alloc (.cells #[.int .i64 nd, .int .i64 wt] 78)) 0 2 (.slice (some ⟨w2.heap.size, 0, none⟩) 1 1) 1 (encM ⟨nd, wt⟩) := Sl.of_own (own_lit (base := 0) w2 78 2 1 #[.int .i64 nd, .int .i64 wt] (Nat.zero_le _) (by simp [maxLen]) rfl)
            have hz2 : w.heap.size ≤ (w2.alloc (.cells #[.int .i64 nd, .int .i64 wt] 78)).heap.size := by
              have := HCW.out.size
              have := hC1.size
              simp; omega
            have HC1 := Lib.hid (And.intro hA2 hN1)
            clear c0 c1 hown0 hown1 hc1 hb1 hC1 hA2 hN1 hq2 hz1
            go_upto_region 10 with (first
              | (at_builtin; refine wpList_app elM rfl (.tmp 37) (.tmp 42) rfl w.heap.size rfl hown1' rfl hcat (encM_one _) (by unfold maxLen; omega) (by omega) hz2 ?_; intro v2 w3 hown2 hc2 hb2)
              | fail)
            have hC2 : Chg [] wz w3 := HC1.out.1.trans' hc2 (fun y hy => .inr (HC1.out.2 y hy))
            have hN2 : ∀ y ∈ v2.ownBlock.toList, wz.heap.size ≤ y := fun y hy => by
              rcases hb2 with e | e
              · rw [e] at hy; exact HC1.out.2 y hy
              · rw [e] at hy
                simp at hy
                have := HC1.out.1.size
                simp at this
                omega
            have hr3 := HE1.out.2.1.chg0 hC2
            have hz3 : w.heap.size ≤ w3.heap.size := by
              have := HCW.out.size
              have := hC2.size
              omega
            have HC2 := Lib.hid (And.intro hC2 hN2)
            clear hown1' hcat hz2 hc2 hb2 hC2 hN2 d0 d1
            go_wp2_with (first
              | (at_builtin; refine wpList_app elM rfl (.tmp 44) (.tmp 47) rfl w.heap.size rfl hown2 rfl hr3 HO2.out (by unfold maxLen; omega) (by omega) hz3 ?_; intro v3 w4 hown3 hc3 hb3)
              | fail)
            have HC3 := Lib.hid (HCW.out.trans (HC2.out.1.trans' hc3 (fun y hy => .inr (HC2.out.2 y hy))))
            have hlen3 : (insM out ⟨nd, wt⟩).length = k + 1 := by rw [HIP.out.length_eq, List.length_append]; simp [hol]
            have HR3 : Hid (w4.ownsRow w.heap.size 78 2 v3 (insM out ⟨nd, wt⟩).length ((insM out ⟨nd, wt⟩).flatMap encM)) := Lib.hid (by
              rw [hlen3, HIN.out, List.flatMap_append, List.flatMap_append]
              have e1 : (0 : Nat) + at_ + 1 + dd = k + 1 := by have := HDD.out; omega
              rw [e1] at hown3
              simpa using hown3)
            have HP3 : Hid ((insM out ⟨nd, wt⟩).Perm (l.take (k + 1))) := Lib.hid (by
              rw [HTK.out]
              exact HIP.out.trans (HP.out.append_right _))
            have HS3 : Hid (SrtM (insM out ⟨nd, wt⟩)) := Lib.hid (HIS.out HSR.out (fun hm => HXN.out (by
              unfold nodesM at hm ⊢
              exact (HP.out.map _).mem_iff.1 hm)))
            clear hown3 hc3 hb3 HC2 HC1 HE1 HIP HIS HIN HTK HXN HSX HP HSR HROW HCW HC
            go_roundw
            case rel => exact ⟨k + 1, insM out ⟨nd, wt⟩, by omega, by go_num, HR3.out, hlen3, HP3, HS3, HC3⟩
            case measure => simp [intOf] <;> omega
        · obtain rfl : k = j := by omega
          have hjn : ¬ (k : Int) < (k : Int) := by omega
          obtain rfl : k = at_ := by omega
          have hal' : k ≤ k := Nat.le_refl _
          go_upto_region 6 with fail
          go_quiet (fail)
          have HCY := Lib.hid (HCx.out.drewN nq)
          generalize wr.drewN nq = wz at *
          clear HCx
          have HCW := Lib.hid (HC.out.trans HCY.out)
          have hrow1 := own_chg HROW.out HCY.out (by simp)
          have hsl := Sl.of_own hrow1
          rw [hol] at hsl
          obtain ⟨q1, q2⟩ := cut_to elM hsl hal'
          obtain ⟨Y, r1, r2⟩ := cut_from elM hsl hal'
          obtain ⟨dd, hdd⟩ : ∃ dd, dd = k - k := ⟨_, rfl⟩
          obtain ⟨ec, hec⟩ : ∃ ec, ec = c3 - k := ⟨_, rfl⟩
          rw [← hdd, ← hec] at r1 r2
          have HDD := Lib.hid hdd
          have hdk : dd ≤ k := by omega
          clear hdd hec
          rw [flat_take encM_len] at q2
          rw [flat_drop encM_len] at r2
          obtain ⟨b, o, c', hv, _, c0, c1⟩ := HSX.out wz HCW.out
          simp only [Value.slice.injEq, true_and] at hv
          try simp only [Option.some.injEq, Addr.mk.injEq, and_true] at hv
          first | obtain ⟨rfl, rfl⟩ := hv | obtain ⟨⟨rfl, rfl⟩, rfl⟩ := hv
          have hA1 := (Chg.refl [] wz).alloc (.cells #[] 78)
          have hown0 := own_lit (base := w.heap.size) wz 78 2 0 #[] HCW.out.size (by simp [maxLen]) rfl
          have hq2 : Sl (wz.alloc (.cells #[] 78)) w.heap.size 2 (.slice A3 k c3) k ((out.take k).flatMap encM) := q2.chg0 hA1
          have hz1 : w.heap.size ≤ (wz.alloc (.cells #[] 78)).heap.size := by have := HCW.out.size; simp; omega
          have HO1 := Lib.hid (flatM_one (out.take k))
          have HO2 := Lib.hid (flatM_one (out.drop k))
          have HE1 := Lib.hid (And.intro hA1 (And.intro r2 (And.intro HCY.out (And.intro c0 c1))))
          have HN0 : Hid (∀ y ∈ (Value.slice (some ⟨wz.heap.size, 0, none⟩) 0 0).ownBlock.toList, wz.heap.size ≤ y) := Lib.hid (by simp [Value.ownBlock])
          obtain ⟨nd, wt⟩ := x
          simp only at c0 c1
          clear hsl q2 hA1 r2 hrow1 HAL HAS HSO HS
          go_upto_region 9 with (first
            | (at_builtin; refine wpList_app elM rfl (.tmp 32) (.tmp 35) rfl w.heap.size rfl hown0 rfl hq2 HO1.out (by unfold maxLen; omega) (by omega) hz1 ?_; intro v1 w2 hown1 hc1 hb1)
            | fail)
          have hC1 : Chg [] wz w2 := HE1.out.1.trans' hc1 (fun y hy => .inr (HN0.out y hy))
          have d0 := hC1.cell HE1.out.2.2.2.1 (by simp)
          have d1 := hC1.cell HE1.out.2.2.2.2 (by simp)
          have hN1 : ∀ y ∈ v1.ownBlock.toList, wz.heap.size ≤ y := fun y hy => by
            rcases hb1 with e | e
            · rw [e] at hy; exact HN0.out y hy
            · rw [e] at hy; simp at hy; omega
          have hA2 := hC1.alloc (.cells #[.int .i64 nd, .int .i64 wt] 78)
          have hown1' := own_chg hown1 ((Chg.refl [] w2).alloc (.cells #[.int .i64 nd, .int .i64 wt] 78)) (by simp)
          have hcat : Sl (w2.alloc (.cells #[.int .i64 nd, .int .i64 wt] 78)) 0 2 (.slice (some ⟨w2.heap.size, 0, none⟩) 1 1) 1 (encM ⟨nd, wt⟩) := Sl.of_own (own_lit (base := 0) w2 78 2 1 #[.int .i64 nd, .int .i64 wt] (Nat.zero_le _) (by simp [maxLen]) rfl)
          have hz2 : w.heap.size ≤ (w2.alloc (.cells #[.int .i64 nd, .int .i64 wt] 78)).heap.size := by
            have := HCW.out.size
            have := hC1.size
            simp; omega
          have HC1 := Lib.hid (And.intro hA2 hN1)
          clear c0 c1 hown0 hown1 hc1 hb1 hC1 hA2 hN1 hq2 hz1
          go_upto_region 10 with (first
            | (at_builtin; refine wpList_app elM rfl (.tmp 37) (.tmp 42) rfl w.heap.size rfl hown1' rfl hcat (encM_one _) (by unfold maxLen; omega) (by omega) hz2 ?_; intro v2 w3 hown2 hc2 hb2)
            | fail)
          have hC2 : Chg [] wz w3 := HC1.out.1.trans' hc2 (fun y hy => .inr (HC1.out.2 y hy))
          have hN2 : ∀ y ∈ v2.ownBlock.toList, wz.heap.size ≤ y := fun y hy => by
            rcases hb2 with e | e
            · rw [e] at hy; exact HC1.out.2 y hy
            · rw [e] at hy
              simp at hy
              have := HC1.out.1.size
              simp at this
              omega
          have hr3 := HE1.out.2.1.chg0 hC2
          have hz3 : w.heap.size ≤ w3.heap.size := by
            have := HCW.out.size
            have := hC2.size
            omega
          have HC2 := Lib.hid (And.intro hC2 hN2)
          clear hown1' hcat hz2 hc2 hb2 hC2 hN2 d0 d1
          go_wp2_with (first
            | (at_builtin; refine wpList_app elM rfl (.tmp 44) (.tmp 47) rfl w.heap.size rfl hown2 rfl hr3 HO2.out (by unfold maxLen; omega) (by omega) hz3 ?_; intro v3 w4 hown3 hc3 hb3)
            | fail)
          have HC3 := Lib.hid (HCW.out.trans (HC2.out.1.trans' hc3 (fun y hy => .inr (HC2.out.2 y hy))))
          have hlen3 : (insM out ⟨nd, wt⟩).length = k + 1 := by rw [HIP.out.length_eq, List.length_append]; simp [hol]
          have HR3 : Hid (w4.ownsRow w.heap.size 78 2 v3 (insM out ⟨nd, wt⟩).length ((insM out ⟨nd, wt⟩).flatMap encM)) := Lib.hid (by
            rw [hlen3, HIN.out, List.flatMap_append, List.flatMap_append]
            have e1 : (0 : Nat) + k + 1 + dd = k + 1 := by have := HDD.out; omega
            rw [e1] at hown3
            simpa using hown3)
          have HP3 : Hid ((insM out ⟨nd, wt⟩).Perm (l.take (k + 1))) := Lib.hid (by
            rw [HTK.out]
            exact HIP.out.trans (HP.out.append_right _))
          have HS3 : Hid (SrtM (insM out ⟨nd, wt⟩)) := Lib.hid (HIS.out HSR.out (fun hm => HXN.out (by
            unfold nodesM at hm ⊢
            exact (HP.out.map _).mem_iff.1 hm)))
          clear hown3 hc3 hb3 HC2 HC1 HE1 HIP HIS HIN HTK HXN HSX HP HSR HROW HCW HC
          go_roundw
          case rel => exact ⟨k + 1, insM out ⟨nd, wt⟩, by omega, by go_num, HR3.out, hlen3, HP3, HS3, HC3⟩
          case measure => simp [intOf] <;> omega
    · obtain rfl : k = n := by omega
      have hcn : ¬ (k : Int) < (k : Int) := by omega
      rw [hol] at hrow
      go_wp2_with fail
      go_ret
      refine ⟨_, rfl, out, by rw [← HLT.out]; exact HP.out, HSR.out, ?_, HC.out⟩
      unfold SlM
      rw [hol]
      exact Sl.of_own hrow
end Go.Proofs.YtecblclpchndiaaGreat
