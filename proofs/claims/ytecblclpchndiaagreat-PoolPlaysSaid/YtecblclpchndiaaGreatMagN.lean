/-
  WALKS: members of a table: whether they can be, by the document's answer; their weights together; how many slots a node has. Condition: at most 1000 members, 1000 slots.
-/
import Derived.Test.YtecblclpchndiaaGreatMagM
import Derived.Test.YtecblclpchndiaaGreatPickFirst
set_option linter.unusedVariables false
set_option linter.unusedSimpArgs false
namespace Go.Proofs.YtecblclpchndiaaGreat
open Go.RowKit Go.Maps

theorem mem_nodes {l : List Mb} {k : Nat} {n : Int} : n ∈ nodesM (l.take k) ↔ ∃ j, j < k ∧ ∃ x, l[j]? = some x ∧ x.node = n := by
  unfold nodesM
  rw [List.mem_map]
  constructor
  · rintro ⟨x, hx, rfl⟩
    obtain ⟨j, hj⟩ := List.getElem?_of_mem hx
    rw [List.getElem?_take] at hj
    split at hj
    · next h => exact ⟨j, h, x, hj, rfl⟩
    · cases hj
  · rintro ⟨j, hj, x, hx, rfl⟩
    refine ⟨x, ?_, rfl⟩
    refine List.mem_of_getElem? (i := j) ?_
    rw [List.getElem?_take, if_pos hj]; exact hx

set_option maxRecDepth 100000 in
set_option maxHeartbeats 2000000 in
theorem right17_any {w : World} {B : Nat} {v : Value} {l : List Mb} (h : SlM w B v l) (hl : l.length ≤ 1000) :
    Calls Tryz.prog 29 #[v] w fun e w' => e = .returned (.int .i64 (rightM l)) ∧ Chg [] w w' := by
  obtain ⟨A, c, rfl⟩ := Sl.form h
  have HS := Lib.hid (fun W (hW : Chg [] w W) i x hx => (h.chg0 hW).at_ (i := i) (x := x) hx)
  have HX : Hid (∀ i, i < l.length → ∃ x, l[i]? = some x) := Lib.hid fun i hi => ⟨_, List.getElem?_eq_getElem hi⟩
  have HT := Lib.hid (fun i x hx => scanAt_step (l := l) (i := i) (x := x) hx)
  have HA := Lib.hid (scanAt_all l)
  have HR : Hid (rightM l = if scanAt l 0 = 0 then (if 16 < l.length then 8 else 0) else scanAt l 0) := Lib.hid rfl
  clear h
  generalize hn : l.length = n at *
  go_enter Tryz.func29, Tryz.ntmps29
  go_wp2_with fail
  go_loopw [3] (fun iv wr => ∃ (k : Nat), k ≤ n ∧ iv = .int .i64 k ∧ Hid (Chg [] w wr) ∧ Hid (scanAt l 0 = scanAt l k)) (fun iv _ => n - (intOf iv).toNat)
  case atStart => exact ⟨0, by omega, rfl, Lib.hid (Chg.refl _ _), Lib.hid rfl⟩
  case round =>
    obtain ⟨k, hk, rfl, HC, HE⟩ := hrel
    by_cases hlt : k < n
    · have hcn : (k : Int) < (n : Int) := by omega
      obtain ⟨x, hx⟩ := HX.out k hlt
      obtain ⟨b, o, c', hv, hcap, c0, c1⟩ := HS.out wr HC.out k x hx
      simp only [Value.slice.injEq, true_and] at hv
      obtain ⟨rfl, rfl⟩ := hv
      have hst := HT.out k x hx
      have HTK : Hid (nodesM (l.take (k + 1)) = nodesM (l.take k) ++ [x.node]) := Lib.hid (by
        rw [List.take_add_one, hx]; simp [nodesM])
      obtain ⟨nd, wt⟩ := x
      have HXX := Lib.hid hx
      simp only at c0 c1 hst HTK
      have HST := Lib.hid hst
      clear hst hx
      by_cases h1 : nd < 1
      · have HQ : Hid (rightM l = 2) := Lib.hid (by
          rw [HR.out, HE.out, HST.out, if_pos (show badM ⟨nd, wt⟩ from .inl h1)]; rfl)
        clear HE HST
        go_wp2_with fail
        go_ret
        rw [HQ.out]
        exact ⟨rfl, HC.out⟩
      by_cases h2 : 65535 < nd
      · have HQ : Hid (rightM l = 2) := Lib.hid (by
          rw [HR.out, HE.out, HST.out, if_pos (show badM ⟨nd, wt⟩ from .inr (.inl h2))]; rfl)
        clear HE HST
        go_wp2_with fail
        go_ret
        rw [HQ.out]
        exact ⟨rfl, HC.out⟩
      by_cases h3 : wt < 0
      · have HQ : Hid (rightM l = 2) := Lib.hid (by
          rw [HR.out, HE.out, HST.out, if_pos (show badM ⟨nd, wt⟩ from .inr (.inr (.inl h3)))]; rfl)
        clear HE HST
        go_wp2_with fail
        go_ret
        rw [HQ.out]
        exact ⟨rfl, HC.out⟩
      by_cases h4 : 4 < wt
      · have HQ : Hid (rightM l = 2) := Lib.hid (by
          rw [HR.out, HE.out, HST.out, if_pos (show badM ⟨nd, wt⟩ from .inr (.inr (.inr h4)))]; rfl)
        clear HE HST
        go_wp2_with fail
        go_ret
        rw [HQ.out]
        exact ⟨rfl, HC.out⟩
      have hnb : ¬ badM ⟨nd, wt⟩ := by unfold badM; simp only; omega
      obtain ⟨wo, rfl⟩ : ∃ wo, wo = wr := ⟨_, rfl⟩
      go_wp2_with fail
      go_loopw [4] (fun iv wx => ∃ (j : Nat), j ≤ k ∧ iv = .int .i64 j ∧ Hid (nd ∉ nodesM (l.take j)) ∧ Hid (Chg [] wo wx)) (fun iv _ => k - (intOf iv).toNat)
      case atStart => exact ⟨0, by omega, rfl, Lib.hid (by simp [nodesM]), Lib.hid (Chg.refl _ _)⟩
      case round =>
        obtain ⟨j, hj, rfl, HN, HCx⟩ := hrel
        by_cases hjk : j < k
        · have hjn : (j : Int) < (k : Int) := by omega
          obtain ⟨y, hy⟩ := HX.out j (by omega)
          have hcw : Chg [] w wr := HC.out.trans HCx.out
          obtain ⟨b2, o2, c2, hv2, _, d0, _⟩ := HS.out wr hcw j y hy
          simp only [Value.slice.injEq, true_and] at hv2
          obtain ⟨hv2, rfl⟩ := hv2
          simp only [Option.some.injEq, Addr.mk.injEq, and_true] at hv2
          obtain ⟨rfl, rfl⟩ := hv2
          have c0' := HCx.out.cell c0 (by simp)
          have HJ : Hid (nodesM (l.take (j + 1)) = nodesM (l.take j) ++ [y.node]) := Lib.hid (by
            rw [List.take_add_one, hy]; simp [nodesM])
          by_cases heq : y.node = nd
          · have HQ : Hid (rightM l = 9) := Lib.hid (by
              rw [HR.out, HE.out, HST.out, if_neg hnb, if_pos (mem_nodes.2 ⟨j, hjk, y, hy, heq⟩)]; rfl)
            have hb : (y.node == nd) = true := by simp [heq]
            clear HE HST HX HS HT HA HR HTK HXX hy heq hnb c0 c1
            generalize y.node = yn at *
            go_upto_region 9 with fail
            go_quiet (fail)
            go_wp2_with fail
            go_ret
            rw [HQ.out]
            exact ⟨rfl, hcw.drewN _⟩
          · have hb : (y.node == nd) = false := by simp [heq]
            have HN2 : Hid (nd ∉ nodesM (l.take (j + 1))) := Lib.hid (by
              rw [HJ.out]
              simp only [List.mem_append, List.mem_singleton, not_or]
              exact ⟨HN.out, fun e => heq e.symm⟩)
            clear HE HST HX HS HT HA HR HTK HXX hy heq hnb c0 c1 HJ
            generalize y.node = yn at *
            go_upto_region 9 with fail
            go_quiet (fail)
            go_wp2_with fail
            go_roundw
            case rel => exact ⟨j + 1, by omega, by go_num, HN2, Lib.hid (HCx.out.drewN _)⟩
            case measure => simp [intOf] <;> omega
        · obtain rfl : j = k := by omega
          have hjn : ¬ (j : Int) < (j : Int) := by omega
          have HE2 : Hid (scanAt l 0 = scanAt l (j + 1)) := Lib.hid (by rw [HE.out, HST.out, if_neg hnb, if_neg HN.out])
          have HC2 := Lib.hid (HC.out.trans HCx.out)
          clear HE HST HX HS HT HA HR HTK HXX hnb c0 c1 HN HCx
          go_wp2_with fail
          go_roundw
          case rel => exact ⟨j + 1, by omega, by go_num, HC2, HE2⟩
          case measure => simp [intOf] <;> omega
    · obtain rfl : k = n := by omega
      have hcn : ¬ (k : Int) < (k : Int) := by omega
      have h0 : scanAt l 0 = 0 := by rw [HE.out]; exact HA.out
      have HQ : Hid (rightM l = if 16 < k then 8 else 0) := Lib.hid (by rw [HR.out, if_pos h0])
      clear HE h0 HR HA HT HX HS
      by_cases h16 : 16 < k
      · have h16' : (16 : Int) < (k : Int) := by omega
        rw [if_pos h16] at HQ
        go_wp2_with fail
        go_ret
        rw [HQ.out]
        exact ⟨rfl, HC.out⟩
      · have h16' : ¬ (16 : Int) < (k : Int) := by omega
        rw [if_neg h16] at HQ
        go_wp2_with fail
        go_ret
        rw [HQ.out]
        exact ⟨rfl, HC.out⟩
end Go.Proofs.YtecblclpchndiaaGreat
