/-
  CONTRACTS: are two rows of steps the same; the example. Conditions: Gl, lengths.
-/
import Derived.Test.YtljgemknccodeaaDoorScQ
set_option linter.unusedVariables false
set_option linter.unusedSimpArgs false
namespace Go.Proofs.YtljgemknccodeaaDoor
open Go.RowKit

theorem SlT.one {w : World} {B : Nat} {A : Option Addr} {n c : Nat} {l : List SV} (h : SlT w B (.slice A n c) l) {i : Nat} {x : SV} (hx : l[i]? = some x) :
    ∃ b o, A = some ⟨b, o, none⟩ ∧ w.rangeAt b (o + i * 5) (arrSt x.1 x.2).toList := by
  obtain ⟨b, o, c', hv, _, _, hc⟩ := Sl.rec encT_len (by omega) h hx
  simp only [Value.slice.injEq] at hv
  obtain ⟨rfl, _, _⟩ := hv
  refine ⟨b, o, rfl, fun j u hu => ?_⟩
  have hj : j < 5 := by have := (List.getElem?_eq_some_iff.1 hu).1; exact this
  rw [Nat.add_assoc, hc j hj]
  exact hu
theorem range_chg0 {w w' : World} {b o : Nat} {l : List Value} (h : w.rangeAt b o l) (hc : Chg [] w w') : w'.rangeAt b o l := fun j u hu => hc.cell (h j u hu) (by simp)
theorem infS {s : St} {v : Value} : (Tryd.prog.info? 32).map (·.size) = some (arrSt s v).size := by
  show _ = some 5
  kernel_rfl
theorem infS46 {s : St} {v : Value} : (Tryd.prog.info? 35).map (·.size) = some (arrSt s v).size := by
  show _ = some 5
  kernel_rfl
set_option maxRecDepth 100000 in
set_option maxHeartbeats 4000000 in
theorem same_true {w : World} {BA BB : Nat} {va vb : Value} {ea eb : List SV} (hA : SlT w BA va ea) (hB : SlT w BB vb eb) (hSA : StsR w [] ea) (hSB : StsR w [] eb) (he : ea.map (·.1) = eb.map (·.1)) (hl : ea.length ≤ 1000000) :
    Calls Tryd.prog 11 #[va, vb] w fun e w' => e = .returned (.bool true) ∧ Chg [] w w' := by
  obtain ⟨AA, ca, rfl⟩ := Sl.form hA
  obtain ⟨AB, cb, rfl⟩ := Sl.form hB
  have hlen : eb.length = ea.length := by simpa using (congrArg List.length he).symm
  have HX : Hid (∀ i, i < ea.length → ∃ s v v', ea[i]? = some (s, v) ∧ eb[i]? = some (s, v')) := Lib.hid fun i hi => by
    have h1 := List.getElem?_eq_getElem hi
    have h2 := List.getElem?_eq_getElem (show i < eb.length by omega)
    have h3 : (ea.map (·.1))[i]? = (eb.map (·.1))[i]? := by rw [he]
    rw [List.getElem?_map, List.getElem?_map, h1, h2] at h3
    simp at h3
    exact ⟨ea[i].1, ea[i].2, eb[i].2, h1, by rw [h2, h3]⟩
  have HM : Hid (∀ W, Chg [] w W → SlT W 0 (.slice AA ea.length ca) ea ∧ SlT W 0 (.slice AB ea.length cb) eb ∧ StsR W [] ea ∧ StsR W [] eb) := Lib.hid fun W hW =>
    ⟨Sl.less (Sl.chg0 hA hW) (Nat.zero_le _), by have := Sl.less (Sl.chg0 hB hW) (Nat.zero_le BB); rw [hlen] at this; unfold SlT; rw [hlen]; exact this, hSA.chg0 hW, hSB.chg0 hW⟩
  rw [hlen]
  clear hA hB hSA hSB he hlen
  generalize hn : ea.length = n at *
  clear hn
  go_enter Tryd.func11, Tryd.ntmps11
  go_wp2_with fail
  go_loopw [5] (fun iv wr => ∃ k : Nat, k ≤ n ∧ iv = .int .i64 k ∧ Hid (Chg [] w wr)) (fun iv _ => n - (intOf iv).toNat)
  case atStart => exact ⟨0, by omega, rfl, Lib.hid (Chg.refl _ _)⟩
  case round =>
    obtain ⟨k, hk, rfl, HC⟩ := hrel
    by_cases hlt : k < n
    · have hcn : (k : Int) < (n : Int) := by omega
      obtain ⟨s, v, v', h1, h2⟩ := HX.out k hlt
      obtain ⟨m1, m2, m3, m4⟩ := HM.out wr HC.out
      obtain ⟨b, o, rfl, hr1⟩ := SlT.one m1 h1
      obtain ⟨b', o', rfl, hr2⟩ := SlT.one m2 h2
      have R1 := Lib.hid (fun W (hc : Chg [] wr W) => range_chg0 hr1 hc)
      have R2 := Lib.hid (fun W (hc : Chg [] wr W) => range_chg0 hr2 hc)
      have y1 := (m3 _ (List.mem_of_getElem? h1)).1
      have y2 := (m4 _ (List.mem_of_getElem? h2)).1
      have F := Lib.hid (fun W (hc : Chg [] wr W) => (Same_true (Sl.chg0 y1 hc) (Sl.chg0 y2 hc)).mono fun (r : Ending) w'' ⟨h1, h2⟩ => (⟨h1, hc.trans h2⟩ : r = Ending.returned (.bool true) ∧ Chg [] wr w''))
      clear h1 h2 m1 m2 m3 m4 hr1 hr2 y1 y2 HX HM
      go_upto_region 6 with fail
      refine wp_region_chg (by kernel_rfl) (by kernel_rfl) ?_
      (with_reducible refine wpQuiet_pure (v := ?_) ?_ (fun w => ?_) ?_); rotate_left; (focus rfl); (focus (go_simp <;> with_reducible rfl)); (try simp only [List.getElem_toArray, List.getElem_cons_succ, List.getElem_cons_zero, Act.put, List.setIfInBounds_toArray, List.set_cons_zero, List.set_cons_succ])
      (with_reducible refine wpQuiet_pure (v := ?_) ?_ (fun w => ?_) ?_); rotate_left; (focus rfl); (focus (go_simp <;> with_reducible rfl)); (try simp only [List.getElem_toArray, List.getElem_cons_succ, List.getElem_cons_zero, Act.put, List.setIfInBounds_toArray, List.set_cons_zero, List.set_cons_succ])
      (with_reducible refine wpQuiet_pure (v := ?_) ?_ (fun w => ?_) ?_); rotate_left; (focus rfl); (focus (go_simp <;> with_reducible rfl)); (try simp only [List.getElem_toArray, List.getElem_cons_succ, List.getElem_cons_zero, Act.put, List.setIfInBounds_toArray, List.set_cons_zero, List.set_cons_succ])
      (with_reducible refine wpQuiet_rowC 32 (.tmp 19) ?_ ?_ b (o + k * 5) ?_ (arrSt s v) _ R1.out Tryd.underlying32 ?_ infS ?_); (focus rfl); (focus rfl); (focus rfl); (focus rfl); (try simp only [List.getElem_toArray, List.getElem_cons_succ, List.getElem_cons_zero, Act.put, List.setIfInBounds_toArray, List.set_cons_zero, List.set_cons_succ])
      (with_reducible refine wpQuiet_pure (v := ?_) ?_ (fun w => ?_) ?_); rotate_left; (focus rfl); (focus (go_simp <;> with_reducible rfl)); (try simp only [List.getElem_toArray, List.getElem_cons_succ, List.getElem_cons_zero, Act.put, List.setIfInBounds_toArray, List.set_cons_zero, List.set_cons_succ])
      (with_reducible refine wpQuiet_pure (v := ?_) ?_ (fun w => ?_) ?_); rotate_left; (focus rfl); (focus (go_simp <;> with_reducible rfl)); (try simp only [List.getElem_toArray, List.getElem_cons_succ, List.getElem_cons_zero, Act.put, List.setIfInBounds_toArray, List.set_cons_zero, List.set_cons_succ])
      (with_reducible refine wpQuiet_pure (v := ?_) ?_ (fun w => ?_) ?_); rotate_left; (focus rfl); (focus (go_simp <;> with_reducible rfl)); (try simp only [List.getElem_toArray, List.getElem_cons_succ, List.getElem_cons_zero, Act.put, List.setIfInBounds_toArray, List.set_cons_zero, List.set_cons_succ])
      (with_reducible refine wpQuiet_rowC 35 (.tmp 23) ?_ ?_ b' (o' + k * 5) ?_ (arrSt s v') _ R2.out Tryd.underlying35 ?_ infS46 ?_); (focus rfl); (focus rfl); (focus rfl); (focus rfl); (try simp only [List.getElem_toArray, List.getElem_cons_succ, List.getElem_cons_zero, Act.put, List.setIfInBounds_toArray, List.set_cons_zero, List.set_cons_succ])
      (with_reducible refine wpQuiet_do ?_ (fun K hK => ?_)); (focus rfl); go_simp; (apply Exists.intro); (refine ⟨fun W hW => F.out W hW, hK _ ?_⟩); (clear hK K); (try simp only [List.getElem_toArray, List.getElem_cons_succ, List.getElem_cons_zero, Act.put, List.setIfInBounds_toArray, List.set_cons_zero, List.set_cons_succ])
      (with_reducible refine wpQuiet_pure (v := ?_) ?_ (fun w => ?_) ?_); rotate_left; (focus rfl); (focus (go_simp <;> with_reducible rfl)); (try simp only [List.getElem_toArray, List.getElem_cons_succ, List.getElem_cons_zero, Act.put, List.setIfInBounds_toArray, List.set_cons_zero, List.set_cons_succ])
      refine wpQuiet_nil ?_
      intro w8 hc8
      have HC8 := Lib.hid (HC.out.trans hc8)
      clear hc8 R1 R2 F
      go_wp2_with fail
      go_roundw
      case rel => exact ⟨k + 1, by omega, by go_num, HC8⟩
      case measure => simp [intOf] <;> omega
    · obtain rfl : k = n := by omega
      go_wp2_with fail
      go_ret
      exact ⟨rfl, HC.out⟩
end Go.Proofs.YtljgemknccodeaaDoor
