/-
  WALKS: the document's answer of chapter 34. Condition: the row is at most 100 services.
-/
import Derived.Test.YtojkbljpjpifoaaVKnows
import Derived.Test.YtojkbljpjpifoaaRowQ
import Derived.Test.YtojkbljpjpifoaaCut
set_option linter.unusedVariables false
set_option linter.unusedSimpArgs false
namespace Go.Proofs.Ytojkbljpjpifoaa
open Go.RowKit Go.Maps

theorem elS34 : El Try.prog 53 59 (.agg (arrS ⟨adZ, 0⟩)) 17 24 := ⟨Try.underlying53, by kernel_rfl, rfl, by omega⟩
theorem infS34 {S : Sv} : (Try.prog.info? 59).map (·.size) = some (arrS S).size := by
  show _ = some 17
  kernel_rfl
theorem SlS.one {w : World} {B : Nat} {A : Option Addr} {c : Nat} {l : List Sv} {n : Nat} (h : SlS w B (.slice A n c) l) (hn : l.length = n) {i : Nat} {x : Sv} (hx : l[i]? = some x) :
    ∃ b o, A = some ⟨b, o, none⟩ ∧ w.rangeAt b (o + i * 17) (arrS x).toList := by
  obtain ⟨b, o, c', hv, _, _, hg⟩ := Sl.rec encS_len (by omega) h hx
  simp only [Value.slice.injEq] at hv
  obtain ⟨rfl, _, _⟩ := hv
  refine ⟨b, o, rfl, fun j v hj => ?_⟩
  have hj17 : j < 17 := (List.getElem?_eq_some_iff.1 hj).1
  rw [Nat.add_assoc, hg j hj17]
  exact hj

def FindPost (w : World) (l : List Sv) (s : Sv) (e : Ending) (w' : World) : Prop := (∃ r : Int, e = .returned (.int .i64 r) ∧ ((r = -1 ∧ s ∉ l) ∨ ∃ i : Nat, r = i ∧ l[i]? = some s)) ∧ Chg [] w w'
set_option maxRecDepth 100000 in
set_option maxHeartbeats 2000000 in
theorem find_post {w : World} {B : Nat} {v : Value} {l : List Sv} (s : Sv) (h : SlS w B v l) (hl : l.length ≤ 100) (hok : ∀ x ∈ l, okS x) (hs : okS s) : Calls Try.prog 27 #[v, s.v] w (FindPost w l s) := by
  obtain ⟨A, c, rfl⟩ := Sl.form h
  have hA := (Chg.refl [] w).alloc (.cells (arrS s) 59)
  have hB : Blk (w.alloc (.cells (arrS s) 59)) w.heap.size 59 (arrS s) := Blk.new _ _ _
  have H := Lib.hid (fun w1 (hc : Chg [] (w.alloc (.cells (arrS s) 59)) w1) => And.intro (show SlS w1 B (.slice A l.length c) l from Sl.chg0 h (hA.trans hc)) (hB.chg hc (by simp)).rangeQ)
  have HX : Hid (∀ i, i < l.length → ∃ x, l[i]? = some x ∧ okS x) := Lib.hid fun i hi => ⟨_, List.getElem?_eq_getElem hi, hok _ (List.getElem_mem hi)⟩
  have HE := Lib.hid (fun (x : Sv) (hx : okS x) W => eq_ad9 W hx.1 hs.1)
  have HP : Hid (∀ e w', FindPost w l s e w' = ((∃ r : Int, e = .returned (.int .i64 r) ∧ ((r = -1 ∧ s ∉ l) ∨ ∃ i : Nat, r = i ∧ l[i]? = some s)) ∧ Chg [] w w')) := Lib.hid fun _ _ => rfl
  clear h hok hs
  generalize hn : l.length = n at *
  generalize hW : w.alloc (.cells (arrS s) 59) = W0 at *
  have HW := Lib.hid hW
  have HA := Lib.hid hA
  clear hA hB
  go_enter Try.func27, Try.ntmps27
  go_wp2_with fail
  go_loopw [5] (fun iv wr => ∃ k : Nat, k ≤ n ∧ iv = .int .i64 k ∧ Hid (∀ j, j < k → l[j]? ≠ some s) ∧ Chg [] W0 wr) (fun iv _ => n - (intOf iv).toNat)
  case atStart => exact ⟨0, by omega, rfl, Lib.hid (fun j hj => absurd hj (by omega)), by rw [← HW.out]; exact Chg.refl _ _⟩
  case round =>
    obtain ⟨k, hk, rfl, hnot, hcw⟩ := hrel
    by_cases hlt : k < n
    · obtain ⟨x, hx, hxo⟩ := HX.out k hlt
      obtain ⟨h1, h2⟩ := H.out wr hcw
      obtain ⟨b, o, rfl, hr⟩ := h1.one hn hx
      have he := fun q => HE.out x hxo (wr.drewN q)
      have HX2 := Lib.hid hx
      have hcq : Hid (∀ q, Chg [] W0 (wr.drewN q)) := Lib.hid fun q => hcw.drewN q
      clear h1 hx hxo H HX HE
      by_cases had : x.ad = s.ad
      · have hdd : decide (x.ad = s.ad) = true := by simp [had]
        simp only [hdd] at he
        clear hdd
        by_cases hpt : x.port = s.port
        · have hpb : (x.port == s.port) = true := by simp [hpt]
          have hxs : Hid (x = s) := Lib.hid (by cases x; cases s; simp at had hpt; rw [had, hpt])
          clear had hpt hcw
          go_wp2_with fail
          refine wp_region_quiet_lit (by kernel_rfl) (by kernel_rfl) ?_
          (repeat (first
            | (refine wpQuiet_row 59 (.tmp 14) rfl rfl b _ rfl (arrS x) _ hr Try.underlying59 rfl infS34 ?_)
            | (refine wpQuiet_row 59 (.tmp 3) rfl rfl _ 0 rfl (arrS s) _ h2 Try.underlying59 rfl infS34 ?_)
            | quiet_step (fail)))
          refine wpQuiet_nil ?_
          intro _ hw'
          obtain ⟨nq, hw''⟩ := hw'
          subst hw''
          go_wp2_with fail
          go_ret
          rw [HP.out]
          exact ⟨⟨k, rfl, .inr ⟨k, rfl, by rw [HX2.out, hxs.out]⟩⟩, HA.out.trans (hcq.out _)⟩
        · have hpb : (x.port == s.port) = false := by simp [hpt]
          have hxs : Hid (∀ j, j < k + 1 → l[j]? ≠ some s) := Lib.hid fun j hj => by
            by_cases e : j = k
            · subst e; rw [HX2.out]; intro e; injection e with e; exact hpt (by rw [e])
            · exact hnot.out j (by omega)
          clear had hpt hcw
          go_wp2_with fail
          refine wp_region_quiet_lit (by kernel_rfl) (by kernel_rfl) ?_
          (repeat (first
            | (refine wpQuiet_row 59 (.tmp 14) rfl rfl b _ rfl (arrS x) _ hr Try.underlying59 rfl infS34 ?_)
            | (refine wpQuiet_row 59 (.tmp 3) rfl rfl _ 0 rfl (arrS s) _ h2 Try.underlying59 rfl infS34 ?_)
            | quiet_step (fail)))
          refine wpQuiet_nil ?_
          intro _ hw'
          obtain ⟨nq, hw''⟩ := hw'
          subst hw''
          go_wp2_with fail
          go_roundw
          case rel => exact ⟨k + 1, by omega, by go_num, hxs, hcq.out _⟩
          case measure => simp [intOf]; omega
      · have hdd : decide (x.ad = s.ad) = false := by simp [had]
        simp only [hdd] at he
        clear hdd
        have hxs : Hid (∀ j, j < k + 1 → l[j]? ≠ some s) := Lib.hid fun j hj => by
          by_cases e : j = k
          · subst e; rw [HX2.out]; intro e; injection e with e; exact had (by rw [e])
          · exact hnot.out j (by omega)
        clear had hcw
        go_wp2_with fail
        refine wp_region_quiet_lit (by kernel_rfl) (by kernel_rfl) ?_
        (repeat (first
          | (refine wpQuiet_row 59 (.tmp 14) rfl rfl b _ rfl (arrS x) _ hr Try.underlying59 rfl infS34 ?_)
          | (refine wpQuiet_row 59 (.tmp 3) rfl rfl _ 0 rfl (arrS s) _ h2 Try.underlying59 rfl infS34 ?_)
          | quiet_step (fail)))
        refine wpQuiet_nil ?_
        intro _ hw'
        obtain ⟨nq, hw''⟩ := hw'
        subst hw''
        go_wp2_with fail
        go_roundw
        case rel => exact ⟨k + 1, by omega, by go_num, hxs, hcq.out _⟩
        case measure => simp [intOf]; omega
    · obtain rfl : k = n := by omega
      clear H HX HE
      go_wp2_with fail
      go_ret
      rw [HP.out]
      exact ⟨⟨-1, rfl, .inl ⟨rfl, fun hm => by
        obtain ⟨i, hi, he⟩ := List.mem_iff_getElem.1 hm
        exact hnot.out i (by omega) (by rw [List.getElem?_eq_getElem hi, he])⟩⟩, HA.out.trans hcw⟩
theorem find_no {w : World} {B : Nat} {v : Value} {l : List Sv} {s : Sv} (h : SlS w B v l) (hl : l.length ≤ 100) (hok : ∀ x ∈ l, okS x) (hs : okS s) (hm : s ∉ l) :
    Calls Try.prog 27 #[v, s.v] w fun e w' => e = .returned (.int .i64 (-1)) ∧ Chg [] w w' :=
  (find_post s h hl hok hs).mono fun e w' ⟨⟨r, he, hr⟩, hc⟩ => ⟨by
    rcases hr with ⟨rfl, _⟩ | ⟨i, rfl, hi⟩
    · exact he
    · exact absurd (List.mem_of_getElem? hi) hm, hc⟩
def FindAt (w : World) (l : List Sv) (s : Sv) (e : Ending) (w' : World) : Prop := ∃ i : Nat, e = .returned (.int .i64 i) ∧ l[i]? = some s ∧ Chg [] w w'
theorem find_yes {w : World} {B : Nat} {v : Value} {l : List Sv} {s : Sv} (h : SlS w B v l) (hl : l.length ≤ 100) (hok : ∀ x ∈ l, okS x) (hs : okS s) (hm : s ∈ l) :
    Calls Try.prog 27 #[v, s.v] w (FindAt w l s) :=
  (find_post s h hl hok hs).mono fun e w' ⟨⟨r, he, hr⟩, hc⟩ => by
    rcases hr with ⟨_, h0⟩ | ⟨i, rfl, hi⟩
    · exact absurd hm h0
    · exact ⟨i, he, hi, hc⟩
end Go.Proofs.Ytojkbljpjpifoaa
