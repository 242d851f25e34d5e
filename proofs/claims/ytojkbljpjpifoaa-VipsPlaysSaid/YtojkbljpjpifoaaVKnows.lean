/-
  WALKS over package vips: whether there is a service at an address. Condition: the table is one that New made, or none at all.
-/
import Derived.Test.YtojkbljpjpifoaaVAll2
set_option linter.unusedVariables false
set_option linter.unusedSimpArgs false
namespace Go.Proofs.Ytojkbljpjpifoaa
open Go.RowKit Go.Maps Go.Sort Go.Proofs Go.Lib Go.Shelf

theorem litsA_inj {A B : Ad} (h : litsA A = litsA B) : A = B := by
  refine Ad.ext_l ?_
  exact (List.map_inj_right (fun a b e => by injection e)).1 h
/-- '==' of two addresses inside a struct. -/
theorem eq_ad9 (w : World) {A B : Ad} (hA : okA A) (hB : okA B) : (Op.equalIn 9999 55 A.v B.v).run Try.prog w = .ok (decide (A = B)) w := by
  have hc : Try.prog.cellsOf 55 = 16 := by kernel_rfl
  obtain ⟨r, hr, hi⟩ := run_equalIn_deep (P := Try.prog) (9999 - 4) 4 55 (by kernel_rfl) w 2 2 A.v B.v (litsA A) (litsA B) (by simp [Value.formed, Try.underlying55, hc]) (by simp [Value.formed, Try.underlying55, hc]) (keyLits_ad (d := 0) hA) (keyLits_ad (d := 0) hB)
  have e : r = decide (A = B) := by
    by_cases h : A = B
    · rw [decide_eq_true h]; exact hi.2 (by rw [h])
    · rw [decide_eq_false h]
      cases r with
      | false => rfl
      | true => exact absurd (litsA_inj (hi.1 rfl)) h
  rw [← e]; exact hr
set_option maxHeartbeats 1000000 in
theorem index_empty (a : Option Addr) (c : Nat) (fv : Value) (w : World) : Calls Try.prog 53 #[.slice a 0 c, fv] w fun e w' => e = .returned (.int .i64 (-1)) ∧ w = w' := by
  go_enter Try.func53, Try.ntmps53
  go_wp2_with fail
  refine wp_loop_rounds 1 ?_
  rw [rounds_succ]
  go_wp2_with fail
  go_ret
  exact ⟨rfl, rfl⟩
set_option maxHeartbeats 400000 in
theorem contains_empty (a : Option Addr) (c : Nat) (fv : Value) (w : World) : Calls Try.prog 44 #[.slice a 0 c, fv] w fun e w' => e = .returned (.bool false) ∧ w = w' := by
  go_enter Try.func44, Try.ntmps44
  go_wp2_with fail
  refine (index_empty a c fv w).mono ?_
  rintro e w1 ⟨rfl, rfl⟩
  go_wp2_with fail
  go_ret
  exact ⟨rfl, rfl⟩
set_option maxRecDepth 100000 in
set_option maxHeartbeats 1000000 in
theorem here_any {w : World} {g : Nat} {A : Ad} {S : Sv} (hb : Blk w g 55 (arrA A)) (hA : okA A) (hS : okS S) :
    Calls Try.prog 43 #[S.v, .pointer (some ⟨g, 0, none⟩)] w fun e w' => e = .returned (.bool (decide (S.ad = A))) ∧ Chg [] w w' := by
  have he := eq_ad9 (w.alloc (.cells (arrS S) 72)) hS.1 hA
  have hn : Blk (w.alloc (.cells (arrS S) 72)) w.heap.size 72 (arrS S) := Blk.new _ _ _
  have hb2 := hb.alloc (.cells (arrS S) 72)
  have hA2 := (Chg.refl [] w).alloc (.cells (arrS S) 72)
  clear hb hA hS
  generalize decide (S.ad = A) = r at *
  cases r
  all_goals
   go_enter Try.func43, Try.ntmps43
   go_wp2_with (first
    | (refine wpList_load_blk rfl 72 _ rfl hn rfl _ Try.underlying72 rfl infS ?_)
    | (refine wpList_load_blk rfl 55 _ rfl hb2 rfl _ Try.underlying55 rfl infA ?_)
    | fail)
   go_ret
   exact ⟨rfl, hA2⟩
theorem below_chg {B : Nat} {w w' : World} {S : List Nat} (h : Below B w w') (hS : ∀ x, B ≤ x → x < w.heap.size → x ∈ S) : Chg S w w' :=
  ⟨h.os, h.tape, h.output, h.size, fun k hk hne => h.block k (Nat.lt_of_not_le fun hle => hne (hS k hle hk))⟩
set_option maxHeartbeats 1000000 in
theorem vcontains {w : World} {B g : Nat} {v : Value} {l : List Sv} {A : Ad} (h : SlS w B v l) (hl : LI l) (hb : Blk w g 55 (arrA A)) (hA : okA A) :
    Calls Try.prog 44 #[v, .func (.func 43) #[] #[.pointer (some ⟨g, 0, none⟩)]] w fun e w' => e = .returned (.bool (l.any fun S => decide (S.ad = A))) ∧ Chg [] w w' := by
  obtain ⟨A0, c0, rfl⟩ := Sl.form h
  rcases Nat.eq_zero_or_pos l.length with h0 | h0
  · obtain rfl : l = [] := List.eq_nil_of_length_eq_zero h0
    refine (contains_empty A0 c0 _ w).mono ?_
    rintro e w' ⟨rfl, rfl⟩
    exact ⟨rfl, Chg.refl _ _⟩
  · obtain ⟨zs, hz⟩ : ∃ d : List PS, d.map (·.1) = l := by
      refine ⟨l.attach.map fun r => ⟨r.1, hl.ok r.1 r.2⟩, ?_⟩
      rw [List.map_map]
      simp [Function.comp_def]
    have hzl : zs.length = l.length := by rw [← hz, List.length_map]
    have hrec := fun i x (hx : l[i]? = some x) => Sl.rec encS_len (by omega) h hx
    obtain ⟨b, o, c, hv, _, _, _⟩ := hrec 0 (l[0]'h0) (List.getElem?_eq_getElem h0)
    simp only [Value.slice.injEq, true_and] at hv
    obtain ⟨rfl, rfl⟩ := hv
    have eg : ∀ args w, (callFunc 43 args).run Try.prog w = .ok (.enter 43 args) w := enters_of Try.func43 (by kernel_rfl) rfl
    have hbl : b < w.heap.size := by
      obtain ⟨b', o', c', hv', _, _, hg'⟩ := hrec 0 (l[0]'h0) (List.getElem?_eq_getElem h0)
      simp only [Value.slice.injEq, true_and, Option.some.injEq, Addr.mk.injEq, and_true] at hv'
      obtain ⟨⟨rfl, rfl⟩, rfl⟩ := hv'
      have := hg' 16 (by omega)
      exact World.block_lt_of_cell? w ⟨b, o + (0 * 17 + 16), none⟩ (show _ = some (.int .i64 (l[0]'h0).port) by rw [this]; rfl)
    have hp : PredBelow Try.prog 43 #[.pointer (some ⟨g, 0, none⟩)] (fun x : PS => .agg (encP x).toArray) (fun x : PS => decide (x.1.ad = A)) w := fun W x hW => by
      have hbW : Blk W g 55 (arrA A) := (hW.block g hb.lt).trans hb
      refine (here_any hbW hA x.2.1).mono ?_
      rintro e w' ⟨rfl, hc⟩
      exact ⟨rfl, hW.trans ⟨hc.os, hc.tape, hc.output, hc.size, fun k hk => hc.block k (Nat.lt_of_lt_of_le hk hW.size) (by simp)⟩⟩
    have hcon := AnyQ.slices_ContainsFunc Try.hasSv 17 Try.isAgg72 Try.sizeOf72 encP encP_len (fun x : PS => decide (x.1.ad = A)) 43 #[.pointer (some ⟨g, 0, none⟩)] eg b o l.length c0 zs w
      hp (by omega) (by have := hl.len; omega) hbl (fun j hj i v hi => by
        have hjl : j < l.length := by omega
        obtain ⟨b', o', c', hv', _, _, hg'⟩ := hrec j (l[j]'hjl) (List.getElem?_eq_getElem hjl)
        simp only [Value.slice.injEq, true_and, Option.some.injEq, Addr.mk.injEq, and_true] at hv'
        obtain ⟨⟨rfl, rfl⟩, rfl⟩ := hv'
        have ez : zs[j]!.1 = l[j]'hjl := by
          rw [getElem!_pos zs j hj]
          have : (zs.map (·.1))[j]'(by simpa using hj) = l[j]'hjl := by simp only [hz]
          rw [← this, List.getElem_map]
        have hi17 : i < 17 := by have := (List.getElem?_eq_some_iff.1 hi).1; rwa [encP_len] at this
        have := hg' i hi17
        rw [Nat.add_assoc, this, ← ez]
        exact hi)
    have e2 : ((zs.take l.length).any fun x => decide (x.1.ad = A)) = l.any fun S => decide (S.ad = A) := by
      rw [← hzl, List.take_length, ← hz, List.any_map]; rfl
    rw [e2] at hcon
    refine Calls.mono hcon ?_
    rintro e w' ⟨rfl, hbw⟩
    exact ⟨rfl, Chg.of_below hbw⟩
set_option maxRecDepth 100000 in
set_option maxHeartbeats 1000000 in
theorem vknows_any {w : World} {b m n : Nat} {l : List Sv} (h : Tb w b m n l) (hl : LI l) (hn : n < 10000) {A : Ad} (hA : okA A) :
    Calls Try.prog 28 #[.pointer (some ⟨b, 0, none⟩), A.v] w fun e w' => e = .returned (.bool (l.any fun S => decide (S.ad = A))) ∧ Chg [] w w' := by
  have hc0 := (Chg.refl [] w).alloc (.cells (arrA A) 55)
  have F1 := Lib.hid (vall_any (h.chg0 hc0) hl hn)
  have hB : Blk (w.alloc (.cells (arrA A) 55)) w.heap.size 55 (arrA A) := Blk.new _ _ _
  have HL := Lib.hid (And.intro hl hA)
  clear h hl hA
  go_enter Try.func28, Try.ntmps28
  go_wp2_with fail
  refine F1.out.mono ?_
  rintro e w1 ⟨v, rfl, hS, hc1⟩
  have F2 := Lib.hid (vcontains hS HL.out.1 (hB.chg hc1 (by simp)) HL.out.2)
  clear hS F1 hB
  go_wp2_with fail
  refine F2.out.mono ?_
  rintro e w2 ⟨rfl, hc2⟩
  go_wp2_with fail
  go_ret
  exact ⟨rfl, (hc0.trans hc1).trans hc2⟩
set_option maxRecDepth 100000 in
set_option maxHeartbeats 1000000 in
theorem vknows_no {w : World} {p : Value} (h : NoT w p) (A : Ad) : Calls Try.prog 28 #[p, A.v] w fun e w' => e = .returned (.bool false) ∧ Chg [] w w' := by
  have hc0 := (Chg.refl [] w).alloc (.cells (arrA A) 55)
  have F1 := Lib.hid (vall_no (h.chg0 hc0))
  have F2 := Lib.hid (fun fv W => contains_empty none 0 fv W)
  clear h
  go_enter Try.func28, Try.ntmps28
  go_wp2_with fail
  refine F1.out.mono ?_
  rintro e w1 ⟨rfl, rfl⟩
  go_wp2_with fail
  refine (F2.out _ _).mono ?_
  rintro e w2 ⟨rfl, rfl⟩
  go_wp2_with fail
  go_ret
  exact ⟨rfl, hc0⟩
end Go.Proofs.Ytojkbljpjpifoaa
