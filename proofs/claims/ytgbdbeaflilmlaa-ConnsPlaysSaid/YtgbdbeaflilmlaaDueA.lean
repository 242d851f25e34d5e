/-
  WALKS over package due: a queue's own methods. Condition: a queue that New made, of at most 2900 items.
-/
import Derived.Test.YtgbdbeaflilmlaaDueP
set_option linter.unusedVariables false
set_option linter.unusedSimpArgs false
namespace Go.Proofs.Ytgbdbeaflilmlaa
open Go.RowKit

/-- A queue, in order. -/
structure QU (w : World) (q : Nat) (vs : Value) (sq : Int) (l : List It) : Prop where
  r : QR w q vs sq l
  ok : Heap.OK ltI l
theorem QU.chg {w w' : World} {q : Nat} {vs : Value} {sq : Int} {l : List It} {S : List Nat} (h : QU w q vs sq l) (hc : Chg S w w') (hS : ∀ x ∈ footQ q vs, x ∉ S) : QU w' q vs sq l := ⟨h.r.chg hc hS, h.ok⟩
theorem QU.chg0 {w w' : World} {q : Nat} {vs : Value} {sq : Int} {l : List It} (h : QU w q vs sq l) (hc : Chg [] w w') : QU w' q vs sq l := ⟨h.r.chg0 hc, h.ok⟩
theorem QR.form {w : World} {q : Nat} {vs : Value} {sq : Int} {l : List It} (h : QR w q vs sq l) : ∃ A c, vs = .slice A l.length c := Sl.form (Sl.of_own h.own)

set_option maxHeartbeats 400000 in
theorem qnew_any (w : World) : Calls Try.prog 52 #[] w fun e w' => ∃ q, e = .returned (.pointer (some ⟨q, 0, none⟩)) ∧ QU w' q (.slice none 0 0) 0 [] ∧ Chg [] w w' ∧ w.heap.size ≤ q := by
  go_enter Try.func52, Try.ntmps52
  go_wp2
  go_ret
  exact ⟨_, rfl, ⟨⟨Blk.new _ _ _, World.ownsRow_nil .., by simp [Value.ownBlock]⟩, Heap.OK.nil⟩, (Chg.refl _ _).alloc _, Nat.le_refl _⟩
set_option maxHeartbeats 400000 in
theorem qis_any {w : World} {q : Nat} {vs : Value} {sq : Int} {l : List It} (h : QR w q vs sq l) : Calls Try.prog 80 #[.pointer (some ⟨q, 0, none⟩)] w fun e w' => e = .returned (.bool true) ∧ w = w' := by
  have c0 : w.cell? ⟨q, 0, none⟩ = some (.bool true) := h.blk.cell 0
  clear h
  go_enter Try.func80, Try.ntmps80
  go_wp2
  go_ret
  exact ⟨rfl, rfl⟩
set_option maxHeartbeats 400000 in
theorem qlen_any {w : World} {q : Nat} {vs : Value} {sq : Int} {l : List It} (h : QR w q vs sq l) : Calls Try.prog 86 #[.pointer (some ⟨q, 0, none⟩)] w fun e w' => e = .returned (.int .i64 l.length) ∧ w = w' := by
  have F1 := Lib.hid (qis_any h)
  obtain ⟨A, c, rfl⟩ := h.form
  have c1 : w.cell? ⟨q, 1, none⟩ = some (.slice A l.length c) := h.blk.cell 1
  clear h
  go_enter Try.func86, Try.ntmps86
  go_wp2_with fail
  refine F1.out.mono ?_
  rintro e w1 ⟨rfl, rfl⟩
  go_wp2_with fail
  go_ret
  exact ⟨rfl, rfl⟩
set_option maxHeartbeats 1000000 in
theorem push_any {w : World} {q : Nat} {vs : Value} {sq : Int} {l : List It} (h : QU w q vs sq l) (hl : l.length ≤ 2900) (x : It) :
    Calls Try.prog 81 #[.iface 160 (.pointer (some ⟨q, 1, none⟩)), x.v] w fun e w' => e = .returned (.tuple #[]) ∧ Turned w q vs sq (fun l' => l'.Perm (x :: l)) w' := by
  have hA := (Chg.refl [] w).alloc (.cells (arrI x) 162)
  have F1 := Lib.hid (hpush_any (h.r.chg0 hA) h.ok hl x)
  have HA := Lib.hid hA
  clear h hA
  go_enter Try.func81, Try.ntmps81
  go_wp2_with fail
  refine F1.out.mono ?_
  rintro e w1 ⟨rfl, vs1, l1, h1, h2, h3, h4, h5⟩
  go_wp2_with fail
  go_end0
  exact ⟨rfl, vs1, l1, h1, h2, h3, (HA.out.more (by simp)).trans h4, fun y hy => (h5 y hy).imp id (fun k => Nat.le_trans HA.out.size k)⟩

set_option maxRecDepth 100000 in
set_option maxHeartbeats 1000000 in
theorem qadd_any {w : World} {q : Nat} {vs : Value} {sq : Int} {l : List It} (h : QU w q vs sq l) (hl : l.length ≤ 2900) (hs0 : 0 ≤ sq) (hs1 : sq ≤ 1000000) (at_ id : Int) :
    Calls Try.prog 55 #[.pointer (some ⟨q, 0, none⟩), .int .i64 at_, .int .i64 id] w fun e w' => e = .returned (.tuple #[]) ∧ Turned w q vs (sq + 1) (fun l' => l'.Perm (⟨at_, id, sq + 1⟩ :: l)) w' := by
  have F1 := Lib.hid (qis_any h.r)
  have c2 : w.cell? ⟨q, 2, none⟩ = some (.int .i64 sq) := h.r.blk.cell 2
  have f2 : w.frozen? ⟨q, 2, none⟩ = false := h.r.blk.frozen 2
  have hql := h.r.blk.lt
  have hc1 : Chg [q] w (w.setCell ⟨q, 2, none⟩ (.int .i64 (sq + 1))) := (Chg.refl _ _).setCell (.inl (by simp)) _
  have h1 : QU (w.setCell ⟨q, 2, none⟩ (.int .i64 (sq + 1))) q vs (sq + 1) l := ⟨⟨h.r.blk.set_ 2 _, own_chg h.r.own hc1 (fun y hy hm => by simp at hm; subst hm; exact h.r.far hy), h.r.far⟩, h.ok⟩
  have H1 := Lib.hid h1
  have F2 := Lib.hid (fun W (hc : Chg [] (w.setCell ⟨q, 2, none⟩ (.int .i64 (sq + 1))) W) => push_any (h1.chg0 hc) hl ⟨at_, id, sq + 1⟩)
  have k2 := fun W (hc : Chg [] (w.setCell ⟨q, 2, none⟩ (.int .i64 (sq + 1))) W) => (show W.cell? ⟨q, 2, none⟩ = some (.int .i64 (sq + 1)) from (h1.r.blk.chg hc (by simp)).cell 2)
  have K2 := Lib.hid k2
  have HC1 := Lib.hid hc1
  clear h h1 hc1 k2
  go_enter Try.func55, Try.ntmps55
  go_wp2_with fail
  refine F1.out.mono ?_
  rintro e w1 ⟨rfl, rfl⟩
  clear F1
  go_wp2_with fail
  have k3 := K2.out _ (Chg.refl _ _)
  generalize w.setCell ⟨q, 2, none⟩ (.int .i64 (sq + 1)) = w1 at *
  clear c2 f2 hql H1
  go_still_tail 11, (by kernel_rfl)
  change wpList _ _ _ _ _ w1.drew
  have F3 := Lib.hid (F2.out w1.drew (Chg.refl [] w1).drew)
  clear F2 K2 k3
  go_wp2_with fail
  refine F3.out.mono ?_
  rintro e w2 ⟨rfl, vs1, l1, h1, h2, h3, h4, h5⟩
  go_wp2_with fail
  go_end0
  have hsz := HC1.out.size
  exact ⟨rfl, vs1, l1, h1, h2, h3, (HC1.out.more (by simp [footQ])).trans ((Chg.refl _ _).drew.trans h4), fun y hy => (h5 y hy).imp (fun k => k) (fun k => Nat.le_trans hsz k)⟩

set_option maxRecDepth 100000 in
set_option maxHeartbeats 1000000 in
theorem qpeek_any {w : World} {q : Nat} {vs : Value} {sq : Int} {l : List It} (h : QR w q vs sq l) {x : It} (hx : l[0]? = some x) :
    Calls Try.prog 82 #[.pointer (some ⟨q, 0, none⟩)] w fun e w' => e = .returned (.tuple #[.int .i64 x.at_, .int .i64 x.id, .bool true]) ∧ Chg [] w w' := by
  have F1 := Lib.hid (qlen_any h)
  have hne : l ≠ [] := by intro e; subst e; simp at hx
  obtain ⟨g, cap, rfl, hq⟩ := h.hq hne
  have hpos : 0 < l.length := (List.getElem?_eq_some_iff.1 hx).1
  have c1 := Lib.hid (fun W (hc : Chg [] w W) => (show W.cell? ⟨q, 1, none⟩ = some (.slice (some ⟨g, 0, none⟩) l.length cap) from hc.cell (hq.blk.cell 1) (by simp)))
  have k0 := Lib.hid (fun W (hc : Chg [] w W) => (show W.cell? ⟨g, 0, none⟩ = some (.int .i64 x.at_) from hc.cell (hq.row.at_ encI_len hx (j := 0) rfl).1 (by simp)))
  have k1 := Lib.hid (fun W (hc : Chg [] w W) => (show W.cell? ⟨g, 1, none⟩ = some (.int .i64 x.id) from hc.cell (hq.row.at_ encI_len hx (j := 1) rfl).1 (by simp)))
  generalize l.length = n at *
  have hn1 : ((n : Int) == 0) = false := by simp; omega
  have hn2 : (0 : Int) < (n : Int) := by omega
  clear h hne hq hx
  go_enter Try.func82, Try.ntmps82
  go_wp2_with fail
  refine F1.out.mono ?_
  rintro e w1 ⟨rfl, rfl⟩
  clear F1
  go_wp2_with fail
  refine wp_region_chg (by kernel_rfl) (by kernel_rfl) ?_
  repeat (first
    | ((with_reducible refine wpQuiet_cellC 156 (.tmp 10) ?_ ?_ q 1 ?_ (.slice (some ⟨g, 0, none⟩) n cap) _ c1.out Try.underlying156 ?_ ?_); (focus rfl); (focus rfl); (focus rfl); (focus rfl); (try simp only [List.getElem_toArray, List.getElem_cons_succ, List.getElem_cons_zero, Act.put, List.setIfInBounds_toArray, List.set_cons_zero, List.set_cons_succ]))
    | ((with_reducible refine wpQuiet_cellC 156 (.tmp 17) ?_ ?_ q 1 ?_ (.slice (some ⟨g, 0, none⟩) n cap) _ c1.out Try.underlying156 ?_ ?_); (focus rfl); (focus rfl); (focus rfl); (focus rfl); (try simp only [List.getElem_toArray, List.getElem_cons_succ, List.getElem_cons_zero, Act.put, List.setIfInBounds_toArray, List.set_cons_zero, List.set_cons_succ]))
    | ((with_reducible refine wpQuiet_cellC 3 (.tmp 13) ?_ ?_ g 0 ?_ (.int .i64 x.at_) _ k0.out Try.underlying3 ?_ ?_); (focus rfl); (focus rfl); (focus rfl); (focus rfl); (try simp only [List.getElem_toArray, List.getElem_cons_succ, List.getElem_cons_zero, Act.put, List.setIfInBounds_toArray, List.set_cons_zero, List.set_cons_succ]))
    | ((with_reducible refine wpQuiet_cellC 3 (.tmp 20) ?_ ?_ g 1 ?_ (.int .i64 x.id) _ k1.out Try.underlying3 ?_ ?_); (focus rfl); (focus rfl); (focus rfl); (focus rfl); (try simp only [List.getElem_toArray, List.getElem_cons_succ, List.getElem_cons_zero, Act.put, List.setIfInBounds_toArray, List.set_cons_zero, List.set_cons_succ]))
    | ((with_reducible refine wpQuiet_pure (v := ?_) ?_ (fun w => ?_) ?_); rotate_left; (focus rfl); (focus (go_simp <;> with_reducible rfl)); (try simp only [List.getElem_toArray, List.getElem_cons_succ, List.getElem_cons_zero, Act.put, List.setIfInBounds_toArray, List.set_cons_zero, List.set_cons_succ])))
  refine wpQuiet_nil ?_
  intro w7 hc7
  go_wp2_with fail
  go_ret3
  exact ⟨rfl, hc7⟩
set_option maxHeartbeats 400000 in
theorem qpeek_no {w : World} {q : Nat} {vs : Value} {sq : Int} (h : QR w q vs sq []) :
    Calls Try.prog 82 #[.pointer (some ⟨q, 0, none⟩)] w fun e w' => e = .returned (.tuple #[.int .i64 0, .int .i64 0, .bool false]) ∧ w = w' := by
  have F1 : Hid (Calls Try.prog 86 #[.pointer (some ⟨q, 0, none⟩)] w fun e w' => e = .returned (.int .i64 0) ∧ w = w') := Lib.hid (qlen_any h)
  clear h
  go_enter Try.func82, Try.ntmps82
  go_wp2_with fail
  refine F1.out.mono ?_
  rintro e w1 ⟨rfl, rfl⟩
  go_wp2_with fail
  go_ret3
  exact ⟨rfl, rfl⟩

set_option maxRecDepth 100000 in
set_option maxHeartbeats 1000000 in
theorem qnext_yes {w : World} {q : Nat} {vs : Value} {sq now : Int} {l : List It} (h : QU w q vs sq l) (hl : l.length ≤ 2900) {x : It} (hx : l[0]? = some x) (hle : x.at_ ≤ now) :
    Calls Try.prog 56 #[.pointer (some ⟨q, 0, none⟩), .int .i64 now] w fun e w' => e = .returned (.tuple #[.int .i64 x.id, .bool true]) ∧ Turned w q vs sq (fun l' => l.Perm (x :: l')) w' := by
  have F1 := Lib.hid (qpeek_any h.r hx)
  have F2 := Lib.hid (fun W (hc : Chg [] w W) => hpop_any (h.r.chg0 hc) h.ok hl hx)
  have hta := fun i W => run_assert (P := Try.prog) Try.underlying162 rfl x.v i W
  have hgt : (now < x.at_) = False := by simp; omega
  clear h hx hle
  go_enter Try.func56, Try.ntmps56
  go_wp2_with fail
  refine F1.out.mono ?_
  rintro e w1 ⟨rfl, hc1⟩
  have F3 := Lib.hid (F2.out w1 hc1)
  have HC1 := Lib.hid hc1
  clear F1 F2 hc1
  go_wp2_with fail
  refine F3.out.mono ?_
  rintro e w2 ⟨rfl, vs1, l1, h1, h2, h3, h4, h5⟩
  have HH := Lib.hid (And.intro h1 (And.intro h2 (And.intro h3 (And.intro h4 h5))))
  clear F3 h1 h2 h3 h4 h5
  go_wp2_with fail
  go_ret2
  obtain ⟨h1, h2, h3, h4, h5⟩ := HH.out
  have hA := (Chg.refl [] w2).alloc (.cells (arrI x) 162)
  exact ⟨rfl, vs1, l1, h1.chg0 hA, h2, h3, (HC1.out.more (by simp)).trans (h4.trans (hA.more (by simp))), fun y hy => (h5 y hy).imp id (fun k => Nat.le_trans HC1.out.size k)⟩
set_option maxHeartbeats 1000000 in
theorem qnext_no {w : World} {q : Nat} {vs : Value} {sq now : Int} {l : List It} (h : QU w q vs sq l) (hno : ∀ x, l[0]? = some x → now < x.at_) :
    Calls Try.prog 56 #[.pointer (some ⟨q, 0, none⟩), .int .i64 now] w fun e w' => e = .returned (.tuple #[.int .i64 0, .bool false]) ∧ Chg [] w w' := by
  cases hx : l[0]? with
  | none =>
    have hl : l = [] := by cases l with
      | nil => rfl
      | cons a b => simp at hx
    subst hl
    have F1 := Lib.hid (qpeek_no h.r)
    clear h hno hx
    go_enter Try.func56, Try.ntmps56
    go_wp2_with fail
    refine F1.out.mono ?_
    rintro e w1 ⟨rfl, rfl⟩
    go_wp2_with fail
    go_ret2
    exact ⟨rfl, Chg.refl _ _⟩
  | some x =>
    have F1 := Lib.hid (qpeek_any h.r hx)
    have hgt := hno x hx
    clear h hno hx
    go_enter Try.func56, Try.ntmps56
    go_wp2_with fail
    refine F1.out.mono ?_
    rintro e w1 ⟨rfl, hc1⟩
    go_wp2_with fail
    go_ret2
    exact ⟨rfl, hc1⟩

def RemPost (w : World) (q : Nat) (vs : Value) (sq : Int) (l : List It) (id : Int) (e : Ending) (w' : World) : Prop := (∃ n : Int, e = .returned (.int .i64 n)) ∧ Turned w q vs sq (fun l' => l'.Perm (stayI id l)) w'
set_option maxRecDepth 100000 in
set_option maxHeartbeats 1000000 in
theorem qrem_any {w : World} {q : Nat} {vs : Value} {sq : Int} {l : List It} (h : QU w q vs sq l) (hl : l.length ≤ 2900) (id : Int) :
    Calls Try.prog 60 #[.pointer (some ⟨q, 0, none⟩), .int .i64 id] w (RemPost w q vs sq l id) := by
  have hA := (Chg.refl [] w).alloc (.cells #[.int .i64 id] 3)
  have HP : Hid (∀ e w', RemPost w q vs sq l id e w' = ((∃ n : Int, e = .returned (.int .i64 n)) ∧ Turned w q vs sq (fun l' => l'.Perm (stayI id l)) w')) := Lib.hid fun _ _ => rfl
  have h1 := h.chg0 hA
  have F1 := Lib.hid (qlen_any h1.r)
  rcases Nat.eq_zero_or_pos l.length with h0 | h0
  · obtain rfl : l = [] := List.eq_nil_of_length_eq_zero h0
    have H1 := Lib.hid h1
    have HA := Lib.hid hA
    clear h h1 hA h0 hl
    go_enter Try.func60, Try.ntmps60
    go_wp2_with fail
    refine F1.out.mono ?_
    rintro e w1 ⟨rfl, rfl⟩
    go_wp2_with fail
    go_ret
    rw [HP.out]
    exact ⟨⟨_, rfl⟩, vs, [], H1.out.r, H1.out.ok, List.Perm.refl _, HA.out.more (by simp), fun y hy => .inl hy⟩
  · have hne : l ≠ [] := by intro e; subst e; simp at h0
    obtain ⟨g, cap, rfl, hq⟩ := h1.r.hq hne
    have hbx : (w.alloc (.cells #[.int .i64 id] 3)).cell? ⟨w.heap.size, 0, none⟩ = some (.int .i64 id) := (Blk.new w 3 #[.int .i64 id]).cell 0
    have hgx : w.heap.size ≠ g := by have := h.r.lt g (by simp [footQ, Value.ownBlock]); omega
    have F2 := Lib.hid (deleteI_any (cap := cap) id w.heap.size hq.row (by omega) hq.hl rfl hbx hgx)
    have H1 := Lib.hid hq
    have HA := Lib.hid hA
    have c1 : (w.alloc (.cells #[.int .i64 id] 3)).cell? ⟨q, 1, none⟩ = some (.slice (some ⟨g, 0, none⟩) l.length cap) := hq.blk.cell 1
    have hl2 := h0
    have hn1 : ((l.length : Int) == 0) = false := by simp; omega
    have hlb : (l.length : Int) ≤ 3000 := by omega
    have hsl : (stayI id l).length ≤ l.length := List.length_filter_le _ _
    have hql := h.r.blk.lt
    clear h h1 hA hq hbx hgx hne h0
    go_enter Try.func60, Try.ntmps60
    go_wp2_with fail
    refine F1.out.mono ?_
    rintro e w1 ⟨rfl, rfl⟩
    clear F1
    go_wp2_with fail
    refine F2.out.mono ?_
    rintro e w2 ⟨rfl, hr2, hc2⟩
    have hb2 := H1.out.blk.chg hc2 (by simpa using H1.out.qg)
    have k1 : w2.cell? ⟨q, 1, none⟩ = some (.slice (some ⟨g, 0, none⟩) l.length cap) := hb2.cell 1
    have f1 : w2.frozen? ⟨q, 1, none⟩ = false := hb2.frozen 1
    have hql2 := hb2.lt
    have hcS : Chg [q] w2 (w2.setCell ⟨q, 1, none⟩ (.slice (some ⟨g, 0, none⟩) (stayI id l).length cap)) := (Chg.refl _ _).setCell (.inl (by simp)) _
    have hq3 : HQ (w2.setCell ⟨q, 1, none⟩ (.slice (some ⟨g, 0, none⟩) (stayI id l).length cap)) q g (cap * 3) cap sq (stayI id l) :=
      ⟨hb2.set_ 1 _, hr2.chg hcS (by simpa using fun e => H1.out.qg e.symm), rfl, by have := H1.out.hl; omega, H1.out.qg, H1.out.hm⟩
    have F5 := Lib.hid (hinit_any hq3 (by omega))
    have HC3 := Lib.hid ((HA.out.more (T := footQ q (.slice (some ⟨g, 0, none⟩) l.length cap)) (by simp)).trans ((hc2.more (by simp [footQ, Value.ownBlock])).trans (hcS.more (by simp [footQ]))))
    clear F2 H1 c1 hr2 hc2 hb2 hcS hq3
    generalize hst : stayI id l = st at *
    generalize hkl : st.length = kl at *
    generalize hll : l.length = ll at *
    have HG := Lib.hid (And.intro hst (And.intro hkl hll))
    clear hst hkl hll
    go_wp2_with fail
    refine F5.out.mono ?_
    rintro e w4 ⟨rfl, l3, hq4, hok4, hp4, hc4⟩
    have c4 : w4.cell? ⟨q, 1, none⟩ = some (.slice (some ⟨g, 0, none⟩) l3.length cap) := hq4.blk.cell 1
    have HH := Lib.hid (And.intro hq4 (And.intro hok4 (And.intro hp4 hc4)))
    have hl3 : l3.length ≤ 3000 := by have := hp4.length_eq; have := HG.out.2.1; omega
    clear F5 hq4 hok4 hp4 hc4 k1 f1
    go_wp2_with fail
    go_ret
    rw [HP.out]
    obtain ⟨hq4, hok4, hp4, hc4⟩ := HH.out
    refine ⟨⟨_, rfl⟩, _, l3, hq4.qr, hok4, ?_, HC3.out.trans (hc4.more (by simp [footQ, Value.ownBlock])), fun y hy => .inl (by simpa [footQ, Value.ownBlock] using hy)⟩
    exact hp4
end Go.Proofs.Ytgbdbeaflilmlaa
