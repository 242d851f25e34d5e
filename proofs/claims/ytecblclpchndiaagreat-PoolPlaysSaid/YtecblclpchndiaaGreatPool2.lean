/-
  MEMORY of a history; WALKS: may, Push, Clone, Equal. Condition: as many versions as may be; ticks up to a million.
-/
import Derived.Test.YtecblclpchndiaaGreatPool1
import Derived.Deep.QuietTactic
import Derived.Test.YtecblclpchndiaaGreatReg
set_option linter.unusedVariables false
set_option linter.unusedSimpArgs false
namespace Go.Proofs.YtecblclpchndiaaGreat
open Go.RowKit

/-- A version as it lies in memory. -/
structure Ve where
  num : Int
  frm : Int
  unt : Int
  tv : Value
/-- A version. -/
structure Vs where
  num : Int
  frm : Int
  unt : Int
  tab : List Int
deriving DecidableEq
def encV (x : Ve) : List Value := [.int .i64 x.num, .int .i64 x.frm, .int .i64 x.unt, x.tv]
theorem encV_len (x : Ve) : (encV x).length = 4 := rfl
/-- What lies in no block of the list S. -/
def Safe (w : World) (S : List Nat) (v : Value) : Prop := ∀ g ∈ v.ownBlock.toList, g < w.heap.size ∧ g ∉ S
theorem Safe.step {w w' : World} {S S' : List Nat} {v : Value} (h : Safe w S v) (hc : w.heap.size ≤ w'.heap.size) (hS : ∀ x ∈ S', x ∈ S ∨ w.heap.size ≤ x) : Safe w' S' v := fun g hg =>
  ⟨Nat.lt_of_lt_of_le (h g hg).1 hc, fun hm => (hS g hm).elim (h g hg).2 (fun h2 => by have := (h g hg).1; omega)⟩
theorem Sl.chgB {w w' : World} {B size n : Nat} {v : Value} {xs : List Value} {S : List Nat} (h : Sl w B size v n xs) (hc : Chg S w w') (hS : ∀ g ∈ v.ownBlock.toList, g ∉ S) : Sl w' B size v n xs := by
  obtain ⟨hl, A, c, hv, hcap, hr⟩ := h
  subst hv
  refine ⟨hl, A, c, rfl, hcap, fun hn => ?_⟩
  obtain ⟨b, o, hA, hb, hx⟩ := hr hn
  subst hA
  exact ⟨b, o, rfl, hb, fun j u hu => hc.cell (hx j u hu) (hS b (by simp [Value.ownBlock]))⟩
/-- A table in memory. -/
def TabR (w : World) (S : List Nat) (v : Value) (l : List Int) : Prop := SlZ w 0 v l ∧ Safe w S v
theorem TabR.step {w w' : World} {S S' : List Nat} {v : Value} {l : List Int} (h : TabR w S v l) (hc : Chg S w w') (hS : ∀ x ∈ S', x ∈ S ∨ w.heap.size ≤ x) : TabR w' S' v l :=
  ⟨Sl.chgB h.1 hc (fun g hg => (h.2 g hg).2), h.2.step hc.size hS⟩
/-- An entry is a version. -/
structure VeR (w : World) (S : List Nat) (e : Ve) (x : Vs) : Prop where
  num : e.num = x.num
  frm : e.frm = x.frm
  unt : e.unt = x.unt
  tab : TabR w S e.tv x.tab
theorem VeR.step {w w' : World} {S S' : List Nat} {e : Ve} {x : Vs} (h : VeR w S e x) (hc : Chg S w w') (hS : ∀ x ∈ S', x ∈ S ∨ w.heap.size ≤ x) : VeR w' S' e x := ⟨h.num, h.frm, h.unt, h.tab.step hc hS⟩
def VesR (w : World) (S : List Nat) (es : List Ve) (V : List Vs) : Prop := es.length = V.length ∧ ∀ (i : Nat) (e : Ve) (x : Vs), es[i]? = some e → V[i]? = some x → VeR w S e x
theorem VesR.step {w w' : World} {S S' : List Nat} {es : List Ve} {V : List Vs} (h : VesR w S es V) (hc : Chg S w w') (hS : ∀ x ∈ S', x ∈ S ∨ w.heap.size ≤ x) : VesR w' S' es V := ⟨h.1, fun i e x a b => (h.2 i e x a b).step hc hS⟩
/-- Versions that can be. -/
structure OkV (V : List Vs) : Prop where
  len : V.length ≤ 4
  rng : ∀ x ∈ V, 1 ≤ x.num ∧ x.num ≤ 1000000 ∧ 0 ≤ x.frm ∧ x.frm ≤ 1000000 ∧ -1 ≤ x.unt ∧ x.unt ≤ 1000000
  tab : ∀ x ∈ V, x.tab.length ≤ 300
/-- A history's blocks. -/
def footH (hp : Nat) (rv : Value) : List Nat := hp :: rv.ownBlock.toList
/-- A history in memory: its block, the row of its versions; S: blocks in which no table lies. -/
structure HiR (w : World) (N hp : Nat) (rv : Value) (S : List Nat) (es : List Ve) (V : List Vs) (last : Int) : Prop where
  blk : Blk w hp 89 #[.bool true, rv, .int .i64 last]
  row : w.ownsRow N 46 4 rv es.length (es.flatMap encV)
  apart : hp ∉ rv.ownBlock.toList
  foot : ∀ x ∈ footH hp rv, x ∈ S
  low : N ≤ hp
  vers : VesR w S es V
theorem HiR.chg0 {w w' : World} {N hp : Nat} {rv : Value} {S : List Nat} {es : List Ve} {V : List Vs} {last : Int} (h : HiR w N hp rv S es V last) (hc : Chg [] w w') : HiR w' N hp rv S es V last :=
  ⟨h.blk.chg hc (by simp), own_chg h.row hc (by simp), h.apart, h.foot, h.low, h.vers.step (hc.more (by simp)) (fun x hx => .inl hx)⟩
theorem HiR.at_ {w : World} {N hp : Nat} {rv : Value} {S : List Nat} {es : List Ve} {V : List Vs} {last : Int} (h : HiR w N hp rv S es V last) {i : Nat} {x : Vs} (hx : V[i]? = some x) :
    ∃ b o c e, rv = .slice (some ⟨b, o, none⟩) V.length c ∧ V.length ≤ c ∧ es[i]? = some e ∧ VeR w S e x ∧ w.cell? ⟨b, o + i * 4, none⟩ = some (.int .i64 x.num) ∧ w.cell? ⟨b, o + i * 4 + 1, none⟩ = some (.int .i64 x.frm) ∧
      w.cell? ⟨b, o + i * 4 + 2, none⟩ = some (.int .i64 x.unt) ∧ w.cell? ⟨b, o + i * 4 + 3, none⟩ = some e.tv := by
  have hi : i < V.length := (List.getElem?_eq_some_iff.1 hx).1
  have hl := h.vers.1
  have he : es[i]? = some (es[i]'(by omega)) := List.getElem?_eq_getElem _
  have hr := h.vers.2 i _ x he hx
  obtain ⟨b, o, c, hv, _, hc, hq⟩ := Sl.rec encV_len (by omega) (Sl.of_own h.row) he
  rw [hl] at hv hc
  refine ⟨b, o, c, _, hv, hc, he, hr, ?_, ?_, ?_, ?_⟩
  · have := hq 0 (by omega); rw [Nat.add_zero] at this; rw [this, ← hr.num]; rfl
  · have := hq 1 (by omega); rw [← Nat.add_assoc] at this; rw [this, ← hr.frm]; rfl
  · have := hq 2 (by omega); rw [← Nat.add_assoc] at this; rw [this, ← hr.unt]; rfl
  · have := hq 3 (by omega); rw [← Nat.add_assoc] at this; rw [this]; rfl
/-- Why a version may not be pushed. -/
def mayV (V : List Vs) (now : Int) : Int :=
  if now < 0 ∨ (∃ x ∈ V.getLast?, now < x.frm) then 2 else if 4 ≤ V.length ∧ (∃ x ∈ V.head?, now - x.unt < 16) then 11 else 0

set_option maxRecDepth 100000 in
set_option maxHeartbeats 1000000 in
theorem isH_any {w : World} {hp : Nat} {rv : Value} {last : Int} {b : Bool} (h : Blk w hp 89 #[.bool b, rv, .int .i64 last]) :
    Calls Tryz.prog 68 #[.pointer (some ⟨hp, 0, none⟩)] w fun e w' => e = .returned (.bool b) ∧ w = w' := by
  have c0 : w.cell? ⟨hp, 0, none⟩ = some (.bool b) := h.cell 0
  clear h
  go_enter Tryz.func68, Tryz.ntmps68
  go_wp2_with fail
  go_ret
  exact ⟨rfl, rfl⟩
theorem fullH_any {w : World} {N hp : Nat} {rv : Value} {S : List Nat} {es : List Ve} {V : List Vs} {last : Int} (h : HiR w N hp rv S es V last) :
    Calls Tryz.prog 81 #[.pointer (some ⟨hp, 0, none⟩)] w fun e w' => e = .returned (.bool (decide (4 ≤ V.length))) ∧ w = w' := by
  have c1 := h.blk.cell 1
  simp only [List.getElem?_toArray, List.getElem?_cons_succ, List.getElem?_cons_zero] at c1
  obtain ⟨A, c, rfl⟩ := Sl.form (Sl.of_own h.row)
  have hl := h.vers.1
  rw [hl] at c1
  clear h hl
  generalize V.length = n at *
  by_cases h4 : 4 ≤ n
  · have h5 : (4 : Int) ≤ (n : Int) := by omega
    simp only [h4, decide_true]
    go_enter Tryz.func81, Tryz.ntmps81
    go_wp2_with fail
    go_ret
    exact ⟨rfl, rfl⟩
  · have h5 : ¬ (4 : Int) ≤ (n : Int) := by omega
    simp only [h4, decide_false]
    go_enter Tryz.func81, Tryz.ntmps81
    go_wp2_with fail
    go_ret
    exact ⟨rfl, rfl⟩
theorem neededH_any {w : World} {N hp : Nat} {rv : Value} {S : List Nat} {es : List Ve} {V : List Vs} {last : Int} (h : HiR w N hp rv S es V last) (now : Int) {x : Vs} (hx : V[0]? = some x) (hn : 0 ≤ now ∧ now ≤ 1000000) (hu : -1 ≤ x.unt ∧ x.unt ≤ 1000000) :
    Calls Tryz.prog 92 #[.pointer (some ⟨hp, 0, none⟩), .int .i64 now] w fun e w' => e = .returned (.bool (decide (now - x.unt < 16))) ∧ w = w' := by
  have c1 := h.blk.cell 1
  simp only [List.getElem?_toArray, List.getElem?_cons_succ, List.getElem?_cons_zero] at c1
  obtain ⟨b, o, c, e, rfl, hc, _, _, _, _, d2, _⟩ := h.at_ hx
  have h0 : 0 < V.length := (List.getElem?_eq_some_iff.1 hx).1
  have hw : IntKind.i64.wrap (now - x.unt) = now - x.unt := by rw [IntKind.wrap_i64]; omega
  simp only [Nat.zero_mul, Nat.add_zero] at d2
  clear h hx
  go_enter Tryz.func92, Tryz.ntmps92
  go_wp2_with fail
  go_ret
  exact ⟨rfl, rfl⟩
end Go.Proofs.YtecblclpchndiaaGreat
namespace Go.Proofs.YtecblclpchndiaaGreat
open Go.RowKit

theorem mayV_nil (now : Int) (h : 0 ≤ now) : mayV [] now = 0 := by
  unfold mayV
  rw [if_neg (by simp; omega), if_neg (by simp)]
theorem mayV_of {V : List Vs} {now : Int} {x y : Vs} (h : 0 ≤ now) (hx : V[V.length - 1]? = some x) (hy : V[0]? = some y) : mayV V now = if now < x.frm then 2 else if 4 ≤ V.length ∧ now - y.unt < 16 then 11 else 0 := by
  unfold mayV
  rw [List.getLast?_eq_getElem?, hx, List.head?_eq_getElem?, hy]
  simp
  by_cases h1 : now < x.frm
  · rw [if_pos (.inr h1), if_pos h1]
  · rw [if_neg (by omega), if_neg h1]

set_option maxRecDepth 100000 in
set_option maxHeartbeats 2000000 in
theorem mayH_any {w : World} {N hp : Nat} {rv : Value} {S : List Nat} {es : List Ve} {V : List Vs} {last : Int} (h : HiR w N hp rv S es V last) (hok : OkV V) (now : Int) (hn : 0 ≤ now ∧ now ≤ 1000000) :
    Calls Tryz.prog 80 #[.pointer (some ⟨hp, 0, none⟩), .int .i64 now] w fun e w' => e = .returned (.int .i64 (mayV V now)) ∧ Chg [] w w' := by
  have F1 := Lib.hid (fun W (hW : Chg [] w W) => isH_any (h.chg0 hW).blk)
  have F2 := Lib.hid (fun W (hW : Chg [] w W) => fullH_any (h.chg0 hW))
  have c1 := h.blk.cell 1
  simp only [List.getElem?_toArray, List.getElem?_cons_succ, List.getElem?_cons_zero] at c1
  have hlen := h.vers.1
  obtain ⟨hn0, hn1⟩ := hn
  have hneg : ¬ now < 0 := by omega
  have hd0 : decide (now < 0) = false := decide_eq_false hneg
  rcases Nat.eq_zero_or_pos V.length with h0 | h0
  · obtain rfl : V = [] := List.eq_nil_of_length_eq_zero h0
    rw [mayV_nil now hn0]
    obtain ⟨A, c, rfl⟩ := Sl.form (Sl.of_own h.row)
    simp only [hlen, List.length_nil] at c1 F1 F2 ⊢
    have hh4 : decide (4 ≤ 0) = false := by decide
    rw [hh4] at F2
    have HC1 := Lib.hid (fun W (hW : Chg [] w W) => hW.cell c1 (by simp))
    clear h hok hlen h0
    go_enter Tryz.func80, Tryz.ntmps80
    go_wp2_with fail
    refine (F1.out w (Chg.refl _ _)).mono ?_
    rintro e w1 ⟨rfl, rfl⟩
    go_wp2_with fail
    refine wp_region_chg (by kernel_rfl) (by kernel_rfl) ?_
    (with_reducible refine wpQuiet_pure (v := ?_) ?_ (fun w => ?_) ?_); rotate_left; (focus rfl); (focus (go_simp <;> with_reducible rfl)); (try simp only [List.getElem_toArray, List.getElem_cons_succ, List.getElem_cons_zero, Act.put, List.setIfInBounds_toArray, List.set_cons_zero, List.set_cons_succ])
    (with_reducible refine wpQuiet_pure (v := ?_) ?_ (fun w => ?_) ?_); rotate_left; (focus rfl); (focus (go_simp <;> with_reducible rfl)); (try simp only [List.getElem_toArray, List.getElem_cons_succ, List.getElem_cons_zero, Act.put, List.setIfInBounds_toArray, List.set_cons_zero, List.set_cons_succ])
    (try simp only [hd0])
    (with_reducible refine wpQuiet_pure (v := ?_) ?_ (fun w => ?_) ?_); rotate_left; (focus rfl); (focus (go_simp <;> with_reducible rfl)); (try simp only [List.getElem_toArray, List.getElem_cons_succ, List.getElem_cons_zero, Act.put, List.setIfInBounds_toArray, List.set_cons_zero, List.set_cons_succ])
    (with_reducible refine wpQuiet_pure (v := ?_) ?_ (fun w => ?_) ?_); rotate_left; (focus rfl); (focus (go_simp <;> with_reducible rfl)); (try simp only [List.getElem_toArray, List.getElem_cons_succ, List.getElem_cons_zero, Act.put, List.setIfInBounds_toArray, List.set_cons_zero, List.set_cons_succ])
    (with_reducible refine wpQuiet_pure (v := ?_) ?_ (fun w => ?_) ?_); rotate_left; (focus rfl); (focus (go_simp <;> with_reducible rfl)); (try simp only [List.getElem_toArray, List.getElem_cons_succ, List.getElem_cons_zero, Act.put, List.setIfInBounds_toArray, List.set_cons_zero, List.set_cons_succ])
    (with_reducible refine wpQuiet_pure (v := ?_) ?_ (fun w => ?_) ?_); rotate_left; (focus rfl); (focus (go_simp <;> with_reducible rfl)); (try simp only [List.getElem_toArray, List.getElem_cons_succ, List.getElem_cons_zero, Act.put, List.setIfInBounds_toArray, List.set_cons_zero, List.set_cons_succ])
    (with_reducible refine wpQuiet_cellC 34 (.tmp 18) ?_ ?_ hp 1 ?_ (.slice A 0 c) _ HC1.out Tryz.underlying34 ?_ ?_); (focus rfl); (focus rfl); (focus rfl); (focus rfl); (try simp only [List.getElem_toArray, List.getElem_cons_succ, List.getElem_cons_zero, Act.put, List.setIfInBounds_toArray, List.set_cons_zero, List.set_cons_succ])
    (with_reducible refine wpQuiet_pure (v := ?_) ?_ (fun w => ?_) ?_); rotate_left; (focus rfl); (focus (go_simp <;> with_reducible rfl)); (try simp only [List.getElem_toArray, List.getElem_cons_succ, List.getElem_cons_zero, Act.put, List.setIfInBounds_toArray, List.set_cons_zero, List.set_cons_succ])
    (with_reducible refine wpQuiet_pure (v := ?_) ?_ (fun w => ?_) ?_); rotate_left; (focus rfl); (focus (go_simp <;> with_reducible rfl)); (try simp only [List.getElem_toArray, List.getElem_cons_succ, List.getElem_cons_zero, Act.put, List.setIfInBounds_toArray, List.set_cons_zero, List.set_cons_succ])
    (with_reducible refine wpQuiet_pure (v := ?_) ?_ (fun w => ?_) ?_); rotate_left; (focus rfl); (focus (go_simp <;> with_reducible rfl)); (try simp only [List.getElem_toArray, List.getElem_cons_succ, List.getElem_cons_zero, Act.put, List.setIfInBounds_toArray, List.set_cons_zero, List.set_cons_succ])
    (with_reducible refine wpQuiet_skip ?_ ?_); (focus rfl); (try simp only [List.getElem_toArray, List.getElem_cons_succ, List.getElem_cons_zero, Act.put, List.setIfInBounds_toArray, List.set_cons_zero, List.set_cons_succ])
    (with_reducible refine wpQuiet_skip ?_ ?_); (focus rfl); (try simp only [List.getElem_toArray, List.getElem_cons_succ, List.getElem_cons_zero, Act.put, List.setIfInBounds_toArray, List.set_cons_zero, List.set_cons_succ])
    (with_reducible refine wpQuiet_skip ?_ ?_); (focus rfl); (try simp only [List.getElem_toArray, List.getElem_cons_succ, List.getElem_cons_zero, Act.put, List.setIfInBounds_toArray, List.set_cons_zero, List.set_cons_succ])
    (with_reducible refine wpQuiet_skip ?_ ?_); (focus rfl); (try simp only [List.getElem_toArray, List.getElem_cons_succ, List.getElem_cons_zero, Act.put, List.setIfInBounds_toArray, List.set_cons_zero, List.set_cons_succ])
    (with_reducible refine wpQuiet_skip ?_ ?_); (focus rfl); (try simp only [List.getElem_toArray, List.getElem_cons_succ, List.getElem_cons_zero, Act.put, List.setIfInBounds_toArray, List.set_cons_zero, List.set_cons_succ])
    (with_reducible refine wpQuiet_skip ?_ ?_); (focus rfl); (try simp only [List.getElem_toArray, List.getElem_cons_succ, List.getElem_cons_zero, Act.put, List.setIfInBounds_toArray, List.set_cons_zero, List.set_cons_succ])
    (with_reducible refine wpQuiet_skip ?_ ?_); (focus rfl); (try simp only [List.getElem_toArray, List.getElem_cons_succ, List.getElem_cons_zero, Act.put, List.setIfInBounds_toArray, List.set_cons_zero, List.set_cons_succ])
    (with_reducible refine wpQuiet_skip ?_ ?_); (focus rfl); (try simp only [List.getElem_toArray, List.getElem_cons_succ, List.getElem_cons_zero, Act.put, List.setIfInBounds_toArray, List.set_cons_zero, List.set_cons_succ])
    (with_reducible refine wpQuiet_skip ?_ ?_); (focus rfl); (try simp only [List.getElem_toArray, List.getElem_cons_succ, List.getElem_cons_zero, Act.put, List.setIfInBounds_toArray, List.set_cons_zero, List.set_cons_succ])
    (with_reducible refine wpQuiet_skip ?_ ?_); (focus rfl); (try simp only [List.getElem_toArray, List.getElem_cons_succ, List.getElem_cons_zero, Act.put, List.setIfInBounds_toArray, List.set_cons_zero, List.set_cons_succ])
    (with_reducible refine wpQuiet_skip ?_ ?_); (focus rfl); (try simp only [List.getElem_toArray, List.getElem_cons_succ, List.getElem_cons_zero, Act.put, List.setIfInBounds_toArray, List.set_cons_zero, List.set_cons_succ])
    (with_reducible refine wpQuiet_skip ?_ ?_); (focus rfl); (try simp only [List.getElem_toArray, List.getElem_cons_succ, List.getElem_cons_zero, Act.put, List.setIfInBounds_toArray, List.set_cons_zero, List.set_cons_succ])
    (with_reducible refine wpQuiet_skip ?_ ?_); (focus rfl); (try simp only [List.getElem_toArray, List.getElem_cons_succ, List.getElem_cons_zero, Act.put, List.setIfInBounds_toArray, List.set_cons_zero, List.set_cons_succ])
    (with_reducible refine wpQuiet_skip ?_ ?_); (focus rfl); (try simp only [List.getElem_toArray, List.getElem_cons_succ, List.getElem_cons_zero, Act.put, List.setIfInBounds_toArray, List.set_cons_zero, List.set_cons_succ])
    (with_reducible refine wpQuiet_skip ?_ ?_); (focus rfl); (try simp only [List.getElem_toArray, List.getElem_cons_succ, List.getElem_cons_zero, Act.put, List.setIfInBounds_toArray, List.set_cons_zero, List.set_cons_succ])
    (with_reducible refine wpQuiet_pure (v := ?_) ?_ (fun w => ?_) ?_); rotate_left; (focus rfl); (focus (go_simp <;> with_reducible rfl)); (try simp only [List.getElem_toArray, List.getElem_cons_succ, List.getElem_cons_zero, Act.put, List.setIfInBounds_toArray, List.set_cons_zero, List.set_cons_succ])
    (with_reducible refine wpQuiet_pure (v := ?_) ?_ (fun w => ?_) ?_); rotate_left; (focus rfl); (focus (go_simp <;> with_reducible rfl)); (try simp only [List.getElem_toArray, List.getElem_cons_succ, List.getElem_cons_zero, Act.put, List.setIfInBounds_toArray, List.set_cons_zero, List.set_cons_succ])
    (with_reducible refine wpQuiet_pure (v := ?_) ?_ (fun w => ?_) ?_); rotate_left; (focus rfl); (focus (go_simp <;> with_reducible rfl)); (try simp only [List.getElem_toArray, List.getElem_cons_succ, List.getElem_cons_zero, Act.put, List.setIfInBounds_toArray, List.set_cons_zero, List.set_cons_succ])
    refine wpQuiet_nil ?_
    intro w1 hc1
    go_wp2_with fail
    refine (F2.out w1 hc1).mono ?_
    rintro e w2 ⟨rfl, rfl⟩
    go_wp2_with fail
    go_ret
    exact ⟨rfl, hc1⟩
  · obtain ⟨x, hx⟩ : ∃ x, V[V.length - 1]? = some x := ⟨_, List.getElem?_eq_getElem (by omega)⟩
    obtain ⟨y, hy⟩ : ∃ y, V[0]? = some y := ⟨_, List.getElem?_eq_getElem (by omega)⟩
    rw [mayV_of hn0 hx hy]
    have hlen4 := hok.len
    have hyo := hok.rng y (List.mem_of_getElem? hy)
    have F3 := Lib.hid (fun W (hW : Chg [] w W) => neededH_any (h.chg0 hW) now hy ⟨hn0, hn1⟩ (by omega))
    obtain ⟨b, o, c, e, rfl, hc, _, _, _, d1, _, _⟩ := h.at_ hx
    clear h hok hlen hx hy hyo
    obtain ⟨xn, xf, xu, xt⟩ := x
    obtain ⟨yn, yf, yu, yt⟩ := y
    simp only at d1 F3 ⊢
    generalize V.length = n at *
    have hgt : (0 : Int) < (n : Int) := by omega
    obtain ⟨m, rfl⟩ : ∃ m, n = m + 1 := ⟨n - 1, by omega⟩
    simp only [Nat.add_sub_cancel] at d1
    have hwm : IntKind.i64.wrap (m : Int) = (m : Int) := by rw [IntKind.wrap_i64]; omega
    have hml : (m : Int) < (m : Int) + 1 := by omega
    have hgd1 : decide ((0 : Int) < (m : Int) + 1) = true := decide_eq_true (by omega)
    have hgd2 : decide ((0 : Int) < ((m + 1 : Nat) : Int)) = true := decide_eq_true (by omega)
    have hm1 : ((m + 1 : Nat) : Int) - 1 = (m : Int) := by omega
    have HC1 := Lib.hid (fun W (hW : Chg [] w W) => hW.cell c1 (by simp))
    have HD1 := Lib.hid (fun W (hW : Chg [] w W) => hW.cell d1 (by simp))
    by_cases hlt : now < xf
    · simp only [hlt, if_true, ↓reduceIte]
      go_enter Tryz.func80, Tryz.ntmps80
      go_wp2_with fail
      refine (F1.out w (Chg.refl _ _)).mono ?_
      rintro e w1 ⟨rfl, rfl⟩
      go_wp2_with fail
      refine wp_region_chg (by kernel_rfl) (by kernel_rfl) ?_
      (with_reducible refine wpQuiet_pure (v := ?_) ?_ (fun w => ?_) ?_); rotate_left; (focus rfl); (focus (go_simp <;> with_reducible rfl)); (try simp only [List.getElem_toArray, List.getElem_cons_succ, List.getElem_cons_zero, Act.put, List.setIfInBounds_toArray, List.set_cons_zero, List.set_cons_succ])
      (with_reducible refine wpQuiet_pure (v := ?_) ?_ (fun w => ?_) ?_); rotate_left; (focus rfl); (focus (go_simp <;> with_reducible rfl)); (try simp only [List.getElem_toArray, List.getElem_cons_succ, List.getElem_cons_zero, Act.put, List.setIfInBounds_toArray, List.set_cons_zero, List.set_cons_succ])
      (try simp only [hd0])
      (with_reducible refine wpQuiet_pure (v := ?_) ?_ (fun w => ?_) ?_); rotate_left; (focus rfl); (focus (go_simp <;> with_reducible rfl)); (try simp only [List.getElem_toArray, List.getElem_cons_succ, List.getElem_cons_zero, Act.put, List.setIfInBounds_toArray, List.set_cons_zero, List.set_cons_succ])
      (with_reducible refine wpQuiet_pure (v := ?_) ?_ (fun w => ?_) ?_); rotate_left; (focus rfl); (focus (go_simp <;> with_reducible rfl)); (try simp only [List.getElem_toArray, List.getElem_cons_succ, List.getElem_cons_zero, Act.put, List.setIfInBounds_toArray, List.set_cons_zero, List.set_cons_succ])
      (with_reducible refine wpQuiet_pure (v := ?_) ?_ (fun w => ?_) ?_); rotate_left; (focus rfl); (focus (go_simp <;> with_reducible rfl)); (try simp only [List.getElem_toArray, List.getElem_cons_succ, List.getElem_cons_zero, Act.put, List.setIfInBounds_toArray, List.set_cons_zero, List.set_cons_succ])
      (with_reducible refine wpQuiet_pure (v := ?_) ?_ (fun w => ?_) ?_); rotate_left; (focus rfl); (focus (go_simp <;> with_reducible rfl)); (try simp only [List.getElem_toArray, List.getElem_cons_succ, List.getElem_cons_zero, Act.put, List.setIfInBounds_toArray, List.set_cons_zero, List.set_cons_succ])
      (with_reducible refine wpQuiet_cellC 34 (.tmp 18) ?_ ?_ hp 1 ?_ (.slice (some ⟨b, o, none⟩) (m + 1) c) _ HC1.out Tryz.underlying34 ?_ ?_); (focus rfl); (focus rfl); (focus rfl); (focus rfl); (try simp only [List.getElem_toArray, List.getElem_cons_succ, List.getElem_cons_zero, Act.put, List.setIfInBounds_toArray, List.set_cons_zero, List.set_cons_succ])
      (with_reducible refine wpQuiet_pure (v := ?_) ?_ (fun w => ?_) ?_); rotate_left; (focus rfl); (focus (go_simp <;> with_reducible rfl)); (try simp only [List.getElem_toArray, List.getElem_cons_succ, List.getElem_cons_zero, Act.put, List.setIfInBounds_toArray, List.set_cons_zero, List.set_cons_succ])
      (with_reducible refine wpQuiet_pure (v := ?_) ?_ (fun w => ?_) ?_); rotate_left; (focus rfl); (focus (go_simp <;> with_reducible rfl)); (try simp only [List.getElem_toArray, List.getElem_cons_succ, List.getElem_cons_zero, Act.put, List.setIfInBounds_toArray, List.set_cons_zero, List.set_cons_succ])
      (try simp only [hgd1, hgd2])
      (with_reducible refine wpQuiet_pure (v := ?_) ?_ (fun w => ?_) ?_); rotate_left; (focus rfl); (focus (go_simp <;> with_reducible rfl)); (try simp only [List.getElem_toArray, List.getElem_cons_succ, List.getElem_cons_zero, Act.put, List.setIfInBounds_toArray, List.set_cons_zero, List.set_cons_succ])
      (with_reducible refine wpQuiet_pure (v := ?_) ?_ (fun w => ?_) ?_); rotate_left; (focus rfl); (focus (go_simp <;> with_reducible rfl)); (try simp only [List.getElem_toArray, List.getElem_cons_succ, List.getElem_cons_zero, Act.put, List.setIfInBounds_toArray, List.set_cons_zero, List.set_cons_succ])
      (with_reducible refine wpQuiet_pure (v := ?_) ?_ (fun w => ?_) ?_); rotate_left; (focus rfl); (focus (go_simp <;> with_reducible rfl)); (try simp only [List.getElem_toArray, List.getElem_cons_succ, List.getElem_cons_zero, Act.put, List.setIfInBounds_toArray, List.set_cons_zero, List.set_cons_succ])
      (with_reducible refine wpQuiet_pure (v := ?_) ?_ (fun w => ?_) ?_); rotate_left; (focus rfl); (focus (go_simp <;> with_reducible rfl)); (try simp only [List.getElem_toArray, List.getElem_cons_succ, List.getElem_cons_zero, Act.put, List.setIfInBounds_toArray, List.set_cons_zero, List.set_cons_succ])
      (with_reducible refine wpQuiet_pure (v := ?_) ?_ (fun w => ?_) ?_); rotate_left; (focus rfl); (focus (go_simp <;> with_reducible rfl)); (try simp only [List.getElem_toArray, List.getElem_cons_succ, List.getElem_cons_zero, Act.put, List.setIfInBounds_toArray, List.set_cons_zero, List.set_cons_succ])
      (with_reducible refine wpQuiet_cellC 34 (.tmp 26) ?_ ?_ hp 1 ?_ (.slice (some ⟨b, o, none⟩) (m + 1) c) _ HC1.out Tryz.underlying34 ?_ ?_); (focus rfl); (focus rfl); (focus rfl); (focus rfl); (try simp only [List.getElem_toArray, List.getElem_cons_succ, List.getElem_cons_zero, Act.put, List.setIfInBounds_toArray, List.set_cons_zero, List.set_cons_succ])
      (with_reducible refine wpQuiet_pure (v := ?_) ?_ (fun w => ?_) ?_); rotate_left; (focus rfl); (focus (go_simp <;> with_reducible rfl)); (try simp only [List.getElem_toArray, List.getElem_cons_succ, List.getElem_cons_zero, Act.put, List.setIfInBounds_toArray, List.set_cons_zero, List.set_cons_succ])
      (with_reducible refine wpQuiet_pure (v := ?_) ?_ (fun w => ?_) ?_); rotate_left; (focus rfl); (focus (go_simp <;> with_reducible rfl)); (try simp only [List.getElem_toArray, List.getElem_cons_succ, List.getElem_cons_zero, Act.put, List.setIfInBounds_toArray, List.set_cons_zero, List.set_cons_succ])
      (with_reducible refine wpQuiet_pure (v := ?_) ?_ (fun w => ?_) ?_); rotate_left; (focus rfl); (focus (go_simp <;> with_reducible rfl)); (try simp only [List.getElem_toArray, List.getElem_cons_succ, List.getElem_cons_zero, Act.put, List.setIfInBounds_toArray, List.set_cons_zero, List.set_cons_succ])
      (with_reducible refine wpQuiet_cellC 34 (.tmp 30) ?_ ?_ hp 1 ?_ (.slice (some ⟨b, o, none⟩) (m + 1) c) _ HC1.out Tryz.underlying34 ?_ ?_); (focus rfl); (focus rfl); (focus rfl); (focus rfl); (try simp only [List.getElem_toArray, List.getElem_cons_succ, List.getElem_cons_zero, Act.put, List.setIfInBounds_toArray, List.set_cons_zero, List.set_cons_succ])
      (with_reducible refine wpQuiet_pure (v := ?_) ?_ (fun w => ?_) ?_); rotate_left; (focus rfl); (focus (go_simp <;> with_reducible rfl)); (try simp only [List.getElem_toArray, List.getElem_cons_succ, List.getElem_cons_zero, Act.put, List.setIfInBounds_toArray, List.set_cons_zero, List.set_cons_succ])
      (with_reducible refine wpQuiet_pure (v := ?_) ?_ (fun w => ?_) ?_); rotate_left; (focus rfl); (focus (go_simp <;> with_reducible rfl)); (try simp only [List.getElem_toArray, List.getElem_cons_succ, List.getElem_cons_zero, Act.put, List.setIfInBounds_toArray, List.set_cons_zero, List.set_cons_succ])
      (with_reducible refine wpQuiet_pure (v := ?_) ?_ (fun w => ?_) ?_); rotate_left; (focus rfl); (focus (go_simp <;> with_reducible rfl)); (try simp only [List.getElem_toArray, List.getElem_cons_succ, List.getElem_cons_zero, Act.put, List.setIfInBounds_toArray, List.set_cons_zero, List.set_cons_succ])
      (with_reducible refine wpQuiet_pure (v := ?_) ?_ (fun w => ?_) ?_); rotate_left; (focus rfl); (focus (go_simp <;> with_reducible rfl)); (try simp only [List.getElem_toArray, List.getElem_cons_succ, List.getElem_cons_zero, Act.put, List.setIfInBounds_toArray, List.set_cons_zero, List.set_cons_succ])
      (with_reducible refine wpQuiet_cellC 3 (.tmp 35) ?_ ?_ b (o + m * 4 + 1) ?_ (.int .i64 xf) _ HD1.out Tryz.underlying3 ?_ ?_); (focus rfl); (focus rfl); (focus rfl); (focus rfl); (try simp only [List.getElem_toArray, List.getElem_cons_succ, List.getElem_cons_zero, Act.put, List.setIfInBounds_toArray, List.set_cons_zero, List.set_cons_succ])
      (with_reducible refine wpQuiet_pure (v := ?_) ?_ (fun w => ?_) ?_); rotate_left; (focus rfl); (focus (go_simp <;> with_reducible rfl)); (try simp only [List.getElem_toArray, List.getElem_cons_succ, List.getElem_cons_zero, Act.put, List.setIfInBounds_toArray, List.set_cons_zero, List.set_cons_succ])
      (with_reducible refine wpQuiet_pure (v := ?_) ?_ (fun w => ?_) ?_); rotate_left; (focus rfl); (focus (go_simp <;> with_reducible rfl)); (try simp only [List.getElem_toArray, List.getElem_cons_succ, List.getElem_cons_zero, Act.put, List.setIfInBounds_toArray, List.set_cons_zero, List.set_cons_succ])
      (with_reducible refine wpQuiet_pure (v := ?_) ?_ (fun w => ?_) ?_); rotate_left; (focus rfl); (focus (go_simp <;> with_reducible rfl)); (try simp only [List.getElem_toArray, List.getElem_cons_succ, List.getElem_cons_zero, Act.put, List.setIfInBounds_toArray, List.set_cons_zero, List.set_cons_succ])
      (with_reducible refine wpQuiet_pure (v := ?_) ?_ (fun w => ?_) ?_); rotate_left; (focus rfl); (focus (go_simp <;> with_reducible rfl)); (try simp only [List.getElem_toArray, List.getElem_cons_succ, List.getElem_cons_zero, Act.put, List.setIfInBounds_toArray, List.set_cons_zero, List.set_cons_succ])
      refine wpQuiet_nil ?_
      intro w1 hc1
      go_wp2_with fail
      go_ret
      exact ⟨rfl, hc1⟩
    · simp only [hlt, if_false, ↓reduceIte]
      go_enter Tryz.func80, Tryz.ntmps80
      go_wp2_with fail
      refine (F1.out w (Chg.refl _ _)).mono ?_
      rintro e w1 ⟨rfl, rfl⟩
      go_wp2_with fail
      refine wp_region_chg (by kernel_rfl) (by kernel_rfl) ?_
      (with_reducible refine wpQuiet_pure (v := ?_) ?_ (fun w => ?_) ?_); rotate_left; (focus rfl); (focus (go_simp <;> with_reducible rfl)); (try simp only [List.getElem_toArray, List.getElem_cons_succ, List.getElem_cons_zero, Act.put, List.setIfInBounds_toArray, List.set_cons_zero, List.set_cons_succ])
      (with_reducible refine wpQuiet_pure (v := ?_) ?_ (fun w => ?_) ?_); rotate_left; (focus rfl); (focus (go_simp <;> with_reducible rfl)); (try simp only [List.getElem_toArray, List.getElem_cons_succ, List.getElem_cons_zero, Act.put, List.setIfInBounds_toArray, List.set_cons_zero, List.set_cons_succ])
      (try simp only [hd0])
      (with_reducible refine wpQuiet_pure (v := ?_) ?_ (fun w => ?_) ?_); rotate_left; (focus rfl); (focus (go_simp <;> with_reducible rfl)); (try simp only [List.getElem_toArray, List.getElem_cons_succ, List.getElem_cons_zero, Act.put, List.setIfInBounds_toArray, List.set_cons_zero, List.set_cons_succ])
      (with_reducible refine wpQuiet_pure (v := ?_) ?_ (fun w => ?_) ?_); rotate_left; (focus rfl); (focus (go_simp <;> with_reducible rfl)); (try simp only [List.getElem_toArray, List.getElem_cons_succ, List.getElem_cons_zero, Act.put, List.setIfInBounds_toArray, List.set_cons_zero, List.set_cons_succ])
      (with_reducible refine wpQuiet_pure (v := ?_) ?_ (fun w => ?_) ?_); rotate_left; (focus rfl); (focus (go_simp <;> with_reducible rfl)); (try simp only [List.getElem_toArray, List.getElem_cons_succ, List.getElem_cons_zero, Act.put, List.setIfInBounds_toArray, List.set_cons_zero, List.set_cons_succ])
      (with_reducible refine wpQuiet_pure (v := ?_) ?_ (fun w => ?_) ?_); rotate_left; (focus rfl); (focus (go_simp <;> with_reducible rfl)); (try simp only [List.getElem_toArray, List.getElem_cons_succ, List.getElem_cons_zero, Act.put, List.setIfInBounds_toArray, List.set_cons_zero, List.set_cons_succ])
      (with_reducible refine wpQuiet_cellC 34 (.tmp 18) ?_ ?_ hp 1 ?_ (.slice (some ⟨b, o, none⟩) (m + 1) c) _ HC1.out Tryz.underlying34 ?_ ?_); (focus rfl); (focus rfl); (focus rfl); (focus rfl); (try simp only [List.getElem_toArray, List.getElem_cons_succ, List.getElem_cons_zero, Act.put, List.setIfInBounds_toArray, List.set_cons_zero, List.set_cons_succ])
      (with_reducible refine wpQuiet_pure (v := ?_) ?_ (fun w => ?_) ?_); rotate_left; (focus rfl); (focus (go_simp <;> with_reducible rfl)); (try simp only [List.getElem_toArray, List.getElem_cons_succ, List.getElem_cons_zero, Act.put, List.setIfInBounds_toArray, List.set_cons_zero, List.set_cons_succ])
      (with_reducible refine wpQuiet_pure (v := ?_) ?_ (fun w => ?_) ?_); rotate_left; (focus rfl); (focus (go_simp <;> with_reducible rfl)); (try simp only [List.getElem_toArray, List.getElem_cons_succ, List.getElem_cons_zero, Act.put, List.setIfInBounds_toArray, List.set_cons_zero, List.set_cons_succ])
      (try simp only [hgd1, hgd2])
      (with_reducible refine wpQuiet_pure (v := ?_) ?_ (fun w => ?_) ?_); rotate_left; (focus rfl); (focus (go_simp <;> with_reducible rfl)); (try simp only [List.getElem_toArray, List.getElem_cons_succ, List.getElem_cons_zero, Act.put, List.setIfInBounds_toArray, List.set_cons_zero, List.set_cons_succ])
      (with_reducible refine wpQuiet_pure (v := ?_) ?_ (fun w => ?_) ?_); rotate_left; (focus rfl); (focus (go_simp <;> with_reducible rfl)); (try simp only [List.getElem_toArray, List.getElem_cons_succ, List.getElem_cons_zero, Act.put, List.setIfInBounds_toArray, List.set_cons_zero, List.set_cons_succ])
      (with_reducible refine wpQuiet_pure (v := ?_) ?_ (fun w => ?_) ?_); rotate_left; (focus rfl); (focus (go_simp <;> with_reducible rfl)); (try simp only [List.getElem_toArray, List.getElem_cons_succ, List.getElem_cons_zero, Act.put, List.setIfInBounds_toArray, List.set_cons_zero, List.set_cons_succ])
      (with_reducible refine wpQuiet_pure (v := ?_) ?_ (fun w => ?_) ?_); rotate_left; (focus rfl); (focus (go_simp <;> with_reducible rfl)); (try simp only [List.getElem_toArray, List.getElem_cons_succ, List.getElem_cons_zero, Act.put, List.setIfInBounds_toArray, List.set_cons_zero, List.set_cons_succ])
      (with_reducible refine wpQuiet_pure (v := ?_) ?_ (fun w => ?_) ?_); rotate_left; (focus rfl); (focus (go_simp <;> with_reducible rfl)); (try simp only [List.getElem_toArray, List.getElem_cons_succ, List.getElem_cons_zero, Act.put, List.setIfInBounds_toArray, List.set_cons_zero, List.set_cons_succ])
      (with_reducible refine wpQuiet_cellC 34 (.tmp 26) ?_ ?_ hp 1 ?_ (.slice (some ⟨b, o, none⟩) (m + 1) c) _ HC1.out Tryz.underlying34 ?_ ?_); (focus rfl); (focus rfl); (focus rfl); (focus rfl); (try simp only [List.getElem_toArray, List.getElem_cons_succ, List.getElem_cons_zero, Act.put, List.setIfInBounds_toArray, List.set_cons_zero, List.set_cons_succ])
      (with_reducible refine wpQuiet_pure (v := ?_) ?_ (fun w => ?_) ?_); rotate_left; (focus rfl); (focus (go_simp <;> with_reducible rfl)); (try simp only [List.getElem_toArray, List.getElem_cons_succ, List.getElem_cons_zero, Act.put, List.setIfInBounds_toArray, List.set_cons_zero, List.set_cons_succ])
      (with_reducible refine wpQuiet_pure (v := ?_) ?_ (fun w => ?_) ?_); rotate_left; (focus rfl); (focus (go_simp <;> with_reducible rfl)); (try simp only [List.getElem_toArray, List.getElem_cons_succ, List.getElem_cons_zero, Act.put, List.setIfInBounds_toArray, List.set_cons_zero, List.set_cons_succ])
      (with_reducible refine wpQuiet_pure (v := ?_) ?_ (fun w => ?_) ?_); rotate_left; (focus rfl); (focus (go_simp <;> with_reducible rfl)); (try simp only [List.getElem_toArray, List.getElem_cons_succ, List.getElem_cons_zero, Act.put, List.setIfInBounds_toArray, List.set_cons_zero, List.set_cons_succ])
      (with_reducible refine wpQuiet_cellC 34 (.tmp 30) ?_ ?_ hp 1 ?_ (.slice (some ⟨b, o, none⟩) (m + 1) c) _ HC1.out Tryz.underlying34 ?_ ?_); (focus rfl); (focus rfl); (focus rfl); (focus rfl); (try simp only [List.getElem_toArray, List.getElem_cons_succ, List.getElem_cons_zero, Act.put, List.setIfInBounds_toArray, List.set_cons_zero, List.set_cons_succ])
      (with_reducible refine wpQuiet_pure (v := ?_) ?_ (fun w => ?_) ?_); rotate_left; (focus rfl); (focus (go_simp <;> with_reducible rfl)); (try simp only [List.getElem_toArray, List.getElem_cons_succ, List.getElem_cons_zero, Act.put, List.setIfInBounds_toArray, List.set_cons_zero, List.set_cons_succ])
      (with_reducible refine wpQuiet_pure (v := ?_) ?_ (fun w => ?_) ?_); rotate_left; (focus rfl); (focus (go_simp <;> with_reducible rfl)); (try simp only [List.getElem_toArray, List.getElem_cons_succ, List.getElem_cons_zero, Act.put, List.setIfInBounds_toArray, List.set_cons_zero, List.set_cons_succ])
      (with_reducible refine wpQuiet_pure (v := ?_) ?_ (fun w => ?_) ?_); rotate_left; (focus rfl); (focus (go_simp <;> with_reducible rfl)); (try simp only [List.getElem_toArray, List.getElem_cons_succ, List.getElem_cons_zero, Act.put, List.setIfInBounds_toArray, List.set_cons_zero, List.set_cons_succ])
      (with_reducible refine wpQuiet_pure (v := ?_) ?_ (fun w => ?_) ?_); rotate_left; (focus rfl); (focus (go_simp <;> with_reducible rfl)); (try simp only [List.getElem_toArray, List.getElem_cons_succ, List.getElem_cons_zero, Act.put, List.setIfInBounds_toArray, List.set_cons_zero, List.set_cons_succ])
      (with_reducible refine wpQuiet_cellC 3 (.tmp 35) ?_ ?_ b (o + m * 4 + 1) ?_ (.int .i64 xf) _ HD1.out Tryz.underlying3 ?_ ?_); (focus rfl); (focus rfl); (focus rfl); (focus rfl); (try simp only [List.getElem_toArray, List.getElem_cons_succ, List.getElem_cons_zero, Act.put, List.setIfInBounds_toArray, List.set_cons_zero, List.set_cons_succ])
      (with_reducible refine wpQuiet_pure (v := ?_) ?_ (fun w => ?_) ?_); rotate_left; (focus rfl); (focus (go_simp <;> with_reducible rfl)); (try simp only [List.getElem_toArray, List.getElem_cons_succ, List.getElem_cons_zero, Act.put, List.setIfInBounds_toArray, List.set_cons_zero, List.set_cons_succ])
      (with_reducible refine wpQuiet_pure (v := ?_) ?_ (fun w => ?_) ?_); rotate_left; (focus rfl); (focus (go_simp <;> with_reducible rfl)); (try simp only [List.getElem_toArray, List.getElem_cons_succ, List.getElem_cons_zero, Act.put, List.setIfInBounds_toArray, List.set_cons_zero, List.set_cons_succ])
      (with_reducible refine wpQuiet_pure (v := ?_) ?_ (fun w => ?_) ?_); rotate_left; (focus rfl); (focus (go_simp <;> with_reducible rfl)); (try simp only [List.getElem_toArray, List.getElem_cons_succ, List.getElem_cons_zero, Act.put, List.setIfInBounds_toArray, List.set_cons_zero, List.set_cons_succ])
      (with_reducible refine wpQuiet_pure (v := ?_) ?_ (fun w => ?_) ?_); rotate_left; (focus rfl); (focus (go_simp <;> with_reducible rfl)); (try simp only [List.getElem_toArray, List.getElem_cons_succ, List.getElem_cons_zero, Act.put, List.setIfInBounds_toArray, List.set_cons_zero, List.set_cons_succ])
      refine wpQuiet_nil ?_
      intro w1 hc1
      go_wp2_with fail
      refine (F2.out w1 hc1).mono ?_
      rintro e w2 ⟨rfl, rfl⟩
      by_cases h4 : 4 ≤ m + 1
      · simp only [h4, decide_true]
        go_wp2_with fail
        refine (F3.out w1 hc1).mono ?_
        rintro e w3 ⟨rfl, rfl⟩
        by_cases h16 : now - yu < 16
        · simp only [h16, decide_true]
          go_wp2_with fail
          go_ret
          exact ⟨by simp, hc1⟩
        · simp only [h16, decide_false]
          go_wp2_with fail
          go_ret
          exact ⟨by simp, hc1⟩
      · simp only [h4, decide_false]
        go_wp2_with fail
        go_ret
        exact ⟨by simp, hc1⟩
theorem newH_any (w : World) : Calls Tryz.prog 19 #[] w fun e w' => e = .returned (.pointer (some ⟨w.heap.size, 0, none⟩)) ∧ w' = w.alloc (.cells #[.bool true, .slice none 0 0, .int .i64 0] 89) := by
  go_enter Tryz.func19, Tryz.ntmps19
  go_wp2_with fail
  go_ret
  exact ⟨rfl, rfl⟩
end Go.Proofs.YtecblclpchndiaaGreat
namespace Go.Proofs.YtecblclpchndiaaGreat
open Go.RowKit

/-- A cell loaded, as one step of a region that draws its order. -/
theorem step_cellP {P : Program} {ops : Array Oper} {op : Oper} {a : Act} {w : World} {K : Act → World → Prop} {Q : Exit → Act → World → Prop} {E : Prop} (hgd : op.guard = none) (ty : TypeId) (x : Operand) (ho : op.op = .load ty x) (b off : Nat) (hx : a.eval x = .pointer (some ⟨b, off, none⟩)) (v : Value) (d : TypeDesc)
    (hS : w.cell? ⟨b, off, none⟩ = some v) (hu : P.underlying ty = some d) (hd : d.isRow = false) (h : K (a.put op.dst v) w) : if Region.wanted op (yielded ops a.tmps) = true then Oper.wp P op a w K Q else E := by
  rw [if_pos (by simp [Region.wanted, hgd])]
  unfold Oper.wp execOp
  simp only [ho, hx, Instr.loadAt, Instr.sureAddr, Sem.run_bind, Sem.run_pure, Result.andThen_ok, run_loadVar_one w _ ty d v hS hu hd]
  exact h
theorem oneZ (l : List Int) : ∀ u ∈ l.map (Value.int .i64), u.oneCell' = true := by
  intro u hu
  obtain ⟨x, _, rfl⟩ := List.mem_map.1 hu
  rfl
set_option maxRecDepth 100000 in
set_option maxHeartbeats 1000000 in
theorem cloneZ_any {w : World} {B : Nat} {v : Value} {l : List Int} (h : SlZ w B v l) (hl : l.length ≤ 1000) :
    Calls Tryz.prog 69 #[v] w fun e w' => ∃ v', e = .returned v' ∧ w'.ownsRow w.heap.size 3 1 v' l.length (l.map (Value.int .i64)) ∧ Chg [] w w' := by
  obtain ⟨A, c, rfl⟩ := Sl.form h
  cases A with
  | none =>
    have h0 : l = [] := by
      obtain ⟨hl', A', c', hv, hcap, hx⟩ := h
      rcases Nat.eq_zero_or_pos l.length with e | e
      · exact List.eq_nil_of_length_eq_zero e
      · obtain ⟨b, o, hA, _⟩ := hx e
        simp only [Value.slice.injEq] at hv
        rw [← hv.1] at hA
        cases hA
    subst h0
    clear h
    have he := fun w => run_eql_slice_nil (P := Tryz.prog) Tryz.underlying38 w none 0 c
    simp only [Option.isNone_none, List.length_nil] at he ⊢
    go_enter Tryz.func69, Tryz.ntmps69
    go_wp2_with fail
    go_ret
    exact ⟨_, rfl, World.ownsRow_nil .., Chg.refl _ _⟩
  | some ad =>
    have he := fun w => run_eql_slice_nil (P := Tryz.prog) Tryz.underlying38 w (some ad) l.length c
    simp only [Option.isNone_some] at he
    have hA := (Chg.refl [] w).alloc (.cells #[] 3)
    have hown := own_lit (base := w.heap.size) w 3 1 0 #[] (Nat.le_refl _) (by simp [maxLen]) rfl
    have hs : Sl (w.alloc (.cells #[] 3)) B 1 (.slice (some ad) l.length c) l.length (l.map (Value.int .i64)) := h.chg0 hA
    have HI := Lib.hid (And.intro hA (And.intro hown hs))
    have HL := Lib.hid (own_lt hown)
    clear h hA hown hs
    have HB1 := Lib.hid (oneZ l)
    have HO : Hid (∀ (w' : World) v', w'.ownsRow w.heap.size 3 1 v' (0 + l.length) ((#[] : Array Value).toList ++ l.map (Value.int .i64)) → w'.ownsRow w.heap.size 3 1 v' l.length (l.map (Value.int .i64))) := Lib.hid fun w' v' h => by
      simpa using h
    go_enter Tryz.func69, Tryz.ntmps69
    go_wp2_with (first
      | (at_builtin; refine wpList_app elZ rfl (.tmp 5) (.tmp 6) rfl w.heap.size rfl HI.out.2.1 rfl HI.out.2.2 HB1.out (by unfold maxLen; omega) (by omega) (by simp) ?_; intro v1 w1 hown1 hc1 hb1)
      | fail)
    go_ret
    exact ⟨_, rfl, HO.out _ _ hown1, HI.out.1.trans' hc1 (fun x hx => .inr (HL.out x hx).1)⟩


theorem SlZ.at_ {w : World} {B : Nat} {v : Value} {l : List Int} (h : SlZ w B v l) {i : Nat} {x : Int} (hi : l[i]? = some x) :
    ∃ b o c, v = .slice (some ⟨b, o, none⟩) l.length c ∧ l.length ≤ c ∧ w.cell? ⟨b, o + i, none⟩ = some (.int .i64 x) := by
  have hl : i < l.length := (List.getElem?_eq_some_iff.1 hi).1
  obtain ⟨b, o, c, hv, _, _, hc, hq⟩ := SlZ.all h (by omega)
  refine ⟨b, o, c, hv, hc, ?_⟩
  rw [hq i hl, hi]
  rfl

set_option maxRecDepth 100000 in
set_option maxHeartbeats 2000000 in
theorem equalZ_any {w : World} {B B' : Nat} {v v' : Value} {l l' : List Int} (h : SlZ w B v l) (h' : SlZ w B' v' l') (hl : l.length ≤ 1000) :
    Calls Tryz.prog 79 #[v, v'] w fun e w' => e = .returned (.bool (decide (l = l'))) ∧ Chg [] w w' := by
  obtain ⟨A, c, rfl⟩ := Sl.form h
  obtain ⟨A', c', rfl⟩ := Sl.form h'
  have HS := Lib.hid (fun W (hW : Chg [] w W) i x hx => (h.chg0 hW).at_ (i := i) (x := x) hx)
  have HS' := Lib.hid (fun W (hW : Chg [] w W) i x hx => (h'.chg0 hW).at_ (i := i) (x := x) hx)
  clear h h'
  by_cases hlen : l.length = l'.length
  · have HX : Hid (∀ i, i < l.length → ∃ x y, l[i]? = some x ∧ l'[i]? = some y) := Lib.hid fun i hi => ⟨_, _, List.getElem?_eq_getElem hi, List.getElem?_eq_getElem (by omega)⟩
    have HE : Hid (l.take l.length = l'.take l.length → decide (l = l') = true) := Lib.hid fun e => by rw [List.take_length, hlen, List.take_length] at e; simp [e]
    have HN : Hid (∀ (i : Nat) x y, l[i]? = some x → l'[i]? = some y → x ≠ y → decide (l = l') = false) := Lib.hid fun i x y hx hy hn => decide_eq_false fun e => by subst e; rw [hx] at hy; exact hn (Option.some.inj hy)
    have HT : Hid (∀ (k : Nat) x, l[k]? = some x → l'[k]? = some x → l.take k = l'.take k → l.take (k + 1) = l'.take (k + 1)) := Lib.hid fun k x hx hy e => by rw [List.take_add_one, List.take_add_one, hx, hy, e]
    rw [← hlen] at HS'
    generalize hn : l.length = n at *
    rw [← hlen] 
    clear hlen
    go_enter Tryz.func79, Tryz.ntmps79
    go_wp2_with fail
    go_loopw [13] (fun iv wr => ∃ (k : Nat), k ≤ n ∧ iv = .int .i64 k ∧ Hid (l.take k = l'.take k) ∧ Hid (Chg [] w wr)) (fun iv _ => n - (intOf iv).toNat)
    case atStart => exact ⟨0, by omega, rfl, Lib.hid rfl, Lib.hid (Chg.refl _ _)⟩
    case round =>
      obtain ⟨k, hk, rfl, HQ, HC⟩ := hrel
      by_cases hlt : k < n
      · have hcn : (k : Int) < (n : Int) := by omega
        obtain ⟨x, y, hx, hy⟩ := HX.out k hlt
        obtain ⟨b, o, c2, hv, hcap, c0⟩ := HS.out wr HC.out k x hx
        obtain ⟨b', o', c2', hv', hcap', c0'⟩ := HS'.out wr HC.out k y hy
        simp only [Value.slice.injEq, true_and] at hv hv'
        obtain ⟨rfl, rfl⟩ := hv
        obtain ⟨rfl, rfl⟩ := hv'
        have HNk := Lib.hid (HN.out k x y hx hy)
        have HTk := Lib.hid (fun (e : x = y) => HT.out k x hx (by rw [e]; exact hy) HQ.out)
        clear hx hy HX HN HT HQ HE HS HS'
        by_cases hxy : x = y
        · have hxd : decide (x ≠ y) = false := by simp [hxy]
          have HTT := Lib.hid (HTk.out hxy)
          clear HNk HTk
          subst hxy
          go_upto_region 6 with fail
          go_region
          go_wp2_with fail
          go_roundw
          case rel => exact ⟨k + 1, by omega, by go_num, HTT, Lib.hid (Chg.drew HC.out)⟩
          case measure => simp [intOf] <;> omega
        · have HNN := Lib.hid (HNk.out hxy)
          clear HNk HTk
          go_upto_region 6 with fail
          go_region
          go_wp2_with fail
          go_ret
          exact ⟨by rw [HNN.out]; rfl, Chg.drew HC.out⟩
      · obtain rfl : k = n := by omega
        have hcn : ¬ (k : Int) < (k : Int) := by omega
        have HEE := Lib.hid (HE.out HQ.out)
        go_wp2_with fail
        go_ret
        exact ⟨by rw [HEE.out]; rfl, HC.out⟩
  · have hd : decide (l = l') = false := decide_eq_false fun e => hlen (by rw [e])
    have hne : ¬ (l.length : Int) = (l'.length : Int) := by omega
    rw [hd]
    clear HS HS'
    go_enter Tryz.func79, Tryz.ntmps79
    go_wp2_with fail
    go_ret
    exact ⟨rfl, Chg.refl _ _⟩
end Go.Proofs.YtecblclpchndiaaGreat
namespace Go.Proofs.YtecblclpchndiaaGreat
open Go.RowKit

def endV (now : Int) (x : Vs) : Vs := { x with unt := now }
/-- The newest one is no more the newest. -/
def closeV (V : List Vs) (now : Int) : List Vs := match V[V.length - 1]? with | some x => V.set (V.length - 1) (endV now x) | none => V
theorem closeV_at {V : List Vs} {now : Int} {m : Nat} {x : Vs} (hm : V.length = m + 1) (hx : V[m]? = some x) : closeV V now = V.set m (endV now x) := by
  unfold closeV
  rw [hm, Nat.add_sub_cancel, hx]
theorem own_set {w : World} {base size n g cap : Nat} {e : TypeId} {xs : List Value} (h : w.ownsRow base e size (.slice (some ⟨g, 0, none⟩) n cap) n xs) (j : Nat) (u : Value) : (w.setCell ⟨g, j, none⟩ u).ownsRow base e size (.slice (some ⟨g, 0, none⟩) n cap) n (xs.set j u) := by
  refine ⟨by rw [List.length_set]; exact h.1, ?_⟩
  rcases h.2 with ⟨hv, _⟩ | ⟨g', cap', cur, hv, hb, hB, h1, h2, h3, h4⟩
  · simp at hv
  · simp only [Value.slice.injEq, Option.some.injEq, Addr.mk.injEq, and_true, true_and] at hv
    obtain ⟨rfl, rfl⟩ := hv
    have hB' : Blk w g e cur := hB
    refine .inr ⟨g, cap, _, rfl, hb, hB'.set_ j u, h1, h2, by rw [Array.size_setIfInBounds]; exact h3, ?_⟩
    rw [Array.toList_setIfInBounds, List.take_set, h4]
/-- The versions behind one more. -/
def pushV (V : List Vs) (last now : Int) (tab : List Int) : List Vs := closeV (if 4 ≤ V.length then V.drop 1 else V) now ++ [⟨last + 1, now, -1, tab⟩]
theorem VeR.one {w : World} {S : List Nat} {e : Ve} {x : Vs} (h : VeR w S e x) : ∀ u ∈ encV e, u.oneCell' = true := by
  obtain ⟨A, c, hv⟩ := Sl.form h.tab.1
  intro u hu
  simp [encV, hv] at hu
  rcases hu with rfl | rfl | rfl | rfl <;> rfl
theorem VesR.one {w : World} {S : List Nat} {es : List Ve} {V : List Vs} (h : VesR w S es V) : ∀ u ∈ es.flatMap encV, u.oneCell' = true := by
  intro u hu
  obtain ⟨e, he, hu⟩ := List.mem_flatMap.1 hu
  obtain ⟨i, hi, rfl⟩ := List.mem_iff_getElem.1 he
  exact (h.2 i _ (V[i]'(by have := h.1; omega)) (List.getElem?_eq_getElem hi) (List.getElem?_eq_getElem _)).one u hu
theorem VesR.drop1 {w : World} {S : List Nat} {es : List Ve} {V : List Vs} (h : VesR w S es V) : VesR w S (es.drop 1) (V.drop 1) :=
  ⟨by simp [h.1], fun i e x a b => h.2 (1 + i) e x (by rw [← List.getElem?_drop]; exact a) (by rw [← List.getElem?_drop]; exact b)⟩
theorem HiR.close {w : World} {N hp g m cap : Nat} {S : List Nat} {es : List Ve} {V : List Vs} {last : Int} (h : HiR w N hp (.slice (some ⟨g, 0, none⟩) (m + 1) cap) S es V last) (hm : V.length = m + 1) {x : Vs} (hx : V[m]? = some x) (now : Int) :
    ∃ es2, HiR (w.setCell ⟨g, m * 4 + 2, none⟩ (.int .i64 now)) N hp (.slice (some ⟨g, 0, none⟩) (m + 1) cap) S es2 (closeV V now) last ∧ Chg [g] w (w.setCell ⟨g, m * 4 + 2, none⟩ (.int .i64 now)) := by
  have hl := h.vers.1
  have he : es[m]? = some (es[m]'(by omega)) := List.getElem?_eq_getElem _
  generalize es[m]'(by omega) = y at he
  have hgh : hp ≠ g := fun e => h.apart (by simp [Value.ownBlock, e])
  have hgS : g ∈ S := h.foot g (by simp [footH, Value.ownBlock])
  have hs : Chg [g] w (w.setCell ⟨g, m * 4 + 2, none⟩ (.int .i64 now)) := (Chg.refl [g] w).setCell (p := ⟨g, m * 4 + 2, none⟩) (.inl (by simp)) _
  have hvs := h.vers.step (hs.more (T := S) (by intro z hz; simp at hz; subst hz; exact hgS)) (fun z hz => .inl hz)
  refine ⟨es.set m { y with unt := now }, ⟨h.blk.far hgh _, ?_, h.apart, h.foot, h.low, ?_⟩, hs⟩
  · have hr := h.row
    rw [hl, hm] at hr
    have := own_set hr (m * 4 + 2) (.int .i64 now)
    rw [flat_set encV_len es m 2 y { y with unt := now } (.int .i64 now) (by omega) he rfl] at this
    rw [List.length_set, hl, hm]
    exact this
  · rw [closeV_at hm hx]
    refine ⟨by simp [hl], fun i e z a b => ?_⟩
    by_cases hi : m = i
    · subst hi
      rw [List.getElem?_set_self (by omega)] at a b
      injection a with a
      injection b with b
      subst a b
      have := hvs.2 m y x he hx
      exact ⟨this.num, this.frm, rfl, this.tab⟩
    · rw [List.getElem?_set_ne hi] at a b
      exact hvs.2 i e z a b
/-- The row without its first version. -/
theorem deleteH_any {w : World} {N : Nat} {rv : Value} {S : List Nat} {es : List Ve} {V : List Vs} (hrow : w.ownsRow N 46 4 rv es.length (es.flatMap encV)) (hver : VesR w S es V) (h0 : 0 < V.length) (h4 : V.length ≤ 4) :
    Calls Tryz.prog 82 #[rv, .int .i64 0, .int .i64 1] w fun e w' => ∃ v', e = .returned v' ∧ w'.ownsRow N 46 4 v' (es.drop 1).length ((es.drop 1).flatMap encV) ∧ v'.ownBlock = rv.ownBlock ∧ Chg rv.ownBlock.toList w w' := by
  have hl := hver.1
  refine (deleteV_own (i := 0) hrow (by omega) (by omega) hver.one).mono fun e w' ⟨v', a, b, c, d⟩ => ⟨v', a, ?_, c, d⟩
  rw [List.length_drop, ← flat_drop encV_len]
  simpa using b

/-- One more version, appended and stored. -/
theorem push_finH {w wA w7 : World} {N hp : Nat} {rv1 : Value} {S : List Nat} {es2 : List Ve} {CV : List Vs} {last now : Int} (h : HiR w N hp rv1 S es2 CV last) (hSw : ∀ x ∈ S, x < w.heap.size) (hZ : Chg [hp] w wA)
    (hB : Blk wA hp 89 #[.bool true, rv1, .int .i64 (last + 1)]) {tv' : Value} {tab : List Int} (ht : SlZ wA 0 tv' tab) (hto : ∀ g ∈ tv'.ownBlock.toList, w.heap.size ≤ g ∧ g < wA.heap.size)
    {v7 : Value} (hown : w7.ownsRow N 46 4 v7 (es2.length + 1) (es2.flatMap encV ++ [.int .i64 (last + 1), .int .i64 now, .int .i64 (-1), tv'])) (hc : Chg rv1.ownBlock.toList wA w7) (hb : v7.ownBlock = rv1.ownBlock ∨ v7.ownBlock = some wA.heap.size) :
    HiR (w7.setCell ⟨hp, 1, none⟩ v7) N hp v7 (v7.ownBlock.toList ++ S) (es2 ++ [⟨last + 1, now, -1, tv'⟩]) (CV ++ [⟨last + 1, now, -1, tab⟩]) (last + 1) ∧ Chg (footH hp rv1) w (w7.setCell ⟨hp, 1, none⟩ v7) := by
  have hl := h.vers.1
  have hlt := hB.lt
  have hfS : ∀ x ∈ rv1.ownBlock.toList, x ∈ S := fun x hx => h.foot x (List.mem_cons_of_mem _ hx)
  have hpS : hp ∈ S := h.foot hp (List.mem_cons_self ..)
  have hap : hp ∉ v7.ownBlock.toList := by
    rcases hb with e | e
    · rw [e]; exact h.apart
    · rw [e]; simp; omega
  have hs : Chg [hp] w7 (w7.setCell ⟨hp, 1, none⟩ v7) := (Chg.refl [hp] w7).setCell (p := ⟨hp, 1, none⟩) (.inl (by simp)) v7
  have hA8 : Chg (footH hp rv1) wA (w7.setCell ⟨hp, 1, none⟩ v7) := (hc.more (fun x hx => List.mem_cons_of_mem _ hx)).trans (hs.more (fun x hx => by simp at hx; subst hx; exact List.mem_cons_self ..))
  have h8 : Chg (footH hp rv1) w (w7.setCell ⟨hp, 1, none⟩ v7) := (hZ.more (T := footH hp rv1) (fun x hx => by simp at hx; subst hx; exact List.mem_cons_self ..)).trans hA8
  have hS' : ∀ x ∈ v7.ownBlock.toList ++ S, x ∈ S ∨ w.heap.size ≤ x := fun x hx => by
    rcases List.mem_append.1 hx with hx | hx
    · rcases hb with e | e
      · rw [e] at hx; exact .inl (hfS x hx)
      · rw [e] at hx; simp at hx; have := hZ.size; exact .inr (by omega)
    · exact .inl hx
  refine ⟨⟨(hB.chg hc h.apart).set_ 1 v7, ?_, hap, ?_, h.low, ?_⟩, h8⟩
  · have := own_chg hown hs (fun x hx e => by simp at e; subst e; exact hap hx)
    rw [List.length_append, List.flatMap_append]
    exact this
  · intro x hx
    rcases List.mem_cons.1 hx with rfl | hx
    · exact List.mem_append_right _ hpS
    · exact List.mem_append_left _ hx
  · have ho := h.vers.step (h8.more h.foot) hS'
    refine ⟨by simp [hl], fun i e x a b => ?_⟩
    by_cases hi : i < es2.length
    · rw [List.getElem?_append_left hi] at a
      rw [List.getElem?_append_left (by omega)] at b
      exact ho.2 i e x a b
    · have hle : es2.length ≤ i := by omega
      rw [List.getElem?_append_right hle] at a
      rw [List.getElem?_append_right (by omega)] at b
      rw [hl] at a
      cases hd : i - CV.length with
      | zero =>
        rw [hd] at a b
        simp at a b
        subst a b
        refine ⟨rfl, rfl, rfl, Sl.chgB ht hA8 (fun g hg hm => ?_), fun g hg => ⟨?_, fun hm => ?_⟩⟩
        · have := hSw g (h.foot g hm); have := (hto g hg).1; omega
        · have := hA8.size; have := (hto g hg).2; omega
        · rcases List.mem_append.1 hm with hm | hm
          · rcases hb with e | e
            · rw [e] at hm; have := hSw g (hfS g hm); have := (hto g hg).1; omega
            · rw [e] at hm; simp at hm; have := (hto g hg).2; omega
          · have := hSw g hm; have := (hto g hg).1; omega
      | succ k => rw [hd] at a; simp at a
theorem H2Blk {w : World} {N hp : Nat} {rv1 : Value} {S : List Nat} {es2 : List Ve} {CV : List Vs} {last : Int} (h : HiR w N hp rv1 S es2 CV last) : Blk (w.setCell ⟨hp, 2, none⟩ (.int .i64 (last + 1))) hp 89 #[.bool true, rv1, .int .i64 (last + 1)] := h.blk.set_ 2 _
theorem one_v {W : World} {g : Nat} {a b c d : Value} (h : Blk W g 46 #[a, b, c, d]) : Sl W 0 4 (.slice (some ⟨g, 0, none⟩) 1 1) 1 [a, b, c, d] :=
  ⟨rfl, _, 1, rfl, Nat.le_refl _, fun _ => ⟨g, 0, rfl, Nat.zero_le _, fun j u hu => by rw [Nat.zero_add, h.cell]; simpa using hu⟩⟩
theorem one_vk {w : World} {B n : Nat} {xs : List Value} {a b c : Int} {tv : Value} (h : Sl w B 1 tv n xs) : ∀ u ∈ [Value.int .i64 a, .int .i64 b, .int .i64 c, tv], u.oneCell' = true := by
  obtain ⟨A, cc, rfl⟩ := Sl.form h
  intro u hu
  simp at hu
  rcases hu with rfl | rfl | rfl | rfl <;> rfl

set_option maxRecDepth 100000 in
set_option maxHeartbeats 2000000 in
theorem pushH_any {w : World} {N hp : Nat} {rv : Value} {S : List Nat} {es : List Ve} {V : List Vs} {last : Int} (h : HiR w N hp rv S es V last) (hok : OkV V) (hN : N ≤ w.heap.size) (now : Int) (hn : 0 ≤ now ∧ now ≤ 1000000) (hlast : 0 ≤ last ∧ last < 1000000)
    {tv : Value} {tab : List Int} {B : Nat} (ht : SlZ w B tv tab) (hts : ∀ g ∈ tv.ownBlock.toList, g ∉ footH hp rv) (htl : tab.length ≤ 300) (hm : mayV V now = 0) (hSlt : ∀ x ∈ S, x < w.heap.size) :
    Calls Tryz.prog 63 #[.pointer (some ⟨hp, 0, none⟩), .int .i64 now, tv] w fun e w' => e = .returned (.int .i64 0) ∧ ∃ rv' es', HiR w' N hp rv' (rv'.ownBlock.toList ++ S) es' (pushV V last now tab) (last + 1) ∧ Chg (footH hp rv) w w' ∧ ∀ x ∈ rv'.ownBlock.toList, x ∈ rv.ownBlock.toList ∨ w.heap.size ≤ x := by
  have F1 := Lib.hid (mayH_any h hok now hn)
  rw [hm] at F1
  have HP : Hid (pushV V last now tab = closeV (if 4 ≤ V.length then V.drop 1 else V) now ++ [⟨last + 1, now, -1, tab⟩]) := Lib.hid rfl
  generalize pushV V last now tab = PV at *
  go_enter Tryz.func63, Tryz.ntmps63
  go_wp2_with fail
  refine F1.out.mono ?_
  rintro e w1 ⟨rfl, hc1⟩
  have h1 := h.chg0 hc1
  have F2 := Lib.hid (fullH_any h1)
  have H1 := Lib.hid h1
  have HC1 := Lib.hid hc1
  have HT1 := Lib.hid (Sl.chg0 ht hc1)
  have HT := Lib.hid ht
  clear h ht h1 hc1 F1
  go_wp2_with fail
  refine F2.out.mono ?_
  rintro e w2 ⟨rfl, rfl⟩
  go_upto_if 16 with fail
  go_cut [] (fun wx => ∃ rv1 es1, Hid (HiR wx N hp rv1 S es1 (if 4 ≤ V.length then V.drop 1 else V) last) ∧ Hid (rv1.ownBlock = rv.ownBlock) ∧ Hid (Chg (footH hp rv) w wx))
  case first =>
    clear F2
    by_cases h4 : 4 ≤ V.length
    · have c1 := H1.out.blk.cell 1
      simp only [List.getElem?_toArray, List.getElem?_cons_succ, List.getElem?_cons_zero] at c1
      have F3 := Lib.hid (deleteH_any H1.out.row H1.out.vers (by omega) hok.len)
      simp only [h4, decide_true, if_true]
      go_wp2_with fail
      refine F3.out.mono ?_
      rintro e w3 ⟨v3, rfl, hrow3, hob, hc3⟩
      have hB3 := H1.out.blk.chg hc3 H1.out.apart
      have k1 := hB3.cell 1
      have f1 := hB3.frozen 1
      simp only [List.getElem?_toArray, List.getElem?_cons_succ, List.getElem?_cons_zero] at k1
      have HH : Hid (HiR (w3.setCell ⟨hp, 1, none⟩ v3) N hp v3 S (es.drop 1) (V.drop 1) last ∧ Chg (footH hp rv) w (w3.setCell ⟨hp, 1, none⟩ v3)) := Lib.hid (by
        have hs : Chg [hp] w3 (w3.setCell ⟨hp, 1, none⟩ v3) := (Chg.refl [hp] w3).setCell (p := ⟨hp, 1, none⟩) (.inl (by simp)) v3
        have hfr : ∀ x ∈ rv.ownBlock.toList, x ∈ S := fun x hx => H1.out.foot x (by simp [footH]; right; simpa using hx)
        have hhp : hp ∈ S := H1.out.foot hp (by simp [footH])
        refine ⟨⟨hB3.set_ 1 v3, own_chg hrow3 hs (fun x hx e => ?_), ?_, ?_, H1.out.low, ?_⟩, ?_⟩
        · rw [hob] at hx; simp at e; subst e; exact H1.out.apart hx
        · rw [hob]; exact H1.out.apart
        · intro x hx; unfold footH at hx; rw [hob] at hx; exact H1.out.foot x hx
        · exact ((H1.out.vers.drop1.step (hc3.more hfr) (fun x hx => .inl hx)).step (hs.more (by intro x hx; simp at hx; subst hx; exact hhp)) (fun x hx => .inl hx))
        · refine ((HC1.out.more (T := footH hp rv) (by simp)).trans (hc3.more (fun x hx => by unfold footH; exact List.mem_cons_of_mem _ hx))).trans (hs.more (by intro x hx; simp at hx; subst hx; simp [footH])))
      have HO := Lib.hid hob
      clear hob hrow3 hc3 hB3 c1
      obtain ⟨A3, n3, c3, rfl⟩ : ∃ A n c, v3 = .slice A n c := by
        obtain ⟨A, c, e⟩ := Sl.form (Sl.of_own HH.out.1.row)
        exact ⟨A, _, c, e⟩
      go_wp2_with fail
      go_meet
      refine ⟨_, es.drop 1, Lib.hid ?_, HO, Lib.hid HH.out.2⟩
      rw [if_pos h4]
      exact HH.out.1
    · simp only [h4, decide_false, if_false]
      go_wp2_with fail
      go_meet
      refine ⟨rv, es, Lib.hid ?_, Lib.hid rfl, Lib.hid (HC1.out.more (by simp))⟩
      rw [if_neg h4]
      exact H1.out
  case rest =>
    obtain ⟨rv1, es1, HR, HOB, HCR⟩ := hcut
    have h3 : (if 4 ≤ V.length then V.drop 1 else V).length ≤ 3 := by
      have := hok.len
      split
      · rw [List.length_drop]; omega
      · omega
    clear F2 H1 HC1 HT1 hm hok
    generalize (if 4 ≤ V.length then V.drop 1 else V) = VV at *
    have c1 := HR.out.blk.cell 1
    simp only [List.getElem?_toArray, List.getElem?_cons_succ, List.getElem?_cons_zero] at c1
    have hl1 := HR.out.vers.1
    obtain ⟨A1, cc1, e1⟩ := Sl.form (Sl.of_own HR.out.row)
    rw [hl1] at e1
    subst e1
    go_upto_if 31 with fail
    go_cut [] (fun wx => ∃ es2, Hid (HiR wx N hp (.slice A1 VV.length cc1) S es2 (closeV VV now) last) ∧ Hid (Chg (footH hp (.slice A1 VV.length cc1)) wc wx))
    case first =>
      rcases Nat.eq_zero_or_pos VV.length with h0 | h0
      · obtain rfl : VV = [] := List.eq_nil_of_length_eq_zero h0
        simp only [List.length_nil]
        go_wp2_with fail
        go_meet
        exact ⟨es1, HR, Lib.hid (Chg.refl _ _)⟩
      · obtain ⟨m, hm⟩ : ∃ m, VV.length = m + 1 := ⟨VV.length - 1, by omega⟩
        obtain ⟨x, hx⟩ : ∃ x, VV[m]? = some x := ⟨_, List.getElem?_eq_getElem (by omega)⟩
        obtain ⟨g, o, c', e, hv, hcap, -, -, -, -, d2, -⟩ := HR.out.at_ hx
        simp only [Value.slice.injEq, true_and] at hv
        obtain ⟨rfl, rfl⟩ := hv
        obtain ⟨g', cap', cur, hv, hg, hB, q1, q2, q3, q4⟩ := HR.out.row.2.resolve_left (by intro hh; simp at hh)
        simp only [Value.slice.injEq, Option.some.injEq, Addr.mk.injEq, and_true] at hv
        obtain ⟨⟨rfl, rfl⟩, hle, rfl⟩ := hv
        clear hle
        have hB' : Blk wc g 46 cur := hB
        have f2 := hB'.frozen (m * 4 + 2)
        rw [Nat.zero_add] at d2
        have HRm := HR.out
        rw [hm] at HRm
        obtain ⟨es2, hr2, hc2⟩ := HRm.close hm hx now
        have HR2 := Lib.hid hr2
        have HC2 := Lib.hid (hc2.more (T := footH hp (.slice (some ⟨g, 0, none⟩) (m + 1) cc1)) (by intro z hz; simp at hz; subst hz; simp [footH, Value.ownBlock]))
        clear hr2 hc2 HRm hB hB' hx
        rw [← hm] at HR2 HC2
        have hm3 : m < 3 := by omega
        clear h0 h3 q1 q2 q3 q4 hl1 hcap hg hn hlast hN
        generalize VV.length = L at *
        subst hm
        have hgt : (0 : Int) < (m : Int) + 1 := by omega
        have hgt2 : (0 : Int) < ((m + 1 : Nat) : Int) := by omega
        have hix : (m : Int) + 1 - 1 = (m : Int) := by omega
        have hwm : IntKind.i64.wrap (m : Int) = (m : Int) := by rw [IntKind.wrap_i64]; omega
        have hml : (m : Int) < (m : Int) + 1 := by omega
        clear hm3 HOB HCR HT HR
        go_wp2_with fail
        go_meet
        exact ⟨es2, HR2, HC2⟩
    case rest =>
      obtain ⟨es2, HR2, HC2⟩ := hcut
      have HCC : Hid (Chg (footH hp rv) w wc) := Lib.hid (by
        have := HC2.out
        unfold footH at this
        rw [HOB.out] at this
        exact HCR.out.trans this)
      have hl2 := HR2.out.vers.1
      have hSw : ∀ x ∈ S, x < wc.heap.size := fun x hx => Nat.lt_of_lt_of_le (hSlt x hx) HCC.out.size
      have hl3 : (closeV VV now).length = VV.length := by
        unfold closeV
        split
        · rw [List.length_set]
        · rfl
      have hNw : N ≤ wc.heap.size := Nat.le_trans hN HCC.out.size
      have hTw : Hid (SlZ wc B tv tab) := Lib.hid (Sl.chgB HT.out HCC.out (fun g hg => hts g hg))
      clear HR HC2 HCR HT hl1 hSlt hN
      generalize closeV VV now = CV at *
      have hap := HR2.out.apart
      have cc1' := HR2.out.blk.cell 1
      have cc2 := HR2.out.blk.cell 2
      have ff2 := HR2.out.blk.frozen 2
      simp only [List.getElem?_toArray, List.getElem?_cons_succ, List.getElem?_cons_zero] at cc1' cc2
      have hwl : IntKind.i64.wrap (last + 1) = last + 1 := by rw [IntKind.wrap_i64]; omega
      rw [← hl3, ← hl2] at HR2 HOB hap cc1' ⊢
      rw [← hl3, ← hl2] at h3
      clear hl3 c1
      generalize hrv1 : Value.slice A1 es2.length cc1 = rv1 at *
      have hBd := H2Blk HR2.out
      have hZd : Chg [hp] wc (wc.setCell ⟨hp, 2, none⟩ (.int .i64 (last + 1))) := (Chg.refl [hp] wc).setCell (p := ⟨hp, 2, none⟩) (.inl (by simp)) _
      have HI := Lib.hid (And.intro hBd hZd)
      have HH := Lib.hid hrv1
      clear hBd hZd hrv1 hl2
      go_upto_region 10 with fail
      refine wp_region_noPanic ?_
      obtain ⟨hBd, hZd⟩ := HI.out
      have hTd : SlZ (wc.setCell ⟨hp, 2, none⟩ (.int .i64 (last + 1))) B tv tab := Sl.chgB hTw.out hZd (fun g hg hm => hts g hg (by
        simp at hm; subst hm; exact List.mem_cons_self ..))
      clear HI cc1' cc2 ff2
      generalize wc.setCell ⟨hp, 2, none⟩ (.int .i64 (last + 1)) = wd at *
      have hS0 : wd.drew.cell? ⟨hp, 2, none⟩ = some (.int .i64 (last + 1)) := hBd.drew.cell 2
      have hc1 : wd.drew.cell? ⟨hp, 1, none⟩ = some rv1 := hBd.drew.cell 1
      have HS2 : ∀ W : World, W.cell? ⟨hp, 2, none⟩ = some (.int .i64 (last + 1)) → W.cell? ⟨hp, 2, none⟩ = some (.int .i64 (last + 1)) := fun _ h => h
      have FC := Lib.hid (cloneZ_any (hTd.chg0 ((Chg.refl [] wd).drew)) (by omega))
      have HFIN : Hid (∀ (w2 : World) tv' v7 w7, Chg [] wd.drew w2 → w2.ownsRow wd.drew.heap.size 3 1 tv' tab.length (tab.map (Value.int .i64)) → w7.ownsRow N 46 4 v7 (es2.length + 1) (es2.flatMap encV ++ [.int .i64 (last + 1), .int .i64 now, .int .i64 (-1), tv']) →
          Chg rv1.ownBlock.toList (w2.alloc (.cells #[.int .i64 (last + 1), .int .i64 now, .int .i64 (-1), tv'] 46)) w7 → (v7.ownBlock = rv1.ownBlock ∨ v7.ownBlock = some (w2.alloc (.cells #[.int .i64 (last + 1), .int .i64 now, .int .i64 (-1), tv'] 46)).heap.size) →
          ∃ rv' es', HiR (w7.setCell ⟨hp, 1, none⟩ v7) N hp rv' (rv'.ownBlock.toList ++ S) es' PV (last + 1) ∧ Chg (footH hp rv) w (w7.setCell ⟨hp, 1, none⟩ v7) ∧ ∀ x ∈ rv'.ownBlock.toList, x ∈ rv.ownBlock.toList ∨ w.heap.size ≤ x) := Lib.hid fun w2 tv' v7 w7 hc2 ht2 h7 hc7 hb7 => by
        have hA := ((Chg.refl [] w2).alloc (.cells #[.int .i64 (last + 1), .int .i64 now, .int .i64 (-1), tv'] 46))
        have hdA : Chg [] wd (w2.alloc (.cells #[.int .i64 (last + 1), .int .i64 now, .int .i64 (-1), tv'] 46)) := (((Chg.refl [] wd).drew).trans hc2).trans hA
        have hlt := own_lt ht2
        have hzz := hZd.size
        obtain ⟨p1, p2⟩ := push_finH (now := now) (tab := tab) HR2.out hSw (hZd.trans (hdA.more (by simp))) (hBd.chg hdA (by simp)) (SlZ.chg0 (B := 0) (Sl.less (Sl.of_own ht2) (Nat.zero_le _)) hA) (fun g hg => by
          have h1 := hlt g hg
          have h2 : wd.drew.heap.size = wd.heap.size := rfl
          rw [World.size_alloc]
          omega) h7 hc7 hb7
        refine ⟨v7, es2 ++ [⟨last + 1, now, -1, tv'⟩], ?_, ?_, fun x hx => ?_⟩
        · rw [HP.out]; exact p1
        · have h3 := HCC.out
          have h4 := p2
          unfold footH at h3 h4 ⊢
          rw [HOB.out] at h4
          exact h3.trans h4
        · rcases hb7 with e | e
          · rw [e, HOB.out] at hx; exact .inl hx
          · rw [e] at hx
            simp at hx
            have h5 := HCC.out.size
            have h6 := hdA.size
            rw [World.size_alloc] at h6
            exact .inr (by omega)
      have hrow := HR2.out.row
      have hNd : N ≤ wd.heap.size := Nat.le_trans hNw hZd.size
      have hrow1 := own_chg hrow (hZd.more (T := [hp]) (by simp)) (fun x hx e => by simp at e; subst e; exact hap hx)
      have hrow2 := own_chg hrow1 ((Chg.refl [] wd).drew) (by simp)
      have HRW := Lib.hid hrow2
      have HBD := Lib.hid hBd
      clear hrow hrow1 hrow2 hBd hZd hTd hTw HR2 HH HCC HOB HP hSw hts cc1
      refine wp_region_held_drew (S := fun W : World => W.cell? ⟨hp, 2, none⟩ = some (.int .i64 (last + 1))) (by kernel_rfl) hS0 (fun _ => ?_)
      refine wpAnyH_take (i := 0) (v := ?_) rfl (by kernel_rfl) (by kernel_rfl) (by kernel_rfl) (fun _ _ _ h => h) (yields_pure (by rfl) (fun w => ?_)) (by with_reducible assumption) ?_
      rotate_left
      · (go_simp <;> with_reducible rfl)
      try simp only [List.getElem_toArray, List.getElem_cons_succ, List.getElem_cons_zero, Act.put, List.setIfInBounds_toArray, List.set_cons_zero, List.set_cons_succ]
      refine wpAnyH_take (i := 1) (v := ?_) rfl (by kernel_rfl) (by kernel_rfl) (by kernel_rfl) (fun _ _ _ h => h) (yields_pure (by rfl) (fun w => ?_)) (by with_reducible assumption) ?_
      rotate_left
      · (go_simp <;> with_reducible rfl)
      try simp only [List.getElem_toArray, List.getElem_cons_succ, List.getElem_cons_zero, Act.put, List.setIfInBounds_toArray, List.set_cons_zero, List.set_cons_succ]
      refine wpAnyH_take (i := 2) (v := ?_) rfl (by kernel_rfl) (by kernel_rfl) (by kernel_rfl) (fun _ _ _ h => h) (yields_pure (by rfl) (fun w => ?_)) (by with_reducible assumption) ?_
      rotate_left
      · (go_simp <;> with_reducible rfl)
      try simp only [List.getElem_toArray, List.getElem_cons_succ, List.getElem_cons_zero, Act.put, List.setIfInBounds_toArray, List.set_cons_zero, List.set_cons_succ]
      refine wpAnyH_take (i := 3) (v := ?_) rfl (by kernel_rfl) (by kernel_rfl) (by kernel_rfl) (fun _ _ _ h => h) (yields_pure (by rfl) (fun w => ?_)) (by with_reducible assumption) ?_
      rotate_left
      · (go_simp <;> with_reducible rfl)
      try simp only [List.getElem_toArray, List.getElem_cons_succ, List.getElem_cons_zero, Act.put, List.setIfInBounds_toArray, List.set_cons_zero, List.set_cons_succ]
      refine wpAnyH_take (i := 5) (v := ?_) rfl (by kernel_rfl) (by kernel_rfl) (by kernel_rfl) (fun _ _ _ h => h) (yields_pure (by rfl) (fun w => ?_)) (by with_reducible assumption) ?_
      rotate_left
      · (go_simp <;> with_reducible rfl)
      try simp only [List.getElem_toArray, List.getElem_cons_succ, List.getElem_cons_zero, Act.put, List.setIfInBounds_toArray, List.set_cons_zero, List.set_cons_succ]
      refine wpAnyH_take (i := 6) (v := ?_) rfl (by kernel_rfl) (by kernel_rfl) (by kernel_rfl) (fun _ _ _ h => h) (yields_pure (by rfl) (fun w => ?_)) (by with_reducible assumption) ?_
      rotate_left
      · (go_simp <;> with_reducible rfl)
      try simp only [List.getElem_toArray, List.getElem_cons_succ, List.getElem_cons_zero, Act.put, List.setIfInBounds_toArray, List.set_cons_zero, List.set_cons_succ]
      refine wpAnyH_take (i := 7) (v := ?_) rfl (by kernel_rfl) (by kernel_rfl) (by kernel_rfl) (fun _ _ _ h => h) (yields_pure (by rfl) (fun w => ?_)) (by with_reducible assumption) ?_
      rotate_left
      · (go_simp <;> with_reducible rfl)
      try simp only [List.getElem_toArray, List.getElem_cons_succ, List.getElem_cons_zero, Act.put, List.setIfInBounds_toArray, List.set_cons_zero, List.set_cons_succ]
      refine wpAnyH_take (i := 9) (v := ?_) rfl (by kernel_rfl) (by kernel_rfl) (by kernel_rfl) (fun _ _ _ h => h) (yields_pure (by rfl) (fun w => ?_)) (by with_reducible assumption) ?_
      rotate_left
      · (go_simp <;> with_reducible rfl)
      try simp only [List.getElem_toArray, List.getElem_cons_succ, List.getElem_cons_zero, Act.put, List.setIfInBounds_toArray, List.set_cons_zero, List.set_cons_succ]
      refine wpAnyH_take (i := 10) (v := ?_) rfl (by kernel_rfl) (by kernel_rfl) (by kernel_rfl) (fun _ _ _ h => h) (yields_pure (by rfl) (fun w => ?_)) (by with_reducible assumption) ?_
      rotate_left
      · (go_simp <;> with_reducible rfl)
      try simp only [List.getElem_toArray, List.getElem_cons_succ, List.getElem_cons_zero, Act.put, List.setIfInBounds_toArray, List.set_cons_zero, List.set_cons_succ]
      refine wpAnyH_take (i := 8) rfl (by kernel_rfl) (by kernel_rfl) (by kernel_rfl) (fun _ _ _ h => h) (yields_cell (by rfl) 3 (.tmp 55) rfl hp 2 rfl (.int .i64 (last + 1)) _ HS2 Tryz.underlying3 rfl) (by with_reducible assumption) ?_
      try simp only [List.getElem_toArray, List.getElem_cons_succ, List.getElem_cons_zero, Act.put, List.setIfInBounds_toArray, List.set_cons_zero, List.set_cons_succ]
      refine wpAnyH_ready (rs := [4, 11]) (by kernel_rfl) (by simp) (AllReadyH.cons rfl (fun K hK => ?_) (AllReadyH.cons rfl (fun K hK => ?_) AllReadyH.nil))
      · refine step_cellP rfl 34 (.tmp 51) rfl hp 1 rfl rv1 _ hc1 Tryz.underlying34 rfl ?_
        refine hK.out _ _ (by with_reducible assumption) (fun _ => ?_)
        clear hK K
        try simp only [List.getElem_toArray, List.getElem_cons_succ, List.getElem_cons_zero, Act.put, List.setIfInBounds_toArray, List.set_cons_zero, List.set_cons_succ]
        refine wpAnyH_ready (rs := [11]) (by kernel_rfl) (by simp) (AllReadyH.cons rfl (fun K hK => ?_) AllReadyH.nil)
        go_simp
        refine FC.out.mono ?_
        rintro e w2 ⟨tv', rfl, ht2, hcz⟩
        obtain ⟨TA, tn, tc, rfl⟩ : ∃ A n c, tv' = .slice A n c := by
          obtain ⟨A, c, e⟩ := Sl.form (Sl.of_own ht2)
          exact ⟨A, _, c, e⟩
        have hS2 : w2.cell? ⟨hp, 2, none⟩ = some (.int .i64 (last + 1)) := hcz.cell hS0 (by simp)
        refine hK.out _ _ (by with_reducible assumption) (fun _ => ?_)
        clear hK K
        try simp only [List.getElem_toArray, List.getElem_cons_succ, List.getElem_cons_zero, Act.put, List.setIfInBounds_toArray, List.set_cons_zero, List.set_cons_succ]
        refine wpAnyH_take (i := 12) (v := ?_) rfl (by kernel_rfl) (by kernel_rfl) (by kernel_rfl) (fun _ _ _ h => h) (yields_pure (by rfl) (fun w => ?_)) (by with_reducible assumption) ?_
        rotate_left
        · (go_simp <;> with_reducible rfl)
        try simp only [List.getElem_toArray, List.getElem_cons_succ, List.getElem_cons_zero, Act.put, List.setIfInBounds_toArray, List.set_cons_zero, List.set_cons_succ]
        have hA := (Chg.refl [] w2).alloc (.cells #[.int .i64 (last + 1), .int .i64 now, .int .i64 (-1), .slice TA tn tc] 46)
        have hbl : Blk (w2.alloc (.cells #[.int .i64 (last + 1), .int .i64 now, .int .i64 (-1), .slice TA tn tc] 46)) w2.heap.size 46 #[.int .i64 (last + 1), .int .i64 now, .int .i64 (-1), .slice TA tn tc] := Blk.new _ _ _
        have hS3 : (w2.alloc (.cells #[.int .i64 (last + 1), .int .i64 now, .int .i64 (-1), .slice TA tn tc] 46)).cell? ⟨hp, 2, none⟩ = some (.int .i64 (last + 1)) := hA.cell hS2 (by simp)
        have hr3 := own_chg (own_chg HRW.out hcz (by simp)) hA (by simp)
        have hl3 := one_v hbl
        have ho3 := one_vk (a := last + 1) (b := now) (c := -1) (Sl.of_own ht2)
        have hB3 := (HBD.out.chg (((Chg.refl [] wd).drew.trans hcz).trans hA) (by simp))
        have hN3 : N ≤ (w2.alloc (.cells #[.int .i64 (last + 1), .int .i64 now, .int .i64 (-1), .slice TA tn tc] 46)).heap.size := Nat.le_trans hNd (((Chg.refl [] wd).drew.trans hcz).trans hA).size
        have HFN := Lib.hid (HFIN.out w2 (.slice TA tn tc))
        refine wpAnyH_ready (rs := [13]) (by kernel_rfl) (by simp) (AllReadyH.cons rfl (fun K hK => ?_) AllReadyH.nil)
        go_simp
        refine hK.out _ _ (by with_reducible assumption) (fun _ => ?_)
        clear hK K
        try simp only [List.getElem_toArray, List.getElem_cons_succ, List.getElem_cons_zero, Act.put, List.setIfInBounds_toArray, List.set_cons_zero, List.set_cons_succ]
        refine wpAnyH_ready (rs := [14]) (by kernel_rfl) (by simp) (AllReadyH.cons rfl (fun K hK => ?_) AllReadyH.nil)
        refine step_app elV rfl (.tmp 52) (.tmp 61) rfl N rfl hr3 rfl hl3 ho3 (by unfold maxLen; omega) (by omega) hN3 ?_
        intro v7 w7 hown7 hc7 hb7
        have hFF := HFN.out v7 w7 hcz ht2 hown7 hc7 hb7
        obtain ⟨g7, cap7, rfl, _, _⟩ := own_form hown7 (by omega)
        have hB7 := hB3.chg hc7 hap
        have k7 := hB7.cell 1
        have f7 := hB7.frozen 1
        have hS7 : w7.cell? ⟨hp, 2, none⟩ = some (.int .i64 (last + 1)) := hB7.cell 2
        have hS8 : (w7.setCell ⟨hp, 1, none⟩ (.slice (some ⟨g7, 0, none⟩) (es2.length + 1) cap7)).cell? ⟨hp, 2, none⟩ = some (.int .i64 (last + 1)) := (hB7.set_ 1 _).cell 2
        simp only [List.getElem?_toArray, List.getElem?_cons_succ, List.getElem?_cons_zero] at k7
        refine hK.out _ _ (by with_reducible assumption) (fun _ => ?_)
        clear hK K
        try simp only [List.getElem_toArray, List.getElem_cons_succ, List.getElem_cons_zero, Act.put, List.setIfInBounds_toArray, List.set_cons_zero, List.set_cons_succ]
        refine wpAnyH_take (i := 15) (v := ?_) rfl (by kernel_rfl) (by kernel_rfl) (by kernel_rfl) (fun _ _ _ h => h) (yields_pure (by rfl) (fun w => ?_)) (by with_reducible assumption) ?_
        rotate_left
        · (go_simp <;> with_reducible rfl)
        try simp only [List.getElem_toArray, List.getElem_cons_succ, List.getElem_cons_zero, Act.put, List.setIfInBounds_toArray, List.set_cons_zero, List.set_cons_succ]
        refine wpAnyH_take (i := 16) (v := ?_) rfl (by kernel_rfl) (by kernel_rfl) (by kernel_rfl) (fun _ _ _ h => h) (yields_pure (by rfl) (fun w => ?_)) (by with_reducible assumption) ?_
        rotate_left
        · (go_simp <;> with_reducible rfl)
        try simp only [List.getElem_toArray, List.getElem_cons_succ, List.getElem_cons_zero, Act.put, List.setIfInBounds_toArray, List.set_cons_zero, List.set_cons_succ]
        refine wpAnyH_ready (rs := [17]) (by kernel_rfl) (by simp) (AllReadyH.cons rfl (fun K hK => ?_) AllReadyH.nil)
        go_simp
        refine hK.out _ _ (by with_reducible assumption) (fun _ => ?_)
        clear hK K
        try simp only [List.getElem_toArray, List.getElem_cons_succ, List.getElem_cons_zero, Act.put, List.setIfInBounds_toArray, List.set_cons_zero, List.set_cons_succ]
        refine wpAnyH_done (by kernel_rfl) ?_ _
        refine NoPanic.normal ?_
        go_wp2_with fail
        go_ret
        exact ⟨rfl, hFF⟩
      · go_simp
        refine FC.out.mono ?_
        rintro e w2 ⟨tv', rfl, ht2, hcz⟩
        obtain ⟨TA, tn, tc, rfl⟩ : ∃ A n c, tv' = .slice A n c := by
          obtain ⟨A, c, e⟩ := Sl.form (Sl.of_own ht2)
          exact ⟨A, _, c, e⟩
        have hS2 : w2.cell? ⟨hp, 2, none⟩ = some (.int .i64 (last + 1)) := hcz.cell hS0 (by simp)
        have hc1' : w2.cell? ⟨hp, 1, none⟩ = some rv1 := hcz.cell hc1 (by simp)
        refine hK.out _ _ (by with_reducible assumption) (fun _ => ?_)
        clear hK K
        try simp only [List.getElem_toArray, List.getElem_cons_succ, List.getElem_cons_zero, Act.put, List.setIfInBounds_toArray, List.set_cons_zero, List.set_cons_succ]
        refine wpAnyH_take (i := 12) (v := ?_) rfl (by kernel_rfl) (by kernel_rfl) (by kernel_rfl) (fun _ _ _ h => h) (yields_pure (by rfl) (fun w => ?_)) (by with_reducible assumption) ?_
        rotate_left
        · (go_simp <;> with_reducible rfl)
        try simp only [List.getElem_toArray, List.getElem_cons_succ, List.getElem_cons_zero, Act.put, List.setIfInBounds_toArray, List.set_cons_zero, List.set_cons_succ]
        have hA := (Chg.refl [] w2).alloc (.cells #[.int .i64 (last + 1), .int .i64 now, .int .i64 (-1), .slice TA tn tc] 46)
        have hbl : Blk (w2.alloc (.cells #[.int .i64 (last + 1), .int .i64 now, .int .i64 (-1), .slice TA tn tc] 46)) w2.heap.size 46 #[.int .i64 (last + 1), .int .i64 now, .int .i64 (-1), .slice TA tn tc] := Blk.new _ _ _
        have hS3 : (w2.alloc (.cells #[.int .i64 (last + 1), .int .i64 now, .int .i64 (-1), .slice TA tn tc] 46)).cell? ⟨hp, 2, none⟩ = some (.int .i64 (last + 1)) := hA.cell hS2 (by simp)
        have hr3 := own_chg (own_chg HRW.out hcz (by simp)) hA (by simp)
        have hl3 := one_v hbl
        have ho3 := one_vk (a := last + 1) (b := now) (c := -1) (Sl.of_own ht2)
        have hB3 := (HBD.out.chg (((Chg.refl [] wd).drew.trans hcz).trans hA) (by simp))
        have hN3 : N ≤ (w2.alloc (.cells #[.int .i64 (last + 1), .int .i64 now, .int .i64 (-1), .slice TA tn tc] 46)).heap.size := Nat.le_trans hNd (((Chg.refl [] wd).drew.trans hcz).trans hA).size
        have HFN := Lib.hid (HFIN.out w2 (.slice TA tn tc))
        have hc1'' : (w2.alloc (.cells #[.int .i64 (last + 1), .int .i64 now, .int .i64 (-1), .slice TA tn tc] 46)).cell? ⟨hp, 1, none⟩ = some rv1 := hA.cell hc1' (by simp)
        refine wpAnyH_ready (rs := [4, 13]) (by kernel_rfl) (by simp) (AllReadyH.cons rfl (fun K hK => ?_) (AllReadyH.cons rfl (fun K hK => ?_) AllReadyH.nil))
        · refine step_cellP rfl 34 (.tmp 51) rfl hp 1 rfl rv1 _ hc1' Tryz.underlying34 rfl ?_
          refine hK.out _ _ (by with_reducible assumption) (fun _ => ?_)
          clear hK K
          try simp only [List.getElem_toArray, List.getElem_cons_succ, List.getElem_cons_zero, Act.put, List.setIfInBounds_toArray, List.set_cons_zero, List.set_cons_succ]
          refine wpAnyH_ready (rs := [13]) (by kernel_rfl) (by simp) (AllReadyH.cons rfl (fun K hK => ?_) AllReadyH.nil)
          go_simp
          refine hK.out _ _ (by with_reducible assumption) (fun _ => ?_)
          clear hK K
          try simp only [List.getElem_toArray, List.getElem_cons_succ, List.getElem_cons_zero, Act.put, List.setIfInBounds_toArray, List.set_cons_zero, List.set_cons_succ]
          refine wpAnyH_ready (rs := [14]) (by kernel_rfl) (by simp) (AllReadyH.cons rfl (fun K hK => ?_) AllReadyH.nil)
          refine step_app elV rfl (.tmp 52) (.tmp 61) rfl N rfl hr3 rfl hl3 ho3 (by unfold maxLen; omega) (by omega) hN3 ?_
          intro v7 w7 hown7 hc7 hb7
          have hFF := HFN.out v7 w7 hcz ht2 hown7 hc7 hb7
          obtain ⟨g7, cap7, rfl, _, _⟩ := own_form hown7 (by omega)
          have hB7 := hB3.chg hc7 hap
          have k7 := hB7.cell 1
          have f7 := hB7.frozen 1
          have hS7 : w7.cell? ⟨hp, 2, none⟩ = some (.int .i64 (last + 1)) := hB7.cell 2
          have hS8 : (w7.setCell ⟨hp, 1, none⟩ (.slice (some ⟨g7, 0, none⟩) (es2.length + 1) cap7)).cell? ⟨hp, 2, none⟩ = some (.int .i64 (last + 1)) := (hB7.set_ 1 _).cell 2
          simp only [List.getElem?_toArray, List.getElem?_cons_succ, List.getElem?_cons_zero] at k7
          refine hK.out _ _ (by with_reducible assumption) (fun _ => ?_)
          clear hK K
          try simp only [List.getElem_toArray, List.getElem_cons_succ, List.getElem_cons_zero, Act.put, List.setIfInBounds_toArray, List.set_cons_zero, List.set_cons_succ]
          refine wpAnyH_take (i := 15) (v := ?_) rfl (by kernel_rfl) (by kernel_rfl) (by kernel_rfl) (fun _ _ _ h => h) (yields_pure (by rfl) (fun w => ?_)) (by with_reducible assumption) ?_
          rotate_left
          · (go_simp <;> with_reducible rfl)
          try simp only [List.getElem_toArray, List.getElem_cons_succ, List.getElem_cons_zero, Act.put, List.setIfInBounds_toArray, List.set_cons_zero, List.set_cons_succ]
          refine wpAnyH_take (i := 16) (v := ?_) rfl (by kernel_rfl) (by kernel_rfl) (by kernel_rfl) (fun _ _ _ h => h) (yields_pure (by rfl) (fun w => ?_)) (by with_reducible assumption) ?_
          rotate_left
          · (go_simp <;> with_reducible rfl)
          try simp only [List.getElem_toArray, List.getElem_cons_succ, List.getElem_cons_zero, Act.put, List.setIfInBounds_toArray, List.set_cons_zero, List.set_cons_succ]
          refine wpAnyH_ready (rs := [17]) (by kernel_rfl) (by simp) (AllReadyH.cons rfl (fun K hK => ?_) AllReadyH.nil)
          go_simp
          refine hK.out _ _ (by with_reducible assumption) (fun _ => ?_)
          clear hK K
          try simp only [List.getElem_toArray, List.getElem_cons_succ, List.getElem_cons_zero, Act.put, List.setIfInBounds_toArray, List.set_cons_zero, List.set_cons_succ]
          refine wpAnyH_done (by kernel_rfl) ?_ _
          refine NoPanic.normal ?_
          go_wp2_with fail
          go_ret
          exact ⟨rfl, hFF⟩
        · go_simp
          refine hK.out _ _ (by with_reducible assumption) (fun _ => ?_)
          clear hK K
          try simp only [List.getElem_toArray, List.getElem_cons_succ, List.getElem_cons_zero, Act.put, List.setIfInBounds_toArray, List.set_cons_zero, List.set_cons_succ]
          refine wpAnyH_ready (rs := [4]) (by kernel_rfl) (by simp) (AllReadyH.cons rfl (fun K hK => ?_) AllReadyH.nil)
          refine step_cellP rfl 34 (.tmp 51) rfl hp 1 rfl rv1 _ hc1'' Tryz.underlying34 rfl ?_
          refine hK.out _ _ (by with_reducible assumption) (fun _ => ?_)
          clear hK K
          try simp only [List.getElem_toArray, List.getElem_cons_succ, List.getElem_cons_zero, Act.put, List.setIfInBounds_toArray, List.set_cons_zero, List.set_cons_succ]
          refine wpAnyH_ready (rs := [14]) (by kernel_rfl) (by simp) (AllReadyH.cons rfl (fun K hK => ?_) AllReadyH.nil)
          refine step_app elV rfl (.tmp 52) (.tmp 61) rfl N rfl hr3 rfl hl3 ho3 (by unfold maxLen; omega) (by omega) hN3 ?_
          intro v7 w7 hown7 hc7 hb7
          have hFF := HFN.out v7 w7 hcz ht2 hown7 hc7 hb7
          obtain ⟨g7, cap7, rfl, _, _⟩ := own_form hown7 (by omega)
          have hB7 := hB3.chg hc7 hap
          have k7 := hB7.cell 1
          have f7 := hB7.frozen 1
          have hS7 : w7.cell? ⟨hp, 2, none⟩ = some (.int .i64 (last + 1)) := hB7.cell 2
          have hS8 : (w7.setCell ⟨hp, 1, none⟩ (.slice (some ⟨g7, 0, none⟩) (es2.length + 1) cap7)).cell? ⟨hp, 2, none⟩ = some (.int .i64 (last + 1)) := (hB7.set_ 1 _).cell 2
          simp only [List.getElem?_toArray, List.getElem?_cons_succ, List.getElem?_cons_zero] at k7
          refine hK.out _ _ (by with_reducible assumption) (fun _ => ?_)
          clear hK K
          try simp only [List.getElem_toArray, List.getElem_cons_succ, List.getElem_cons_zero, Act.put, List.setIfInBounds_toArray, List.set_cons_zero, List.set_cons_succ]
          refine wpAnyH_take (i := 15) (v := ?_) rfl (by kernel_rfl) (by kernel_rfl) (by kernel_rfl) (fun _ _ _ h => h) (yields_pure (by rfl) (fun w => ?_)) (by with_reducible assumption) ?_
          rotate_left
          · (go_simp <;> with_reducible rfl)
          try simp only [List.getElem_toArray, List.getElem_cons_succ, List.getElem_cons_zero, Act.put, List.setIfInBounds_toArray, List.set_cons_zero, List.set_cons_succ]
          refine wpAnyH_take (i := 16) (v := ?_) rfl (by kernel_rfl) (by kernel_rfl) (by kernel_rfl) (fun _ _ _ h => h) (yields_pure (by rfl) (fun w => ?_)) (by with_reducible assumption) ?_
          rotate_left
          · (go_simp <;> with_reducible rfl)
          try simp only [List.getElem_toArray, List.getElem_cons_succ, List.getElem_cons_zero, Act.put, List.setIfInBounds_toArray, List.set_cons_zero, List.set_cons_succ]
          refine wpAnyH_ready (rs := [17]) (by kernel_rfl) (by simp) (AllReadyH.cons rfl (fun K hK => ?_) AllReadyH.nil)
          go_simp
          refine hK.out _ _ (by with_reducible assumption) (fun _ => ?_)
          clear hK K
          try simp only [List.getElem_toArray, List.getElem_cons_succ, List.getElem_cons_zero, Act.put, List.setIfInBounds_toArray, List.set_cons_zero, List.set_cons_succ]
          refine wpAnyH_done (by kernel_rfl) ?_ _
          refine NoPanic.normal ?_
          go_wp2_with fail
          go_ret
          exact ⟨rfl, hFF⟩
end Go.Proofs.YtecblclpchndiaaGreat
