/-
  MEMORY: a wheel in memory. No condition.
-/
import Derived.Test.YtldgdpekhjignaaGreatWheelDel
import Derived.Test.YtldgdpekhjignaaGreatMapF
import Derived.Test.YtldgdpekhjignaaGreatShiftPlain
import Derived.Test.YtldgdpekhjignaaGreatMapO
import Derived.Maps.OwnSet
import Derived.Maps.OwnOps
set_option linter.unusedVariables false
set_option linter.unusedSimpArgs false
namespace Go.Proofs.YtldgdpekhjignaaGreat
open Go.RowKit Go.Maps



def upS {α : Type} (vs : Nat → α) (s : Nat) (u : α) : Nat → α := fun t => if t = s then u else vs t
theorem upS_same {α : Type} (vs : Nat → α) (s : Nat) (u : α) : upS vs s u s = u := by simp [upS]
theorem upS_other {α : Type} (vs : Nat → α) {s t : Nat} (u : α) (h : t ≠ s) : upS vs s u t = vs t := by simp [upS, h]
def whC (now : Int) (vs : Nat → Value) (m : Nat) : Array Value :=
  #[.bool true, .int .i64 now, vs 0, vs 1, vs 2, vs 3, vs 4, vs 5, vs 6, vs 7, vs 8, vs 9, vs 10, vs 11, vs 12, vs 13, vs 14, vs 15, .map (some m)]
theorem lt16 {s : Nat} (h : s < 16) : s = 0 ∨ s = 1 ∨ s = 2 ∨ s = 3 ∨ s = 4 ∨ s = 5 ∨ s = 6 ∨ s = 7 ∨ s = 8 ∨ s = 9 ∨ s = 10 ∨ s = 11 ∨ s = 12 ∨ s = 13 ∨ s = 14 ∨ s = 15 := by omega
theorem whC_list (now : Int) (vs : Nat → Value) (m : Nat) {s : Nat} (h : s < 16) : (whC now vs m)[2 + s]? = some (vs s) := by
  rcases lt16 h with rfl | rfl | rfl | rfl | rfl | rfl | rfl | rfl | rfl | rfl | rfl | rfl | rfl | rfl | rfl | rfl <;> rfl
theorem whC_set (now : Int) (vs : Nat → Value) (m : Nat) {s : Nat} (h : s < 16) (u : Value) : (whC now vs m).setIfInBounds (2 + s) u = whC now (upS vs s u) m := by
  rcases lt16 h with rfl | rfl | rfl | rfl | rfl | rfl | rfl | rfl | rfl | rfl | rfl | rfl | rfl | rfl | rfl | rfl <;> rfl
theorem whC_now (now now' : Int) (vs : Nat → Value) (m : Nat) : (whC now vs m).setIfInBounds 1 (.int .i64 now') = whC now' vs m := rfl

/-- What the lists and the map of a wheel are to each other. -/
structure WI (ls : Nat → List TM) (M : Int → Option Int) : Prop where
  inl : ∀ id at_, M id = some at_ → 0 < at_ ∧ 0 ≤ id ∧ id < 256 ∧ (⟨id, at_⟩ : TM) ∈ ls (at_ % 16).toNat
  out : ∀ s, s < 16 → ∀ t ∈ ls s, M t.id = some t.at_ ∧ (t.at_ % 16).toNat = s
  nd : ∀ s, s < 16 → ((ls s).map TM.id).Nodup
theorem WI.len {ls : Nat → List TM} {M : Int → Option Int} (h : WI ls M) {s : Nat} (hs : s < 16) : (ls s).length ≤ 256 := by
  have := (h.nd s hs).length_le_of_subset (l₂ := (List.range 256).map (fun k : Nat => (k : Int))) fun x hx => by
    obtain ⟨t, ht, rfl⟩ := List.mem_map.1 hx
    have h1 := h.inl _ _ (h.out s hs t ht).1
    exact List.mem_map.2 ⟨t.id.toNat, List.mem_range.2 (by omega), by omega⟩
  simpa using this
theorem mem_stay {id : Int} {l : List TM} {t : TM} : t ∈ stay id l ↔ t ∈ l ∧ t.id ≠ id := by simp [stay]
theorem stay_map (id : Int) (l : List TM) : (stay id l).map TM.id = (l.map TM.id).filter (fun x => !(x == id)) := by
  unfold stay; rw [List.filter_map]; rfl
def noM (M : Int → Option Int) (id : Int) : Int → Option Int := fun x => if x = id then none else M x
def inM (M : Int → Option Int) (id at_ : Int) : Int → Option Int := fun x => if x = id then some at_ else M x
theorem WI.unset {ls : Nat → List TM} {M : Int → Option Int} (h : WI ls M) (id : Int) : WI (fun s => stay id (ls s)) (noM M id) := by
  refine ⟨fun id' at_ hm => ?_, fun s hs t ht => ?_, fun s hs => ?_⟩
  · unfold noM at hm
    split at hm
    · cases hm
    · next hne =>
      have := h.inl _ _ hm
      exact ⟨this.1, this.2.1, this.2.2.1, mem_stay.2 ⟨this.2.2.2, hne⟩⟩
  · obtain ⟨h1, h2⟩ := mem_stay.1 ht
    have := h.out s hs t h1
    exact ⟨by unfold noM; rw [if_neg h2]; exact this.1, this.2⟩
  · rw [stay_map]
    exact (h.nd s hs).filter _
theorem WI.set {ls : Nat → List TM} {M : Int → Option Int} (h : WI ls M) {id at_ : Int} (hn : M id = none) (ha : 0 < at_) (h0 : 0 ≤ id) (h1 : id < 256) :
    WI (upS ls (at_ % 16).toNat (ls (at_ % 16).toNat ++ [⟨id, at_⟩])) (inM M id at_) := by
  have hs16 : (at_ % 16).toNat < 16 := by omega
  refine ⟨fun id' at' hm => ?_, fun s hs t ht => ?_, fun s hs => ?_⟩
  · unfold inM at hm
    split at hm
    · next e =>
      injection hm with hm; subst hm; subst e
      exact ⟨ha, h0, h1, by rw [upS_same]; simp⟩
    · have := h.inl _ _ hm
      refine ⟨this.1, this.2.1, this.2.2.1, ?_⟩
      by_cases e : (at' % 16).toNat = (at_ % 16).toNat
      · rw [e, upS_same, ← e]; exact List.mem_append_left _ this.2.2.2
      · rw [upS_other _ _ e]; exact this.2.2.2
  · have key : ∀ t' ∈ ls s, inM M id at_ t'.id = some t'.at_ ∧ (t'.at_ % 16).toNat = s := fun t' ht' => by
      have := h.out s hs t' ht'
      refine ⟨?_, this.2⟩
      unfold inM
      rw [if_neg (fun e => by rw [e, hn] at this; cases this.1)]
      exact this.1
    by_cases e : s = (at_ % 16).toNat
    · subst e
      rw [upS_same] at ht
      rcases List.mem_append.1 ht with ht | ht
      · exact key t ht
      · simp at ht; subst ht
        exact ⟨by simp [inM], rfl⟩
    · rw [upS_other _ _ e] at ht
      exact key t ht
  · by_cases e : s = (at_ % 16).toNat
    · subst e
      rw [upS_same, List.map_append, List.nodup_append]
      refine ⟨h.nd _ hs, by simp, fun a ha' b hb => ?_⟩
      simp at hb; subst hb
      obtain ⟨t, ht, rfl⟩ := List.mem_map.1 ha'
      intro e
      have := (h.out _ hs t ht).1
      rw [e, hn] at this; cases this
    · rw [upS_other _ _ e]; exact h.nd s hs

theorem cnt_upd {f g : Nat → Bool} {i : Nat} (h : ∀ j, j ≠ i → g j = f j) : ∀ k, i < k → cnt g k + (if f i = true then 1 else 0) = cnt f k + (if g i = true then 1 else 0)
  | 0, hi => absurd hi (by omega)
  | k + 1, hi => by
    rw [cnt_succ, cnt_succ]
    by_cases e : i = k
    · subst e
      rw [cnt_congr i (fun j hj => h j (by omega))]
      omega
    · have := cnt_upd h k (by omega)
      rw [h k (fun e' => e e'.symm)]
      omega
/-- How many timers there are. -/
def sizeM (M : Int → Option Int) : Nat := cnt (fun k => (M (k : Int)).isSome) 256
theorem sizeM_no {M : Int → Option Int} {id : Int} (h0 : 0 ≤ id) (h1 : id < 256) (hs : (M id).isSome = true) : sizeM (noM M id) + 1 = sizeM M := by
  have := cnt_upd (f := fun k : Nat => (M (k : Int)).isSome) (g := fun k : Nat => (noM M id (k : Int)).isSome) (i := id.toNat) (fun j hj => by
    show (noM M id (j : Int)).isSome = (M (j : Int)).isSome
    unfold noM; rw [if_neg (by omega)]) 256 (by omega)
  have e : ((id.toNat : Nat) : Int) = id := by omega
  simp only [e] at this
  rw [hs] at this
  have e2 : (noM M id id).isSome = false := by simp [noM]
  rw [e2] at this
  simpa [sizeM] using this
theorem sizeM_in {M : Int → Option Int} {id a : Int} (h0 : 0 ≤ id) (h1 : id < 256) (hs : M id = none) : sizeM (inM M id a) = sizeM M + 1 := by
  have := cnt_upd (f := fun k : Nat => (M (k : Int)).isSome) (g := fun k : Nat => (inM M id a (k : Int)).isSome) (i := id.toNat) (fun j hj => by
    show (inM M id a (j : Int)).isSome = (M (j : Int)).isSome
    unfold inM; rw [if_neg (by omega)]) 256 (by omega)
  have e : ((id.toNat : Nat) : Int) = id := by omega
  simp only [e] at this
  rw [hs] at this
  have e2 : (inM M id a id).isSome = true := by simp [inM]
  rw [e2] at this
  simpa [sizeM] using this

structure Wh (w : World) (b m n : Nat) (now : Int) (vs : Nat → Value) (ls : Nat → List TM) (M : Int → Option Int) : Prop where
  blk : Blk w b 105 (whC now vs m)
  rows : ∀ s, s < 16 → w.ownsRow 0 114 2 (vs s) (ls s).length ((ls s).flatMap encT)
  own : ∃ D, w.ownsMap Tryz.prog 3 (plainElem Tryz.prog 3) m n D ∧ Reads dI D M ∧ Maps.size D = sizeM M
  bm : b ≠ m
  off : ∀ s, s < 16 → ∀ x ∈ (vs s).ownBlock.toList, x ≠ b ∧ x ≠ m
  apart : ∀ s t, s < 16 → t < 16 → s ≠ t → ∀ x ∈ (vs s).ownBlock.toList, x ∉ (vs t).ownBlock.toList
  wi : WI ls M
def foot (b m : Nat) (vs : Nat → Value) : List Nat := b :: m :: (List.range 16).flatMap (fun s => (vs s).ownBlock.toList)
theorem mem_foot {b m : Nat} {vs : Nat → Value} {x : Nat} : x ∈ foot b m vs ↔ x = b ∨ x = m ∨ ∃ s, s < 16 ∧ x ∈ (vs s).ownBlock.toList := by
  simp [foot, List.mem_flatMap]
section
variable {w w' : World} {b m n : Nat} {now : Int} {vs : Nat → Value} {ls : Nat → List TM} {M : Int → Option Int} {S : List Nat}
theorem Wh.chg (h : Wh w b m n now vs ls M) (hc : Chg S w w') (hS : ∀ x ∈ S, x ∉ foot b m vs) : Wh w' b m n now vs ls M := by
  obtain ⟨D, hD, hR, hZ⟩ := h.own
  refine ⟨h.blk.chg hc (fun hb => hS b hb (mem_foot.2 (.inl rfl))), fun s hs => own_chg (h.rows s hs) hc (fun x hx hm => hS x hm (mem_foot.2 (.inr (.inr ⟨s, hs, hx⟩)))), ⟨D, ownsMap_chg hD hc (fun hb => hS m hb (mem_foot.2 (.inr (.inl rfl)))), hR, hZ⟩, h.bm, h.off, h.apart, h.wi⟩
theorem Wh.chg0 (h : Wh w b m n now vs ls M) (hc : Chg [] w w') : Wh w' b m n now vs ls M := h.chg hc (by simp)
theorem Wh.lt (h : Wh w b m n now vs ls M) : ∀ x ∈ foot b m vs, x < w.heap.size := fun x hx => by
  obtain ⟨D, hD, _⟩ := h.own
  rcases mem_foot.1 hx with rfl | rfl | ⟨s, hs, hx⟩
  · exact h.blk.lt
  · exact hD.lt
  · exact (own_lt (h.rows s hs) x hx).2
end

/-- One list is another one. -/
theorem Wh.relist {w w' : World} {b m n n' : Nat} {now now' : Int} {vs : Nat → Value} {ls ls' : Nat → List TM} {M M' : Int → Option Int} {S : List Nat} {s : Nat} {v' : Value} {D' : DataW Unit} (h : Wh w b m n now vs ls M) (hs : s < 16)
    (hblk : Blk w' b 105 (whC now' (upS vs s v') m)) (hrow : w'.ownsRow 0 114 2 v' (ls' s).length ((ls' s).flatMap encT)) (hmap : w'.ownsMap Tryz.prog 3 (plainElem Tryz.prog 3) m n' D') (hR : Reads dI D' M') (hsz : Maps.size D' = sizeM M')
    (hc : Chg S w w') (hS : ∀ x ∈ S, x = b ∨ x = m ∨ x ∈ (vs s).ownBlock.toList) (hnew : ∀ x ∈ v'.ownBlock.toList, x ∈ (vs s).ownBlock.toList ∨ w.heap.size ≤ x) (hls : ∀ t, t < 16 → t ≠ s → ls' t = ls t) (hwi : WI ls' M') :
    Wh w' b m n' now' (upS vs s v') ls' M' := by
  have hbl := h.lt b (mem_foot.2 (.inl rfl))
  have hml := h.lt m (mem_foot.2 (.inr (.inl rfl)))
  have hrl : ∀ t, t < 16 → ∀ x ∈ (vs t).ownBlock.toList, x < w.heap.size := fun t ht x hx => (own_lt (h.rows t ht) x hx).2
  refine ⟨hblk, fun t ht => ?_, ⟨D', hmap, hR, hsz⟩, h.bm, fun t ht x hx => ?_, fun t u ht hu htu x hx hxu => ?_, hwi⟩
  · by_cases e : t = s
    · subst e; rw [upS_same]; exact hrow
    · rw [upS_other _ _ e, hls t ht e]
      refine own_chg (h.rows t ht) hc (fun x hx hm => ?_)
      have ho := h.off t ht x hx
      rcases hS x hm with h1 | h1 | h1
      · exact ho.1 h1
      · exact ho.2 h1
      · exact h.apart t s ht hs e x hx h1
  · by_cases e : t = s
    · subst e
      rw [upS_same] at hx
      rcases hnew x hx with h1 | h1
      · exact h.off _ ht x h1
      · omega
    · rw [upS_other _ _ e] at hx
      exact h.off t ht x hx
  · by_cases e : t = s
    · subst e
      rw [upS_same] at hx
      rw [upS_other _ _ (Ne.symm htu)] at hxu
      rcases hnew x hx with h1 | h1
      · exact h.apart _ _ ht hu htu x h1 hxu
      · have := hrl u hu x hxu; omega
    · rw [upS_other _ _ e] at hx
      by_cases e2 : u = s
      · subst e2
        rw [upS_same] at hxu
        rcases hnew x hxu with h1 | h1
        · exact h.apart _ _ ht hu htu x hx h1
        · have := hrl t ht x hx; omega
      · rw [upS_other _ _ e2] at hxu
        exact h.apart _ _ ht hu htu x hx hxu
theorem foot_relist {w : World} {b m : Nat} {vs : Nat → Value} {s : Nat} {v' : Value} (hs : s < 16) (hnew : ∀ x ∈ v'.ownBlock.toList, x ∈ (vs s).ownBlock.toList ∨ w.heap.size ≤ x) : ∀ x ∈ foot b m (upS vs s v'), x ∈ foot b m vs ∨ w.heap.size ≤ x := fun x hx => by
  rcases mem_foot.1 hx with rfl | rfl | ⟨t, ht, hx⟩
  · exact .inl (mem_foot.2 (.inl rfl))
  · exact .inl (mem_foot.2 (.inr (.inl rfl)))
  · by_cases e : t = s
    · subst e
      rw [upS_same] at hx
      rcases hnew x hx with h1 | h1
      · exact .inl (mem_foot.2 (.inr (.inr ⟨_, ht, h1⟩)))
      · exact .inr h1
    · rw [upS_other _ _ e] at hx
      exact .inl (mem_foot.2 (.inr (.inr ⟨t, ht, hx⟩)))

set_option maxHeartbeats 400000 in
theorem is_any {w : World} {b m n : Nat} {now : Int} {vs : Nat → Value} {ls : Nat → List TM} {M : Int → Option Int} (h : Wh w b m n now vs ls M) :
    Calls Tryz.prog 63 #[.pointer (some ⟨b, 0, none⟩)] w fun e w' => e = .returned (.bool true) ∧ w = w' := by
  have h0 : w.cell? ⟨b, 0, none⟩ = some (.bool true) := h.blk.cell 0
  clear h
  go_enter Tryz.func63, Tryz.ntmps63
  go_wp2
  go_ret
  exact ⟨rfl, rfl⟩

set_option maxHeartbeats 400000 in
theorem spoke_any (at_ : Int) (w : World) (h : 0 < at_) : Calls Tryz.prog 64 #[.int .i64 at_] w fun e w' => e = .returned (.int .i64 ((at_ % 16).toNat : Nat)) ∧ w = w' := by
  have e1 : at_.tmod 16 = (((at_ % 16).toNat : Nat) : Int) := by rw [Int.tmod_eq_emod_of_nonneg (by omega)]; omega
  have e2 : at_ % 16 = (((at_ % 16).toNat : Nat) : Int) := by omega
  generalize (at_ % 16).toNat = s at *
  go_enter Tryz.func64, Tryz.ntmps64
  go_wp2
  go_ret
  exact ⟨by simp [e1], rfl⟩

set_option maxHeartbeats 400000 in
theorem when_any {w : World} {b m n : Nat} {now : Int} {vs : Nat → Value} {ls : Nat → List TM} {M : Int → Option Int} (id : Int) (h : Wh w b m n now vs ls M) (hid : (Lit.int .i64 id).wf = true) :
    Calls Tryz.prog 83 #[.pointer (some ⟨b, 0, none⟩), .int .i64 id] w fun e w' => e = .returned (.tuple #[.int .i64 ((M id).getD 0), .bool (M id).isSome]) ∧ w = w' := by
  have h0 : w.cell? ⟨b, 18, none⟩ = some (.map (some m)) := h.blk.cell 18
  obtain ⟨D, hD, hR, _⟩ := h.own
  have F1 := Lib.hid (is_any h)
  have hkey : keyOf Tryz.prog 3 (.int .i64 id) = some (.int .i64 id) := keyOf_int_mk Tryz.underlying3 hid
  have hh := hR.has id
  have hat : Hid (∀ c, D.atKey (.int .i64 id) (.lit (.int .i64 0)) = .lit (.int .i64 c) → c = (M id).getD 0) := Lib.hid fun c hc => by
    cases e : M id with
    | none =>
      have h1 := (hR.at_none e (.lit (.int .i64 0))).symm.trans hc
      exact (Lit.int.inj (DataW.lit.inj h1)).2.symm
    | some x =>
      have h1 : (DataW.lit (.int .i64 x) : DataW Unit) = .lit (.int .i64 c) := (hR.at_some e (.lit (.int .i64 0))).symm.trans hc
      exact (Lit.int.inj (DataW.lit.inj h1)).2.symm
  clear h hR
  generalize hq : (M id).isSome = q at *
  have HQ := Lib.hid hq
  clear hq
  go_enter Tryz.func83, Tryz.ntmps83
  go_wp2_with fail
  refine F1.out.mono ?_
  rintro e w1 ⟨rfl, rfl⟩
  clear F1
  go_wp2_with (first | (at_lookup; refine wpList_lookup_own_ok_int _ rfl _ _ 101 rfl 3 3 .i64 lawZ Tryz.underlying101 Tryz.underlying3 (zeroZ _) m n D rfl hD _ _ rfl hkey ?_; intro c hc hwc; rw [hh]) | fail)
  go_ret2
  exact ⟨by rw [← hat.out c hc]; rfl, rfl⟩
end Go.Proofs.YtldgdpekhjignaaGreat
