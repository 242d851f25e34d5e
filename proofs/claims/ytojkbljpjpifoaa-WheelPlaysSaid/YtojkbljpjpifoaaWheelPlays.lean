/-
  WALK: WheelPlays. Condition: the calls read as records of integers.
-/
import Derived.Test.YtojkbljpjpifoaaWheelRef
import Derived.Test.YtojkbljpjpifoaaWheelOnce
set_option linter.unusedVariables false
set_option linter.unusedSimpArgs false
namespace Go.Proofs.Ytojkbljpjpifoaa
open Go.RowKit

/-- The document's list and the wheel's map. -/
structure Sync (l : List TM) (M : Int → Option Int) (now : Int) : Prop where
  nd : (l.map TM.id).Nodup
  eq : ∀ id a, M id = some a ↔ (⟨id, a⟩ : TM) ∈ l
  fut : ∀ id a, M id = some a → now < a
theorem Sync.len {l : List TM} {M : Int → Option Int} {now : Int} (h : Sync l M now) (hr : ∀ id a, M id = some a → 0 ≤ id ∧ id < 256) : l.length = sizeM M := by
  have hn : (((List.range 256).filter (fun k => (M ((k : Nat) : Int)).isSome)).map (fun k : Nat => (k : Int))).Nodup := by
    refine List.Pairwise.map _ (fun a b h => ?_) ((List.nodup_range).filter _)
    intro e; exact h (by omega)
  have hp : (l.map TM.id).Perm (((List.range 256).filter (fun k => (M ((k : Nat) : Int)).isSome)).map (fun k : Nat => (k : Int))) := (List.perm_ext_iff_of_nodup h.nd hn).2 fun x => by
    rw [List.mem_map, List.mem_map]
    constructor
    · rintro ⟨t, ht, rfl⟩
      have h1 := (h.eq t.id t.at_).2 ht
      have h2 := hr _ _ h1
      refine ⟨t.id.toNat, List.mem_filter.2 ⟨List.mem_range.2 (by omega), ?_⟩, by omega⟩
      rw [show ((t.id.toNat : Nat) : Int) = t.id by omega, h1]; rfl
    · rintro ⟨k, hk, rfl⟩
      obtain ⟨_, h2⟩ := List.mem_filter.1 hk
      obtain ⟨a, ha⟩ := Option.isSome_iff_exists.1 h2
      exact ⟨⟨k, a⟩, (h.eq _ _).1 ha, rfl⟩
  have := hp.length_eq
  rw [List.length_map, List.length_map] at this
  rw [this, sizeM, cnt, List.countP_eq_length_filter]
theorem Sync.unset {l : List TM} {M : Int → Option Int} {now : Int} (h : Sync l M now) (id : Int) : Sync (stay id l) (noM M id) now := by
  refine ⟨by rw [stay_map]; exact h.nd.filter _, fun id' a => ?_, fun id' a hm => ?_⟩
  · rw [mem_stay, ← h.eq]
    unfold noM
    by_cases e : id' = id
    · simp [e]
    · simp [e]
  · unfold noM at hm
    split at hm
    · cases hm
    · exact h.fut _ _ hm
theorem Sync.set {l : List TM} {M : Int → Option Int} {now : Int} (h : Sync l M now) (id a2 : Int) (ha : now < a2) : Sync (stay id l ++ ([⟨id, a2⟩] : List TM)) (inM (noM M id) id a2) now := by
  have hu := h.unset id
  refine ⟨?_, fun id' a => ?_, fun id' a hm => ?_⟩
  · rw [List.map_append, List.nodup_append]
    refine ⟨hu.nd, by simp, fun x hx y hy e => ?_⟩
    simp at hy; subst hy; subst e
    obtain ⟨t, ht, e2⟩ := List.mem_map.1 hx
    exact (mem_stay.1 ht).2 e2
  · rw [List.mem_append, ← hu.eq]
    unfold inM
    by_cases e : id' = id
    · subst e
      simp [noM]
      exact ⟨fun h => h.symm, fun h => h.symm⟩
    · simp [e]
  · unfold inM at hm
    split at hm
    · injection hm with hm; omega
    · exact hu.fut _ _ hm
theorem Sync.due {l : List TM} {M : Int → Option Int} {now : Int} {ls : Nat → List TM} (h : Sync l M now) (hw : WI ls M) : Sync (later (now + 1) l) (foldM (dueOf (now + 1) (ls ((now + 1) % 16).toNat)) M) (now + 1) := by
  have key : ∀ x, x ∈ dueOf (now + 1) (ls ((now + 1) % 16).toNat) ↔ M x = some (now + 1) := fun x => ⟨due_in hw, fun hm => mem_due.2 (hw.inl _ _ hm).2.2.2⟩
  refine ⟨?_, fun id a => ?_, fun id a hm => ?_⟩
  · exact h.nd.sublist (List.Sublist.map _ List.filter_sublist)
  · rw [foldM_val]
    unfold later
    rw [List.mem_filter, ← h.eq]
    by_cases hin : id ∈ dueOf (now + 1) (ls ((now + 1) % 16).toNat)
    · rw [if_pos hin]
      have := (key id).1 hin
      rw [this]
      simp
      omega
    · rw [if_neg hin]
      constructor
      · intro hm
        have h1 := h.fut _ _ hm
        refine ⟨hm, ?_⟩
        have : ¬ a = now + 1 := fun e => hin ((key id).2 (e ▸ hm))
        simp; omega
      · exact fun hm => hm.1
  · rw [foldM_val] at hm
    split at hm
    · cases hm
    · next hin =>
      have h1 := h.fut _ _ hm
      have : ¬ a = now + 1 := fun e => hin ((key id).2 (e ▸ hm))
      omega
theorem Sync.sorted {l : List TM} {M : Int → Option Int} {now : Int} {ls : Nat → List TM} (h : Sync l M now) (hw : WI ls M) :
    (dueOf (now + 1) (ls ((now + 1) % 16).toNat)).mergeSort (fun x y => decide (x ≤ y)) = dueR (now + 1) l 256 := by
  have hri := dueR_rise (nw := now + 1) h.nd 256
  have hn1 : (dueR (now + 1) l 256).Nodup := hri.imp (fun h => by omega)
  have hn2 := due_nodup (nw := now + 1) (hw.nd ((now + 1) % 16).toNat (by omega))
  refine sort_eq ((List.perm_ext_iff_of_nodup hn1 hn2).2 fun x => ?_) hri
  rw [mem_dueR]
  constructor
  · rintro ⟨_, _, a, ha, hle⟩
    have h1 := (h.eq x a).2 ha
    have h2 := h.fut _ _ h1
    rw [show a = now + 1 by omega] at h1
    exact mem_due.2 (hw.inl _ _ h1).2.2.2
  · intro hx
    have h1 := due_in hw hx
    have h2 := hw.inl _ _ h1
    exact ⟨h2.2.1, by omega, now + 1, (h.eq _ _).1 h1, by omega⟩
def Look (m : List TM) (id a : Int) (t : Bool) : Prop := (t = false ∧ a = 0 ∧ ∀ x ∈ m, x.id ≠ id) ∨ (t = true ∧ (⟨id, a⟩ : TM) ∈ m)
theorem Look.nil (id : Int) : Look [] id 0 false := .inl ⟨rfl, rfl, by simp⟩
theorem Look.hit {m : List TM} {id a : Int} {t : Bool} (h : Look m id a t) (x : TM) (hx : x.id = id) : Look (m ++ [x]) id x.at_ true := by
  obtain ⟨xi, xa⟩ := x
  simp only at hx; subst hx
  exact .inr ⟨rfl, by simp⟩
theorem Look.miss {m : List TM} {id a : Int} {t : Bool} (h : Look m id a t) (x : TM) (hx : ¬ x.id = id) : Look (m ++ [x]) id a t := by
  rcases h with ⟨h1, h2, h3⟩ | ⟨h1, h2⟩
  · refine .inl ⟨h1, h2, fun y hy => ?_⟩
    rcases List.mem_append.1 hy with hy | hy
    · exact h3 y hy
    · simp at hy; subst hy; exact hx
  · exact .inr ⟨h1, List.mem_append_left _ h2⟩
theorem Look.done {l : List TM} {M : Int → Option Int} {now id a : Int} {t : Bool} (h : Look l id a t) (hs : Sync l M now) : a = (M id).getD 0 ∧ t = (M id).isSome := by
  rcases h with ⟨h1, h2, h3⟩ | ⟨h1, h2⟩
  · have : M id = none := by
      cases e : M id with
      | none => rfl
      | some x => exact absurd rfl (h3 _ ((hs.eq _ _).1 e))
    rw [this, h1, h2]; exact ⟨rfl, rfl⟩
  · have := (hs.eq _ _).2 h2
    rw [this, h1]; exact ⟨rfl, rfl⟩
theorem own_zero {w : World} {B size n : Nat} {e : TypeId} {v : Value} {xs : List Value} (h : w.ownsRow B e size v n xs) : w.ownsRow 0 e size v n xs := by
  refine ⟨h.1, ?_⟩
  rcases h.2 with h2 | ⟨g, cap, cur, hv, _, r⟩
  · exact .inl h2
  · exact .inr ⟨g, cap, cur, hv, Nat.zero_le _, r⟩

/-- The wheel and the document's row, apart. -/
structure RowF (W w : World) (b m n : Nat) (now : Int) (vs : Nat → Value) (ls : Nat → List TM) (M : Int → Option Int) (L : List TM) (lv : Value) : Prop where
  ow : OW W w b m n now vs ls M
  row : w.ownsRow 0 29 2 lv L.length (L.flatMap encT)
  far : ∀ x ∈ lv.ownBlock.toList, x ∉ foot b m vs
theorem RowF.step {W w w1 : World} {b m n n1 : Nat} {now now1 : Int} {vs vs1 : Nat → Value} {ls ls1 : Nat → List TM} {M M1 : Int → Option Int} {L : List TM} {lv : Value} (h : RowF W w b m n now vs ls M L lv) (hw : Wh w1 b m n1 now1 vs1 ls1 M1) (hc : Chg (foot b m vs) w w1)
    (hf : ∀ x ∈ foot b m vs1, x ∈ foot b m vs ∨ w.heap.size ≤ x) : RowF W w1 b m n1 now1 vs1 ls1 M1 L lv :=
  ⟨h.ow.next hw hc hf, own_chg h.row hc h.far, fun x hx hm => (hf x hm).elim (h.far x hx) (fun h1 => by have := (own_lt h.row x hx).2; omega)⟩
theorem RowF.chg0 {W w w1 : World} {b m n : Nat} {now : Int} {vs : Nat → Value} {ls : Nat → List TM} {M : Int → Option Int} {L : List TM} {lv : Value} (h : RowF W w b m n now vs ls M L lv) (hc : Chg [] w w1) : RowF W w1 b m n now vs ls M L lv :=
  ⟨h.ow.chg0 hc, own_chg h.row hc (by simp), h.far⟩
theorem RowF.fresh {W w w1 : World} {b m n : Nat} {now : Int} {vs : Nat → Value} {ls : Nat → List TM} {M : Int → Option Int} {L : List TM} {lv : Value} (h : OW W w b m n now vs ls M) (hr : w1.ownsRow w.heap.size 29 2 lv L.length (L.flatMap encT)) (hc : Chg [] w w1) : RowF W w1 b m n now vs ls M L lv :=
  ⟨h.chg0 hc, own_zero hr, fun x hx hm => by have h1 := (own_lt hr x hx).1; have h2 := h.wh.lt x hm; omega⟩

set_option maxRecDepth 100000 in
set_option maxHeartbeats 4000000 in
theorem plays_any {W : World} {B : Nat} {v : Value} {ops : List OpR} (h : SlO W B v ops) (hm : ops.length ≤ maxLen) (hok : ∀ x ∈ ops, okO x) :
    Calls Try.prog 3 #[v] W fun e w' => e = .returned (.bool true) ∧ Chg [] W w' := by
  have K0 := Lib.hid lives23
  obtain ⟨A, c, rfl⟩ := Sl.form h
  have HO := Lib.hid (fun w1 (hc : Chg [] W w1) => (show SlO w1 B (.slice A ops.length c) ops from Sl.chg0 h hc))
  have HK := Lib.hid (fun i x (hx : ops[i]? = some x) => (hok x (List.mem_of_getElem? hx)).2)
  have HX : Hid (∀ i, i < ops.length → ∃ x, ops[i]? = some x) := Lib.hid fun i hi => ⟨_, List.getElem?_eq_getElem hi⟩
  have hm2 : ops.length ≤ 9223372036854775807 := by unfold maxLen at hm; omega
  clear h hok hm
  generalize hq : ops.length = q at *
  go_enter Try.func3, Try.ntmps3
  go_wp2_with fail
  refine (new_any W).mono ?_
  rintro e w1 ⟨b, m, rfl, h1, hc1, hf1⟩
  have o1 : OW W w1 b m 0 0 vs0 ls0 M0 := ⟨h1, hc1, hf1⟩
  have hs0 : Hid (Sync [] M0 0) := Lib.hid ⟨by simp, fun id a => by simp [M0], fun id a h => by simp [M0] at h⟩
  clear h1 hc1 hf1
  go_wp2_with fail
  go_loopw [4, 5, 6] (fun lv nv iv wr => ∃ (k n' : Nat) (κ : Int) (vs' : Nat → Value) (ls' : Nat → List TM) (M' : Int → Option Int) (L : List TM), k ≤ q ∧ k ≤ 200 ∧ iv = .int .i64 k ∧ nv = .int .i64 κ ∧ 0 ≤ κ ∧ κ ≤ k ∧ n' ≤ k ∧
    OW W wr b m n' κ vs' ls' M' ∧ Hid (Sync L M' κ) ∧ wr.ownsRow 0 29 2 lv L.length (L.flatMap encT) ∧ Hid (∀ x ∈ lv.ownBlock.toList, x ∉ foot b m vs')) (fun _ _ iv _ => q - (intOf iv).toNat)
  case atStart => exact ⟨0, 0, 0, vs0, ls0, M0, [], by omega, by omega, rfl, rfl, by omega, by omega, by omega, o1, hs0, World.ownsRow_nil .., Lib.hid (fun x hx => by simp [Value.ownBlock] at hx)⟩
  case round =>
    clear o1 hs0
    obtain ⟨k, n', κ, vs', ls', M', L, hk, hk2, rfl, rfl, hκ0, hκ1, hn', ho, hsy, hrow, hfar⟩ := hrel
    by_cases hlt : k < q ∧ k < 200
    · obtain ⟨hk1, hk3⟩ := hlt
      obtain ⟨x, hx⟩ := HX.out k hk1
      obtain ⟨b', o', rfl, g0, g1, g2⟩ := (HO.out wr ho.chg).one hq hx
      have hwx := HK.out k x hx
      obtain ⟨xk, id, xa⟩ := x
      simp only at g0 g1 g2 hwx
      obtain ⟨hwi, hwa⟩ := hwx
      have hkI : (k : Int) < (q : Int) := by omega
      have hLen : Hid (L.length = sizeM M') := Lib.hid (hsy.out.len (fun id a hm => ⟨(ho.wh.wi.inl _ _ hm).2.1, (ho.wh.wi.inl _ _ hm).2.2.1⟩))
      have hL256 : L.length ≤ 256 := by rw [hLen.out]; exact cnt_le _ _
      have hal := (Chg.refl [] wr).alloc (.cells #[.int .i64 xk, .int .i64 id, .int .i64 xa] 27)
      have hO := ho.chg0 hal
      have hrw := own_chg hrow hal (by simp)
      have hB7 := Blk.new wr 27 #[.int .i64 xk, .int .i64 id, .int .i64 xa]
      obtain ⟨A5, c5, hv5⟩ := Sl.form (Sl.of_own hrow)
      subst hv5
      have HT := Lib.hid (fun w1 (hc : Chg [] (wr.alloc (.cells #[.int .i64 xk, .int .i64 id, .int .i64 xa] 27)) w1) => (show SlT w1 0 (.slice A5 L.length c5) L from Sl.chg0 (Sl.of_own hrw) hc))
      have HTX : Hid (∀ i, i < L.length → ∃ x, L[i]? = some x) := Lib.hid fun i hi => ⟨_, List.getElem?_eq_getElem hi⟩
      have HO7 := Lib.hid hO
      have HRW := Lib.hid hrw
      have HB7 := Lib.hid hB7
      have h7f : Hid (wr.heap.size ∉ foot b m vs') := Lib.hid (fun hm => absurd (ho.wh.lt _ hm) (by omega))
      clear HO HK HX hx ho hrow hO hrw hB7 hal
      generalize hg7 : wr.heap.size = g7 at *
      generalize hLl : L.length = nl at *
      go_wp2_with fail
      generalize wr.alloc (.cells #[.int .i64 xk, .int .i64 id, .int .i64 xa] 27) = w2 at *
      clear g0 g1 g2
      go_loopw [8, 9, 10] (fun av tv jv wx => ∃ (j : Nat) (a : Int) (t : Bool), j ≤ nl ∧ jv = .int .i64 j ∧ av = .int .i64 a ∧ tv = .bool t ∧ Hid (Look (L.take j) id a t) ∧ Chg [] w2 wx) (fun _ _ jv _ => nl - (intOf jv).toNat)
      case atStart => exact ⟨0, 0, false, by omega, rfl, rfl, rfl, Lib.hid (by simpa using Look.nil id), Chg.refl _ _⟩
      case round =>
        obtain ⟨j, a, t, hj, rfl, rfl, rfl, hLk, hcx⟩ := hrel
        have c0 := HB7.out.chg hcx (by simp)
        by_cases hjn : j < nl
        · obtain ⟨y, hy⟩ := HTX.out j hjn
          obtain ⟨b9, o9, rfl, y0, y1⟩ := (HT.out wr hcx).one hLl hy
          have hLn := hLk.out.miss y
          have hLh := hLk.out.hit y
          rw [← take_snoc hy] at hLn hLh
          have d1 : wr.cell? ⟨g7, 1, none⟩ = some (.int .i64 id) := c0.cell 1
          obtain ⟨yi, ya⟩ := y
          simp only at y0 y1 hLn hLh
          have HLn := Lib.hid hLn
          have HLh := Lib.hid hLh
          have hjI : (j : Int) < (nl : Int) := by omega
          have hcz : Hid (∀ q, Chg [] w2 (wr.drewN q) ∧ (wr.drewN q).cell? ⟨b9, o9 + j * 2 + 1, none⟩ = some (.int .i64 ya)) := Lib.hid fun q => ⟨hcx.drewN q, ((Chg.refl [] wr).drewN q).cell y1 (by simp)⟩
          clear hLn hLh HT HTX hLk c0 hy HO7 HRW HB7 hsy hLen hfar K0 h7f
          by_cases hyi : yi = id
          · have hb : (yi == id) = true := by simp [hyi]
            go_wp2_with fail
            go_quiet (fail)
            obtain ⟨z1, z2⟩ := hcz.out nq
            go_wp2_with fail
            go_roundw
            case rel => exact ⟨j + 1, ya, true, by omega, by go_num, rfl, rfl, Lib.hid (HLh.out hyi), z1⟩
            case measure => simp [intOf]; omega
          · have hb : (yi == id) = false := by simp [hyi]
            go_wp2_with fail
            go_quiet (fail)
            obtain ⟨z1, z2⟩ := hcz.out nq
            go_wp2_with fail
            go_roundw
            case rel => exact ⟨j + 1, a, t, by omega, by go_num, rfl, rfl, Lib.hid (HLn.out hyi), z1⟩
            case measure => simp [intOf]; omega
        · obtain rfl : j = nl := by omega
          have hLd := hLk.out
          rw [← hLl, List.take_length] at hLd
          obtain ⟨e1, e2⟩ := hLd.done hsy.out
          subst e1 e2
          have hO := HO7.out.chg0 hcx
          have hrw := own_chg HRW.out hcx (by simp)
          have d0 : wr.cell? ⟨g7, 0, none⟩ = some (.int .i64 xk) := c0.cell 0
          have d1 : wr.cell? ⟨g7, 1, none⟩ = some (.int .i64 id) := c0.cell 1
          have d2 : wr.cell? ⟨g7, 2, none⟩ = some (.int .i64 xa) := c0.cell 2
          have F1 := Lib.hid (when_any id hO.wh hwi)
          have hself : ((M' id).getD 0 != (M' id).getD 0) = false := by simp
          have hselfb : ((M' id).isSome != (M' id).isSome) = false := by simp
          clear HT HTX hLk hLd HO7 HRW HB7 c0
          have P0 : RowF W wr b m n' κ vs' ls' M' L (.slice A5 j c5) := ⟨hO, by rw [hLl]; exact hrw, hfar.out⟩
          have FU := Lib.hid (unset_any id hO.wh hwi)
          generalize hta : (M' id).getD 0 = ta at *
          generalize htb : (M' id).isSome = tb at *
          have HP := Lib.hid P0
          clear hO hrw hfar hLen P0
          go_wp2_with fail
          refine F1.out.mono ?_
          rintro e w9 ⟨rfl, rfl⟩
          clear F1
          generalize hkm : xk.tmod 6 = km at *
          by_cases hkA : 0 ≤ km ∧ km ≤ 2
          · obtain ⟨k1, k2⟩ := hkA
            clear FU
            by_cases hir : 0 ≤ id ∧ id < 256
            · obtain ⟨i1, i2⟩ := hir
              obtain ⟨a2, ha2⟩ : ∃ a2, a2 = max xa (κ + 1) := ⟨_, rfl⟩
              have hS4 : Sync (stay id L ++ ([⟨id, a2⟩] : List TM)) (inM (noM M' id) id a2) κ := hsy.out.set id a2 (by omega)
              have HS4 := Lib.hid hS4
              have F2 := Lib.hid (set_any id xa a2 HP.out.ow.wh i1 i2 (by omega) hκ0 (by omega) ha2 hwa)
              clear hS4
              go_wp2_with fail
              refine F2.out.mono ?_
              rintro e w4 ⟨rfl, vs4, hw4, hc4, hf4⟩
              clear F2
              have e1 := hc4.cell d1 h7f.out
              have e2 := hc4.cell d2 h7f.out
              have P4 := HP.out.step hw4 hc4 hf4
              have F3 := Lib.hid (set23_any κ id xa a2 (Sl.of_own P4.row) (by rw [hLl]; exact hL256) hκ0 (by omega) ha2)
              have HO4 := Lib.hid P4.ow
              clear hw4 hc4 hf4 P4 HP d0 d1 d2 ha2
              go_wp2_with fail
              refine F3.out.mono ?_
              rintro e w5 ⟨v5, rfl, r5, hc5⟩
              have P5 := RowF.fresh HO4.out r5 hc5
              have S5 := HS4.out
              clear F3 HO4 HS4 r5 hc5 e1 e2 hsy hLl
              obtain ⟨A9, c9, rfl⟩ := Sl.form (Sl.of_own P5.row)
              have hl9 := Sync.len S5 (fun id a hm => ⟨(P5.ow.wh.wi.inl _ _ hm).2.1, (P5.ow.wh.wi.inl _ _ hm).2.2.1⟩)
              have FN := Lib.hid (now_any P5.ow.wh)
              have FL := Lib.hid (len_any P5.ow.wh)
              rw [← hl9] at FL
              have HP9 := Lib.hid P5
              have HS9 := Lib.hid S5
              clear P5 S5 hl9
              generalize hnl9 : (stay id L ++ ([⟨id, a2⟩] : List TM)).length = nl9 at *
              have hk1 : (κ != κ) = false := by simp
              have hk2 : ((nl9 : Int) != (nl9 : Int)) = false := by simp
              go_wp2_with fail
              refine FN.out.mono ?_
              rintro e w8 ⟨rfl, rfl⟩
              clear FN
              go_wp2_with fail
              refine FL.out.mono ?_
              rintro e w8 ⟨rfl, rfl⟩
              clear FL
              go_wp2_with fail
              go_roundw
              case rel => exact ⟨k + 1, n' + 1, κ, _, _, _, stay id L ++ ([⟨id, a2⟩] : List TM), by omega, by omega, by go_num, rfl, by omega, by omega, by omega, HP9.out.ow, HS9, HP9.out.row, Lib.hid HP9.out.far⟩
              case measure => simp [intOf]; omega
            · rcases (show id < 0 ∨ (0 ≤ id ∧ ¬ id < 256) by omega) with i1 | ⟨i1, i2⟩
              all_goals
                have F2 := Lib.hid (set_no id xa HP.out.ow.wh hir)
                clear hir
                go_wp2_with fail
                refine F2.out.mono ?_
                rintro e w4 ⟨rfl, rfl⟩
                have P5 := HP.out
                have S5 := hsy.out
                clear F2 HP d0 d1 d2 hsy
                have hl9 := Sync.len S5 (fun id a hm => ⟨(P5.ow.wh.wi.inl _ _ hm).2.1, (P5.ow.wh.wi.inl _ _ hm).2.2.1⟩)
                have FN := Lib.hid (now_any P5.ow.wh)
                have FL := Lib.hid (len_any P5.ow.wh)
                rw [hLl] at hl9
                rw [← hl9] at FL
                have HP9 := Lib.hid P5
                have HS9 := Lib.hid S5
                clear P5 S5 hl9
                have hk1 : (κ != κ) = false := by simp
                have hk2 : ((j : Int) != (j : Int)) = false := by simp
                go_wp2_with fail
                refine FN.out.mono ?_
                rintro e w8 ⟨rfl, rfl⟩
                clear FN
                go_wp2_with fail
                refine FL.out.mono ?_
                rintro e w8 ⟨rfl, rfl⟩
                clear FL
                go_wp2_with fail
                go_roundw
                case rel => exact ⟨k + 1, n', κ, _, _, _, L, by omega, by omega, by go_num, rfl, by omega, by omega, by omega, HP9.out.ow, HS9, HP9.out.row, Lib.hid HP9.out.far⟩
                case measure => simp [intOf]; omega
          · by_cases hk3 : km = 3
            · subst hk3
              have hS4 := Lib.hid (hsy.out.unset id)
              go_wp2_with fail
              refine FU.out.mono ?_
              rintro e w4 ⟨rfl, vs4, hw4, hc4, hf4⟩
              clear FU
              have e1 := hc4.cell d1 h7f.out
              have P4 := HP.out.step hw4 hc4 hf4
              have F3 := Lib.hid (without_any id (Sl.of_own P4.row) (by rw [hLl]; exact hL256))
              have HO4 := Lib.hid P4.ow
              clear hw4 hc4 hf4 P4 HP d0 d1 d2
              go_wp2_with fail
              refine F3.out.mono ?_
              rintro e w5 ⟨v5, rfl, r5, hc5⟩
              have P5 := RowF.fresh HO4.out r5 hc5
              have S5 := hS4.out
              clear F3 HO4 hS4 r5 hc5 e1 hsy hLl
              obtain ⟨A9, c9, rfl⟩ := Sl.form (Sl.of_own P5.row)
              have hl9 := Sync.len S5 (fun id a hm => ⟨(P5.ow.wh.wi.inl _ _ hm).2.1, (P5.ow.wh.wi.inl _ _ hm).2.2.1⟩)
              have FN := Lib.hid (now_any P5.ow.wh)
              have FL := Lib.hid (len_any P5.ow.wh)
              rw [← hl9] at FL
              have HP9 := Lib.hid P5
              have HS9 := Lib.hid S5
              clear P5 S5 hl9
              generalize hnl9 : (stay id L).length = nl9 at *
              have hk1 : (κ != κ) = false := by simp
              have hk2 : ((nl9 : Int) != (nl9 : Int)) = false := by simp
              go_wp2_with fail
              refine FN.out.mono ?_
              rintro e w8 ⟨rfl, rfl⟩
              clear FN
              go_wp2_with fail
              refine FL.out.mono ?_
              rintro e w8 ⟨rfl, rfl⟩
              clear FL
              go_wp2_with fail
              go_roundw
              case rel => exact ⟨k + 1, n', κ, _, _, _, stay id L, by omega, by omega, by go_num, rfl, by omega, by omega, by omega, HP9.out.ow, HS9, HP9.out.row, Lib.hid HP9.out.far⟩
              case measure => simp [intOf]; omega
            · have hwk : IntKind.i64.wrap (κ + 1) = κ + 1 := by rw [IntKind.wrap_i64]; omega
              have hb3 : (km == 3) = false := by simp [hk3]
              have F2 := Lib.hid (due23_any (κ + 1) (Sl.of_own HP.out.row) (by rw [hLl]; exact hL256) hsy.out.nd)
              have hS4 := Lib.hid (hsy.out.due HP.out.ow.wh.wi)
              have hs4 := Lib.hid (hsy.out.sorted HP.out.ow.wh.wi)
              have hdl := dueR_len (nw := κ + 1) hsy.out.nd 256
              clear FU
              rcases (show km < 0 ∨ (0 ≤ km ∧ ¬ km ≤ 2) by omega) with k1 | ⟨k1, k2⟩
              all_goals
                clear hkA
                go_wp2_with fail
                refine F2.out.mono ?_
                rintro e w4 ⟨v1, v2, rfl, hz4, r4, hc4⟩
                have P4 := RowF.fresh HP.out.ow r4 hc4
                have F3 := Lib.hid (advance_any P4.ow.wh hκ0 (by omega))
                have HP4 := Lib.hid P4
                have HZ4 := Lib.hid (fun w' (hc : Chg (foot b m vs') w4 w') => Sl.chg hz4 hc (fun x hx => HP.out.ow.wh.lt x hx))
                clear F2 hz4 r4 hc4 P4 HP d0 d1 d2
                go_wp2_with fail
                refine F3.out.mono ?_
                rintro e w5 ⟨v5, D, rfl, hD, hS5, vs5, hw5, hc5, hf5⟩
                have hZ5 : SlZ w5 w4.heap.size v5 (dueR (κ + 1) L 256) := by
                  subst hD
                  unfold SlZ
                  rw [← hs4.out, List.length_mergeSort]
                  exact hS5
                have F4 := Lib.hid (ints_any hZ5 (HZ4.out w5 hc5) (by omega) (by omega))
                have P5 := HP4.out.step hw5 hc5 hf5
                rw [hD] at P5
                have HP5 := Lib.hid P5
                have hdt : decide (dueR (κ + 1) L 256 = dueR (κ + 1) L 256) = true := by simp
                rw [hdt] at F4
                clear F3 hZ5 HZ4 HP4 hS5 hD hw5 hc5 hf5 P5 hdt hs4
                go_wp2_with fail
                refine F4.out.mono ?_
                rintro e w6 ⟨rfl, d6, rfl⟩
                have P6 := HP5.out.chg0 ((Chg.refl [] w5).drewN d6)
                have S6 := hS4.out
                clear F4 HP5 hS4 hdl hsy hLl
                generalize w5.drewN d6 = w6 at *
                obtain ⟨A9, c9, rfl⟩ := Sl.form (Sl.of_own P6.row)
                have hl9 := Sync.len S6 (fun id a hm => ⟨(P6.ow.wh.wi.inl _ _ hm).2.1, (P6.ow.wh.wi.inl _ _ hm).2.2.1⟩)
                have FN := Lib.hid (now_any P6.ow.wh)
                have FL := Lib.hid (len_any P6.ow.wh)
                rw [← hl9] at FL
                have HP9 := Lib.hid P6
                have HS9 := Lib.hid S6
                clear P6 S6 hl9
                generalize hnl9 : (later (κ + 1) L).length = nl9 at *
                have hk1 : ((κ + 1) != (κ + 1)) = false := by simp
                have hk2 : ((nl9 : Int) != (nl9 : Int)) = false := by simp
                go_wp2_with fail
                refine FN.out.mono ?_
                rintro e w8 ⟨rfl, rfl⟩
                clear FN
                go_wp2_with fail
                refine FL.out.mono ?_
                rintro e w8 ⟨rfl, rfl⟩
                clear FL
                go_wp2_with fail
                go_roundw
                case rel => exact ⟨k + 1, n', (κ + 1), _, _, _, later (κ + 1) L, by omega, by omega, by go_num, rfl, by omega, by omega, by omega, HP9.out.ow, HS9, HP9.out.row, Lib.hid HP9.out.far⟩
                case measure => simp [intOf]; omega
    · have hcz := ho.chg
      clear HO HK HX ho hsy hrow hfar
      rcases (show ¬ k < q ∨ (k < q ∧ ¬ k < 200) by omega) with g1 | ⟨g1, g2⟩
      all_goals
        clear hlt
        go_wp2_with fail
        refine (K0.out _).mono ?_
        rintro e w5 ⟨rfl, hc5⟩
        go_wp2_with fail
        go_ret
        exact ⟨rfl, hcz.trans hc5⟩
end Go.Proofs.Ytojkbljpjpifoaa
