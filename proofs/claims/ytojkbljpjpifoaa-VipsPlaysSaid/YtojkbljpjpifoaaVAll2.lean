/-
  WALKS over package vips: all services, in order. Condition: the table is one that New made, or none at all.
-/
import Derived.Test.YtojkbljpjpifoaaVAll
import Derived.Sort.OwnSorted
set_option linter.unusedVariables false
set_option linter.unusedSimpArgs false
namespace Go.Proofs.Ytojkbljpjpifoaa
open Go.RowKit Go.Maps Go.Sort Go.Proofs Go.Lib Go.Shelf

def SlS (w : World) (B : Nat) (v : Value) (l : List Sv) : Prop := Sl w B 17 v l.length (l.flatMap encS)
theorem sortSv {w : World} {base : Nat} {v : Value} {L : List Sv} (hown : w.ownsRow base 72 17 v L.length (L.flatMap encS)) (hok : ∀ S ∈ L, okS S ∧ 1 ≤ S.port ∧ S.port ≤ 65535) (hnd : L.Nodup) (hlen : L.length ≤ 1000) :
    Calls Try.prog 40 #[v, .func (.func 41) #[] #[]] w fun e w' => e = .returned (.tuple #[]) ∧ ∃ L', L'.Perm L ∧ Srt L' ∧ SlS w' base v L' ∧ Chg v.ownBlock.toList w w' := by
  have eg : ∀ args w, (callFunc 41 args).run Try.prog w = .ok (.enter 41 args) w := enters_of Try.func41 (by kernel_rfl) rfl
  rcases hown.2 with ⟨rfl, h0⟩ | ⟨g, cap, cur, rfl, hbase, hb, h1, h2, h3, h4⟩
  · obtain rfl : L = [] := List.eq_nil_of_length_eq_zero h0
    have hcon := AnyF.slices_SortFunc_none Try.sortSv none 0 (.func (.func 41) #[] #[]) w
    refine hcon.mono ?_
    rintro e w' ⟨rfl, rfl⟩
    exact ⟨rfl, [], List.Perm.refl _, List.Pairwise.nil, Sl.nil _ _ _, Chg.refl _ _⟩
  · obtain ⟨d, hd⟩ : ∃ d : List PS, d.map (·.1) = L := by
      refine ⟨L.attach.map fun r => ⟨r.1, hok r.1 r.2⟩, ?_⟩
      rw [List.map_map]
      simp [Function.comp_def]
    have hdl : d.length = L.length := by rw [← hd, List.length_map]
    have hfl : L.flatMap encS = d.flatMap encP := by rw [← hd, List.flatMap_map]; rfl
    have hH : HoldsK encP 17 w g 0 d.toArray := holdsK_own encP_len (by omega) hb (by rw [hdl, ← hfl]; exact h4)
    have hgl : g < w.heap.size := (Array.getElem?_eq_some_iff.1 hb).1
    have hcon := AnyQ.slices_SortFunc Try.sortSv 17 Try.isAgg72 Try.sizeOf72 encP encP_len (fun x => encS_one x.1) cfS swoP 41 #[] g 0 cap d.toArray w eg
      (fun _ _ _ _ x y => cmpS x y _) hH hgl (by simp; omega)
    have hsz : d.toArray.size = L.length := by simp [hdl]
    rw [hsz] at hcon
    refine Calls.mono hcon ?_
    rintro e w' ⟨rfl, d', n, os, hp, hs, rfl⟩
    rw [← hsz] at hp hs
    obtain ⟨e1, e2, e3⟩ := sorted_of hp hs
    have e2' : d'.toList.Perm d := by simpa using e2
    have hH' := holdsK_sortWorldK encP 17 w g 0 n d.toArray d' os hgl hH e1
    have hperm : (d'.toList.map (·.1)).Perm L := by rw [← hd]; exact e2'.map _
    refine ⟨rfl, d'.toList.map (·.1), hperm, ?_, ?_, chg_sortK _ _⟩
    · have hnd' : (d'.toList.map (·.1)).Nodup := hperm.nodup_iff.2 hnd
      have hp1 := List.pairwise_map.1 hnd'
      unfold Srt
      rw [List.pairwise_map]
      exact (e3.and hp1).imp fun {a b} ⟨h1, h2⟩ => by
        rw [ltP] at h1
        exact (ltS_total h2).resolve_right (by rw [h1]; simp)
    · have := sl_of_holdsK encP_len (by omega) hH' hbase (by omega : d'.size ≤ cap)
      have hl' : (d'.toList.map (·.1)).length = L.length := hperm.length_eq
      unfold SlS
      rw [hl', List.flatMap_map]
      have hs' : d'.size = L.length := by omega
      rw [hs'] at this
      exact this

theorem elSv : El Try.prog 67 72 (.agg (arrS ⟨adZ, 0⟩)) 17 24 := ⟨Try.underlying67, by kernel_rfl, rfl, by omega⟩
theorem infS {S : Sv} : (Try.prog.info? 72).map (·.size) = some (arrS S).size := by
  show _ = some 17
  kernel_rfl
theorem one_arrS (S : Sv) : (arrS S).toList.all (·.oneCell') = true := rfl

set_option maxHeartbeats 400000 in
theorem vall_no {w : World} {p : Value} (h : NoT w p) : Calls Try.prog 25 #[p] w fun e w' => e = .returned (.slice none 0 0) ∧ w = w' := by
  have F1 := Lib.hid (vis_no h)
  clear h
  go_enter Try.func25, Try.ntmps25
  go_wp2_with fail
  refine F1.out.mono ?_
  rintro e w1 ⟨rfl, rfl⟩
  go_wp2_with fail
  go_ret
  exact ⟨rfl, rfl⟩

set_option maxRecDepth 100000 in
set_option maxHeartbeats 2000000 in
theorem vall_any {w : World} {b m n : Nat} {l : List Sv} (h : Tb w b m n l) (hl : LI l) (hn : n < 10000) :
    Calls Try.prog 25 #[.pointer (some ⟨b, 0, none⟩)] w fun e w' => ∃ v, e = .returned v ∧ SlS w' w.heap.size v l ∧ Chg [] w w' := by
  have F1 := Lib.hid (vis_any h)
  have h1 : w.cell? ⟨b, 0, none⟩ = some (.map (some m)) := h.blk.cell 0
  obtain ⟨D, hD, hR, hZ⟩ := h.own
  have HR := Lib.hid hR
  have HL := Lib.hid hl
  have hbl := hD.lt
  have hsz : Maps.size D ≤ 8 := by have := hl.len; omega
  clear h hR hZ hl
  go_enter Try.func25, Try.ntmps25
  go_wp2_with fail
  refine F1.out.mono ?_
  rintro e w1 ⟨rfl, rfl⟩
  clear F1
  go_wp2_with (first
    | (at_range; refine wpList_range_own _ rfl _ 74 rfl 72 3 lawS Try.underlying74 _ m n _ rfl hD ?_; intro w0 hrg0 hg0 hs0)
    | go_in)
  go_frame
  generalize hre : w.heap.size = r at *
  go_loopw [3] (fun v' wr' => ∃ (left : Lit → Bool) (cnt : Nat) (ss : List (Sv × Int)), wr'.ranges Try.prog 72 (plainElem Try.prog 3) m r n D left cnt ∧ ss.length + cnt ≤ Maps.size D ∧
      wr'.ownsRow (r + 1) 72 17 v' (ss.map Prod.fst).length ((ss.map Prod.fst).flatMap encS) ∧ Hid (CameG KS (MS l) left ss) ∧ Chg [] w wr')
    (fun _ wr' => wr'.rangeLeft m r)
  case atStart =>
    exact ⟨_, _, [], hrg0, by simp, World.ownsRow_nil .., Lib.hid (CameG.start HR.out), ⟨hg0.os, hg0.tape, hg0.output, hg0.size, fun k hk _ => hg0.block k hk (by simp)⟩⟩
  case round =>
    obtain ⟨left, cnt, ss, hrg, hcs, hrow, hM, hnx'⟩ := hrel
    have hw := hnx'.size
    go_wp2_with (first
      | (at_next; refine wpList_next_ranges _ rfl _ rfl 72 lawS (plainElem Try.prog 3) Sv.v (Value.int .i64) (fun key kl hk => by obtain ⟨S, hS, _⟩ := key_sv_inv svTy1 hk; exact ⟨S, hS⟩) (fun v y hv => by obtain ⟨c, rfl, _⟩ := plainElem_int_inv Try.underlying3 hv; exact ⟨c, rfl⟩) m r n _ _ _ rfl hrg ?_ ?_)
      | go_in)
    · intro hc0 hl0
      have hin : ∀ p, p ∈ ss ↔ (okS p.1 ∧ MS l p.1 = some p.2) := hM.out.done hl0
      have hmem : ∀ S, S ∈ ss.map Prod.fst ↔ S ∈ l := fun S => by
        rw [List.mem_map]
        constructor
        · rintro ⟨p, hp, rfl⟩
          have := ((hin p).1 hp).2
          unfold MS at this
          split at this
          · assumption
          · cases this
        · intro hS
          exact ⟨(S, 1), (hin _).2 ⟨(HL.out.ok S hS).1, by unfold MS; rw [if_pos hS]⟩, rfl⟩
      have hnd := hM.out.1
      have hperm : (ss.map Prod.fst).Perm l := (List.perm_ext_iff_of_nodup hnd HL.out.srt.nodup).2 hmem
      have hlen := hperm.length_eq
      have FS := Lib.hid (sortSv hrow (fun S hS => HL.out.ok S ((hmem S).1 hS)) hnd (by have := HL.out.len; omega))
      have hbk := Lib.hid (own_lt hrow)
      have HP := Lib.hid hperm
      clear hin hmem hnd hperm hl0 hrow
      generalize ss.map Prod.fst = L0 at *
      go_wp2_with fail
      refine FS.out.mono ?_
      rintro e w5 ⟨rfl, L, hLp, hLs, hS, hc5⟩
      clear FS
      have hLe : Hid (L = l) := Lib.hid (hLs.one HL.out.srt (hLp.trans HP.out))
      go_wp2_with fail
      go_ret
      obtain rfl := hLe.out
      exact ⟨_, rfl, Sl.less hS (by omega), hnx'.trans' hc5 (fun x hx => .inr (by have := hbk.out x hx; omega))⟩
    · intro x c kl yd yp w2 cnt2 hkey hlk hv hat hrg2 hlt hg2 hs2 hen
      obtain ⟨S', hS', hok, rfl⟩ := key_sv_inv svTy1 hkey
      obtain rfl := Sv.v_inj hS'
      obtain ⟨c', ec, hyy, hwc⟩ := plainElem_int_inv Try.underlying3 hv
      cases ec
      injection hyy with hyd hyp
      have hmx : MS l x = some c := by
        cases e : MS l x with
        | none =>
          have h1 : Maps.has D (keyS x) = false := (HR.out.2 x hok).2 e
          rw [Maps.has_true_of_atKey hat] at h1; cases h1
        | some r' =>
          have h1 : D.atKey (keyS x) (dI c) = dI r' := HR.out.at_some (n := x) hok e (dI c)
          rw [hat, hyd] at h1
          have h2 : c = r' := by simpa [dI] using h1
          rw [h2]
      have HC := Lib.hid (hM.out.step hok hmx hlk)
      have hrow2 := hrow.kept hg2 (Or.inr (row_ne_iter hrow hrg).symm)
      clear hs2 hv hat hyd hyp hmx hkey hS' hok
      have hsq := hg2.size
      generalize hL0 : ss.map Prod.fst = L0 at *
      have HL0 := Lib.hid hL0
      have hLl : L0.length ≤ 8 := by rw [← hL0, List.length_map]; omega
      clear hL0
      have hn2 : Blk (w2.alloc (.cells (arrS ⟨adZ, 0⟩) 72)) w2.heap.size 72 (arrS ⟨adZ, 0⟩) := Blk.new _ _ _
      have hc2 : Chg [] w w2 := hnx'.trans' (T := [r]) ⟨hg2.os, hg2.tape, hg2.output, hg2.size, fun k hk hne => hg2.block k hk (fun e => hne (by cases e; simp))⟩ (by intro x hx; simp at hx; right; omega)
      go_wp2_with (first
        | (refine wpList_store_blk rfl 72 _ _ rfl rfl hn2 rfl rfl rfl infS (one_arrS x) ?_; intro w3 hn3 hc3)
        | (refine wpList_load_blk rfl 72 _ rfl hn3 rfl _ Try.underlying72 rfl infS ?_; have hr3 : r + 1 ≤ w3.heap.size := by { have h1 := hrg2.lt; have h2 := hc3.size; simp at h2; omega }; have hc3' : Chg [] w w3 := (hc2.alloc _).trans' hc3 (by intro x hx; simp at hx; right; have := hc2.size; omega); have hrow4 := (own_chg (S := [w2.heap.size]) (hrow2.alloc _) hc3 (by intro x hx; have := (own_lt hrow2 x hx).2; simp; omega)).alloc (.cells (arrS x) 72); have hcat : Sl (w3.alloc (.cells (arrS x) 72)) 0 17 (.slice (some ⟨w3.heap.size, 0, none⟩) 1 1) 1 (encS x) := Sl.of_own (own_lit (base := 0) w3 72 17 1 (arrS x) (Nat.zero_le _) (by simp [maxLen]) rfl))
        | (at_builtin; refine wpList_app elSv rfl (.tmp 17) (.tmp 19) rfl (r + 1) rfl hrow4 rfl hcat (encS_one x) (by unfold maxLen; omega) (by omega) (by simp; omega) ?_; intro v5 w5 hown5 hc5 hb5; go_frame)
        | go_in)
      go_roundw
      case rel =>
        have hrg3 := (hrg2.alloc (.cells (arrS ⟨adZ, 0⟩) 72)).kept (row := some w2.heap.size) (Chg.toGrown hc3) (by have := hrg2.owns.lt; intro e; injection e; omega) (by have := hrg2.lt; intro e; injection e; omega)
        have hrg4 := hrg3.alloc (.cells (arrS x) 72)
        refine ⟨_, cnt2, ss ++ [(x, c)], hrg4.kept hc5.toGrown (row_ne_low hrow4 (by omega)) (row_ne_iter hrow4 hrg4), by simp; omega, ?_, HC, (hc3'.alloc _).trans' hc5 (fun x hx => .inr (by have := (own_lt hrow4 x hx).1; omega))⟩
        rw [List.map_append, HL0.out]
        simpa using hown5
      case measure =>
        have hrg3 := (hrg2.alloc (.cells (arrS ⟨adZ, 0⟩) 72)).kept (row := some w2.heap.size) (Chg.toGrown hc3) (by have := hrg2.owns.lt; intro e; injection e; omega) (by have := hrg2.lt; intro e; injection e; omega)
        have hrg4 := hrg3.alloc (.cells (arrS x) 72)
        rw [(hrg4.kept hc5.toGrown (row_ne_low hrow4 (by omega)) (row_ne_iter hrow4 hrg4)).left_eq, hrg.left_eq]; exact hlt
end Go.Proofs.Ytojkbljpjpifoaa
