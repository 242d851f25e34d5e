/-
  WALKS over package health: Nodes (the map's keys, sorted). Condition: at most 300 calls were made.
-/
import Derived.Test.YtgbdbeaflilmlaaHealthF5
import Derived.Test.YtgbdbeaflilmlaaShelfH
import Derived.Sort.OwnSortedInts
set_option linter.unusedVariables false
set_option linter.unusedSimpArgs false
namespace Go.Proofs.Ytgbdbeaflilmlaa
open Go.RowKit Go.Maps Go.Sort

section
variable {P : Program} {k e : TypeId} {κ : Type} {K : KV P k κ} {w w' : World} {b r n s cnt : Nat} {M : κ → Option Value} {left : Lit → Bool} {ss : List (κ × Value)}
theorem OMR.kept (h : OMR K w b r n M s left cnt ss) {row : Option Nat} (hg : w.grownBy w' row) (hb : some b ≠ row) (hr : some r ≠ row) : OMR K w' b r n M s left cnt ss := by
  obtain ⟨D, h1, h2⟩ := h
  exact ⟨D, h1.kept hg hb hr, h2⟩
theorem OMR.alloc (h : OMR K w b r n M s left cnt ss) (o : Obj) : OMR K (w.alloc o) b r n M s left cnt ss := by
  obtain ⟨D, h1, h2⟩ := h
  exact ⟨D, h1.alloc o, h2⟩
theorem OMR.left_eq (h : OMR K w b r n M s left cnt ss) : w.rangeLeft b r = cnt := by
  obtain ⟨D, h1, h2⟩ := h
  exact h1.left_eq
theorem OMR.lt (h : OMR K w b r n M s left cnt ss) : b < w.heap.size ∧ r < w.heap.size := by
  obtain ⟨D, h1, h2⟩ := h
  exact ⟨h1.owns.lt, h1.lt⟩
end
theorem zsorted_rising {ss : List Int} (hn : ss.Nodup) : (ss.mergeSort (fun x y => decide (x ≤ y))).Pairwise (· < ·) := by
  have hs : (ss.mergeSort (fun x y => decide (x ≤ y))).Pairwise (fun a b => decide (a ≤ b) = true) :=
    List.pairwise_mergeSort (fun a b c h1 h2 => by simp at *; omega) (fun a b => by simp; omega) ss
  have hn' : (ss.mergeSort (fun x y => decide (x ≤ y))).Nodup := (List.mergeSort_perm ss _).nodup_iff.2 hn
  exact (hs.and hn').imp fun {a b} ⟨h1, h2⟩ => by simp at h1; omega
theorem zsort_eq {l s : List Int} (hp : s.Perm l) (hs : s.Pairwise (· < ·)) : l.mergeSort (fun x y => decide (x ≤ y)) = s := by
  have hn : l.Nodup := hp.nodup_iff.1 (hs.imp (fun h => by omega))
  exact List.Perm.eq_of_pairwise (le := (· < · : Int → Int → Prop)) (fun a b _ _ h1 h2 => by omega) (zsorted_rising hn) hs ((List.mergeSort_perm l _).trans hp.symm)
theorem nodes_rise {K : Nat} {c : CK} (h : CI K c) : (nodesC c.l).Pairwise (· < ·) := List.Pairwise.map _ (fun a b h => h) h.srt
theorem litZ (w : World) (n : Int) : Sl (w.alloc (.cells #[.int .i64 n] 3)) 0 1 (.slice (some ⟨w.heap.size, 0, none⟩) 1 1) 1 [.int .i64 n] :=
  Sl.of_own (own_lit (base := 0) w 3 1 1 #[.int .i64 n] (Nat.zero_le _) (by simp [maxLen]) rfl)

set_option maxRecDepth 100000 in
set_option maxHeartbeats 2000000 in
theorem hnodes_any {W w : World} {cb K : Nat} {c : CK} {S : List Nat} (h : CkS W w cb K c S) (hK : K ≤ 300) :
    Calls Try.prog 23 #[.pointer (some ⟨cb, 0, none⟩)] w fun e w' => ∃ v, e = .returned v ∧ w'.ownsRow w.heap.size 3 1 v c.l.length ((nodesC c.l).map (Value.int .i64)) ∧ Chg [] w w' := by
  obtain ⟨⟨m, q, G, nn, vs, sq, its, hr, hfo, hnn, hs0, hs1⟩, hci, hcW, hnew⟩ := h
  have F1 := Lib.hid (his_any hr)
  have c1 : w.cell? ⟨cb, 1, none⟩ = some (.map (some m)) := hr.blk.cell 1
  have hom := hr.om
  have hml := hom.lt
  have HRI := Lib.hid (nodes_rise hci)
  have hlK := hci.len
  have HWF : Hid (∀ x ∈ nodesC c.l, (Lit.int .i64 x).wf = true) := Lib.hid fun x hx => by
    obtain ⟨b, hb, rfl⟩ := List.mem_map.1 hx
    have := hci.ok b hb
    exact wf_i64 (by omega) (by omega)
  have HNL : Hid (c.l.length = (nodesC c.l).length) := Lib.hid (by simp [nodesC])
  have HMB : Hid (∀ x v, mB G c.l x = some v → x ∈ nodesC c.l) := Lib.hid fun x v h => by
    unfold mB at h
    split at h
    · assumption
    · cases h
  have HMS : Hid (∀ x, x ∈ nodesC c.l → (mB G c.l x).isSome = true) := Lib.hid fun x h => by simp [mB, h]
  clear hr hci hcW hnew hfo
  generalize mB G c.l = M at *
  generalize nodesC c.l = NL at *
  generalize c.l.length = N at *
  go_enter Try.func23, Try.ntmps23
  go_wp2_with fail
  refine F1.out.mono ?_
  rintro e w1 ⟨rfl, rfl⟩
  clear F1
  go_wp2_with (first
    | (at_range; refine wpList_range_om (K := KZ) rfl _ 59 rfl Try.underlying59 rfl hom ?_; intro w0 left0 cnt0 hrg0 hc0 hs0')
    | go_in)
  go_frame
  generalize hre : w.heap.size = r at *
  have hmr : m ≠ r := by omega
  go_loopw [3] (fun v' wr' => ∃ (left : Lit → Bool) (cnt : Nat) (ss : List (Int × Value)), OMR KZ wr' m r nn M N left cnt ss ∧
      wr'.ownsRow (r + 1) 3 1 v' (ss.map Prod.fst).length ((ss.map Prod.fst).map (Value.int .i64)) ∧ Hid (ss.Pairwise (fun a b => a.1 ≠ b.1) ∧ ∀ p ∈ ss, p.1 ∈ NL) ∧ Chg [] w wr')
    (fun _ wr' => wr'.rangeLeft m r)
  case atStart => exact ⟨_, _, [], hrg0, World.ownsRow_nil .., Lib.hid ⟨List.Pairwise.nil, by simp⟩, hc0⟩
  case round =>
    obtain ⟨left, cnt, ss, hrg, hrow, HSS, hcw⟩ := hrel
    have hszw := hcw.size
    have hrl := hrg.lt
    go_wp2_with (first
      | (at_next; refine wpList_next_om (K := KZ) rfl _ rfl rfl hrg ?_ ?_)
      | go_in)
    · intro hnd hin
      have hperm : NL.Perm (ss.map Prod.fst) := by
        refine (List.perm_ext_iff_of_nodup (HRI.out.imp (fun h => by omega)) hnd).2 fun x => ?_
        constructor
        · intro hx
          obtain ⟨v, hv⟩ := Option.isSome_iff_exists.1 (HMS.out x hx)
          exact List.mem_map.2 ⟨(x, v), (hin _ _).2 ⟨HWF.out x hx, hv⟩, rfl⟩
        · intro hx
          obtain ⟨p, hp, rfl⟩ := List.mem_map.1 hx
          exact HSS.out.2 p hp
      have hlen := hperm.length_eq
      have hso := zsort_eq hperm HRI.out
      have hlt := own_lt hrow
      generalize ss.map Prod.fst = D at *
      have HSO := Lib.hid (And.intro hso (And.intro hlen hlt))
      rw [← HNL.out] at hlen
      clear hso hperm hin hnd hlt
      rcases hrow.2 with ⟨hvn, hn0⟩ | ⟨g, cap, cur, hvn, hbase, hb, h1, h2, h3, h4⟩
      · subst hvn
        have hDn : D = [] := List.eq_nil_of_length_eq_zero hn0
        have HDn := Lib.hid hDn
        clear hrow hDn
        go_wp2_with (first | (go_at_call 61; refine (Try.slices_Sort_int_none _ _ _).mono ?_; rintro e w' ⟨rfl, rfl⟩) | fail)
        go_ret
        refine ⟨_, rfl, ?_, hcw⟩
        have hN0 : N = 0 := by rw [hlen, HDn.out]; rfl
        have hNL : NL = [] := by rw [← HSO.out.1, HDn.out]; simp
        rw [hN0, hNL]
        exact World.ownsRow_nil ..
      · subst hvn
        have hH := holds_of_blockI (ss := D) hb (by simpa using h4)
        have hgl : g < wr.heap.size := (Array.getElem?_eq_some_iff.1 hb).1
        have HC := Lib.hid (Try.slices_Sort_int g 0 cap D wr hH hgl (by omega))
        clear hrow hH
        go_wp2_with (first | (go_at_call 61; refine HC.out.mono ?_; rintro e w' ⟨rfl, nn', os, rfl⟩) | fail)
        go_ret
        have hgr : Chg [g] wr (grow (putRow (Value.int .i64) (Sort.ahead wr nn') g 0 (D.mergeSort fun x y => decide (x ≤ y)).toArray) os) := (Chg.refl _ _).grown (grownBy_sortedI _) (fun k e => by cases e; exact .inl (by simp))
        have hrow9 := ownsRow_sortedI (ts := D.mergeSort fun x y => decide (x ≤ y)) (ss := D) (n := nn') (os := os) (by simp) hbase hb h1 h2 h3
        refine ⟨.slice (some ⟨g, 0, none⟩) D.length cap, rfl, ?_, hcw.trans' hgr (fun x hx => by simp at hx; subst hx; exact .inr (by omega))⟩
        have h11 := own_low hrow9 (B' := w.heap.size) (by omega)
        rw [HSO.out.1] at h11 ⊢
        rw [hlen]
        exact h11
    · intro x v w2 left2 cnt2 hok hMx hrg2 hlt2 hc2 hsz2 hen
      have hxN : x ∈ NL := HMB.out x v hMx
      simp only [show ∀ y, KZ.val y = .int .i64 y from fun _ => rfl] at hen ⊢
      have hrow2 := own_chg hrow hc2 (fun y hy => by have := (own_lt hrow y hy).1; simp; omega)
      have HC2 := Lib.hid (hcw.trans' hc2 (fun y hy => by simp at hy; subst hy; exact .inr (by omega)))
      have HS2 : Hid ((ss ++ [(x, v)]).Pairwise (fun a b => a.1 ≠ b.1) ∧ ∀ p ∈ ss ++ [(x, v)], p.1 ∈ NL) := Lib.hid (by
        obtain ⟨D', _, _, _, h4⟩ := hrg2
        refine ⟨?_, fun p hp => ?_⟩
        · have := h4.1
          rw [List.Nodup, List.pairwise_map] at this
          exact this
        · rcases List.mem_append.1 hp with hp | hp
          · exact HSS.out.2 p hp
          · simp at hp; subst hp; exact hxN)
      have hlss : (ss.map Prod.fst).length ≤ 300 := by
        have h9 : (ss.map Prod.fst).Nodup := by
          have := HSS.out.1
          rw [List.Nodup, List.pairwise_map]
          exact this
        have h10 := h9.length_le_of_subset (l₂ := NL) (fun y hy => by obtain ⟨p, hp, rfl⟩ := List.mem_map.1 hy; exact HSS.out.2 p hp)
        have := HNL.out
        omega
      have hcat := litZ w2 x
      have hone : Hid (∀ u ∈ ([.int .i64 x] : List Value), u.oneCell' = true) := Lib.hid (by intro u hu; simp at hu; subst hu; rfl)
      have hrl2 := hrg2.lt
      have HRG := Lib.hid hrg2
      have HL1 := Lib.hid (And.intro hrg.left_eq hlt2)
      have hszr : r < w2.heap.size := by omega
      clear hMx hok hxN hrg hlt2 hrow hc2 hrg2 hsz2
      generalize hL0 : ss.map Prod.fst = L0 at *
      have HL0 := Lib.hid hL0
      clear hL0
      go_wp2_with (first
        | (at_builtin; refine wpList_app elZ rfl (.tmp 17) (.tmp 19) rfl (r + 1) rfl (hrow2.alloc _) rfl hcat hone.out (by unfold maxLen; omega) (by omega) (by first | omega | (simp; omega)) ?_; intro v5 w5 hown5 hc5 hb5; go_frame)
        | go_in)
      replace hc5 : Chg u3.ownBlock.toList (w2.alloc (.cells #[.int .i64 x] 3)) w5 := hc5
      have hrg5 := (HRG.out.alloc (.cells #[.int .i64 x] 3)).kept hc5.toGrown (by intro e; have := (own_lt hrow2 m (by rw [← e]; simp)).1; omega) (by intro e; have := (own_lt hrow2 r (by rw [← e]; simp)).1; omega)
      have hlf := hrg5.left_eq
      have HR5 := Lib.hid hrg5
      have HC5 := Lib.hid ((HC2.out.alloc (.cells #[.int .i64 x] 3)).trans' hc5 (fun y hy => .inr (by have := (own_lt hrow2 y hy).1; omega)))
      clear hrg5 hc5 hb5
      go_roundw
      case rel =>
        refine ⟨_, cnt2, ss ++ [(x, v)], HR5.out, ?_, HS2, HC5.out⟩
        rw [List.map_append, HL0.out]
        simpa using hown5
      case measure =>
        rw [hlf, HL1.out.1]; exact HL1.out.2
end Go.Proofs.Ytgbdbeaflilmlaa
