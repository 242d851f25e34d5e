/-
  WALKS over package conns: All, count, Busy. Condition: a table that New made.
-/
import Derived.Test.YtgbdbeaflilmlaaConnS
import Derived.Test.YtgbdbeaflilmlaaOmr
set_option linter.unusedVariables false
set_option linter.unusedSimpArgs false
namespace Go.Proofs.Ytgbdbeaflilmlaa
open Go.RowKit Go.Maps

set_option maxRecDepth 100000 in
set_option maxHeartbeats 4000000 in
theorem call_any {w : World} {tb m1 m2 m3 q nn K : Nat} {vs : Value} {sq : Int} {its : List It} {c : TC} (h : CtR w tb m1 m2 m3 q nn vs sq its c) (hci : CI K c) :
    Calls Try.prog 47 #[.pointer (some ⟨tb, 0, none⟩)] w fun e w' => ∃ v A, e = .returned v ∧ SrtE A ∧ A.Perm (c.l.map (·.1)) ∧ SlN w' w.heap.size v A ∧ Chg [] w w' := by
  have F1 := Lib.hid (cis_any h)
  have c3 : w.cell? ⟨tb, 3, none⟩ = some (.map (some m1)) := h.blk.cell 3
  have hom := h.oe
  have hml := hom.lt
  have HKF : Hid (∀ x v, mE c.l x = some v → ∃ e, (∃ n, (e, n) ∈ c.l) ∧ e.fl = x ∧ v = .agg (arrN e)) := Lib.hid fun x v hx => by
    unfold mE at hx
    cases hd : c.l.find? (fun p => decide (flC p = x)) with
    | none => rw [hd] at hx; cases hx
    | some p =>
      rw [hd] at hx
      injection hx with hx
      have h2 := List.find?_some hd
      exact ⟨p.1, ⟨p.2, List.mem_of_find?_eq_some hd⟩, by simpa using h2, hx.symm⟩
  have HKB : Hid (∀ p ∈ c.l, okF p.1.fl ∧ mE c.l p.1.fl = some (.agg (arrN p.1))) := Lib.hid fun p hp => by
    refine ⟨hci.ok p hp, ?_⟩
    unfold mE
    rw [find_nodup hci.nd hp (b := p.1.fl) rfl]; rfl
  have HCI := Lib.hid hci
  have hln : (c.l.map flC).length ≤ 64 := by have := hci.len; have := hci.n1; simp; omega
  have HNL : Hid (∀ x v, mE c.l x = some v → x ∈ c.l.map flC) := Lib.hid fun x v hx => by
    obtain ⟨e, ⟨n, hn⟩, rfl, _⟩ := HKF.out x v hx
    exact List.mem_map.2 ⟨_, hn, rfl⟩
  clear h hci
  generalize mE c.l = M at *
  generalize c.l.map flC = NL at *
  go_enter Try.func47, Try.ntmps47
  go_wp2_with fail
  refine F1.out.mono ?_
  rintro e w1 ⟨rfl, rfl⟩
  clear F1
  go_wp2_with (first
    | (at_range; refine wpList_range_om (K := KF) rfl _ 125 rfl Try.underlying125 rfl hom ?_; intro w0 left0 cnt0 hrg0 hc0 hs0')
    | go_in)
  go_frame
  generalize hre : w.heap.size = r at *
  have hmr : m1 ≠ r := by omega
  go_loopw [3] (fun v' wr' => ∃ (left : Lit → Bool) (cnt : Nat) (ss : List (Fl × Value)) (es : List En), OMR KF wr' m1 r nn M c.l.length left cnt ss ∧
      wr'.ownsRow (r + 1) 96 46 v' es.length (es.flatMap encN) ∧ Chg [] w wr' ∧ Hid (ss = es.map (fun e => (e.fl, .agg (arrN e))) ∧ ∀ e ∈ es, ∃ n, (e, n) ∈ c.l))
    (fun _ wr' => wr'.rangeLeft m1 r)
  case atStart => exact ⟨_, _, [], [], hrg0, World.ownsRow_nil .., hc0, Lib.hid ⟨rfl, by simp⟩⟩
  case round =>
    obtain ⟨left, cnt, ss, es, hrg, hrow, hcw, HE⟩ := hrel
    have hszw := hcw.size
    have hrl := hrg.lt
    go_wp2_with (first
      | (at_next; refine wpList_next_om (K := KF) rfl _ rfl rfl hrg ?_ ?_)
      | go_in)
    · intro hnd hin0
      have hin : ∀ p : Fl × Value, p ∈ ss ↔ (okF p.1 ∧ M p.1 = some p.2) := fun p => by first | exact hin0 p | exact hin0 p.1 p.2
      have hfl : ss.map Prod.fst = es.map (·.fl) := by rw [HE.out.1, List.map_map]; rfl
      have hnd' : (es.map (·.fl)).Nodup := by rw [← hfl]; exact hnd
      have hel : es.length ≤ 64 := by
        have := hnd.length_le_of_subset (l₂ := NL) (fun y hy => by
          obtain ⟨p, hp, rfl⟩ := List.mem_map.1 hy
          exact HNL.out _ _ ((hin p).1 hp).2)
        rw [hfl, List.length_map] at this
        omega
      have HP : Hid (es.Perm (c.l.map (·.1))) := Lib.hid (by
        have hn1 : es.Nodup := by unfold List.Nodup at hnd' ⊢; exact (List.pairwise_map.1 hnd').imp fun {a b} h e => h (by rw [e])
        have hn2 : (c.l.map (·.1)).Nodup := by
          have := HCI.out.nd
          unfold List.Nodup at this ⊢
          rw [List.pairwise_map] at this ⊢
          exact this.imp fun {a b} h e => h (by unfold flC; rw [e])
        refine (List.perm_ext_iff_of_nodup hn1 hn2).2 fun e => ⟨fun he => ?_, fun he => ?_⟩
        · obtain ⟨n, hn⟩ := HE.out.2 e he
          exact List.mem_map.2 ⟨_, hn, rfl⟩
        · obtain ⟨p, hp, rfl⟩ := List.mem_map.1 he
          have h1 := (hin (p.1.fl, .agg (arrN p.1))).2 (HKB.out p hp)
          rw [HE.out.1] at h1
          obtain ⟨e', he', heq⟩ := List.mem_map.1 h1
          obtain ⟨n, hn⟩ := HE.out.2 e' he'
          have h2 : e'.fl = p.1.fl := by injection heq
          have h3 := HCI.out.same hn hp h2
          rw [← h3]; exact he')
      have FS := Lib.hid (sortEn_any (L := es) hrow (fun f hf => by obtain ⟨n, hn⟩ := HE.out.2 f hf; exact HCI.out.ok _ hn) hnd' (by omega))
      have HCW := Lib.hid hcw
      have hlt := Lib.hid (own_lt hrow)
      clear hrow hnd hin hin0 hrg hcw hfl hnd' hel
      go_wp2_with fail
      refine FS.out.mono ?_
      rintro e w5 ⟨rfl, A, hp, hs, hsl, hc5⟩
      have HZ := Lib.hid (And.intro hp (And.intro hs (And.intro hsl hc5)))
      clear hp hs hsl hc5 FS
      go_wp2_with fail
      go_ret
      refine ⟨_, A, rfl, HZ.out.2.1, HZ.out.1.trans HP.out, Sl.less HZ.out.2.2.1 (by omega), HCW.out.trans' HZ.out.2.2.2 (fun y hy => .inr (by have := (hlt.out y hy).1; omega))⟩
    · intro x v w2 left2 cnt2 hok hMx hrg2 hlt2 hc2 hsz2 hen
      simp only [show ∀ y, KF.val y = Fl.v y from fun _ => rfl] at hen ⊢
      obtain ⟨ee, ⟨nm, hee⟩, rfl, rfl⟩ := HKF.out x v hMx
      have hrow2 := own_chg hrow hc2 (fun y hy => by have := (own_lt hrow y hy).1; simp; omega)
      have HC2 := Lib.hid (hcw.trans' hc2 (fun y hy => by simp at hy; subst hy; exact .inr (by omega)))
      have hlss : es.length ≤ 64 := by
        have h9 := hrg.came
        have := h9.1.length_le_of_subset (l₂ := NL) (fun y hy => by
          obtain ⟨p, hp, rfl⟩ := List.mem_map.1 hy
          exact HNL.out _ _ (h9.2 p hp).2)
        rw [HE.out.1, List.map_map, List.length_map] at this
        omega
      have hrl2 := hrg2.lt
      have hcA := (Chg.refl [] w2).alloc (.cells arrN0 96)
      have hBf : Blk (w2.alloc (.cells arrN0 96)) w2.heap.size 96 arrN0 := Blk.new _ _ _
      have HRG := Lib.hid (hrg2.alloc (.cells arrN0 96))
      have HL1 := Lib.hid (And.intro hrg.left_eq hlt2)
      have hszr : r < w2.heap.size := by omega
      have HE2 : Hid (ss ++ [(ee.fl, .agg (arrN ee))] = (es ++ [ee]).map (fun e => (e.fl, .agg (arrN e))) ∧ ∀ e ∈ es ++ [ee], ∃ n, (e, n) ∈ c.l) := Lib.hid ⟨by rw [HE.out.1]; simp, fun e he => by
        rcases List.mem_append.1 he with he | he
        · exact HE.out.2 e he
        · simp at he; subst he; exact ⟨nm, hee⟩⟩
      clear hMx hok hrg hlt2 hrow hc2 hrg2 hsz2 hee HE
      go_upto_region 7 with (first
        | (refine wpList_store_blk rfl 96 _ _ rfl rfl hBf rfl rfl rfl (infN (e := ee)) (arrN_one ee) ?_; intro w3 hB3 hc3)
        | fail)
      have HRG3 := Lib.hid (HRG.out.kept (row := some w2.heap.size) (by simpa using Chg.toGrown (r := some w2.heap.size) (by simpa using hc3)) (by intro e; injection e with e; omega) (by intro e; injection e with e; omega))
      have hcA3 : Chg [] w2 w3 := hcA.trans' hc3 (by intro y hy; simp at hy; subst hy; exact .inr (Nat.le_refl _))
      have hrow3 := own_chg hrow2 hcA3 (by simp)
      have r3 := hB3.rangeQ
      have hcat := litEn w3 ee
      have hone : Hid (∀ u ∈ encN ee, u.oneCell' = true) := Lib.hid (encN_one ee)
      have hz3 := hcA3.size
      have HC3 := Lib.hid (HC2.out.trans hcA3)
      generalize hgk : w2.heap.size = gk at *
      have hrow4 := own_chg hrow3 ((Chg.refl [] w3).alloc (.cells (arrN ee) 96)) (by simp)
      clear hcA hBf hB3 hc3 hcA3 hrow2 hrow3
      go_wp2_with (first
        | (refine wpList_row 96 (.tmp 5) rfl rfl gk 0 rfl (arrN ee) _ r3 Try.underlying96 rfl infN ?_)
        | (at_builtin; refine wpList_app elEn rfl (.tmp 18) (.tmp 20) rfl (r + 1) rfl hrow4 rfl hcat hone.out (by unfold maxLen; omega) (by omega) (by first | omega | (simp; omega)) ?_; intro v5 w5 hown5 hc5 hb5; go_frame)
        | go_in)
      have hlt4 := own_lt hrow4
      replace hc5 : Chg u3.ownBlock.toList (w3.alloc (.cells (arrN ee) 96)) w5 := hc5
      have hrg5 := (HRG3.out.alloc (.cells (arrN ee) 96)).kept hc5.toGrown (by intro e; have := (hlt4 m1 (by rw [← e]; simp)).1; omega) (by intro e; have := (hlt4 r (by rw [← e]; simp)).1; omega)
      have hlf := hrg5.left_eq
      have HR5 := Lib.hid hrg5
      have HC5 := Lib.hid ((HC3.out.alloc (.cells (arrN ee) 96)).trans' hc5 (fun y hy => .inr (by have := (hlt4 y hy).1; omega)))
      clear hrg5 hc5 hb5 hlt4 hrow4
      go_roundw
      case rel =>
        refine ⟨_, cnt2, ss ++ [(ee.fl, .agg (arrN ee))], es ++ [ee], HR5.out, ?_, HC5.out, HE2⟩
        rw [← show es.flatMap encN ++ encN ee = (es ++ [ee]).flatMap encN by simp, List.length_append]
        exact hown5
      case measure =>
        rw [hlf, HL1.out.1]; exact HL1.out.2
end Go.Proofs.Ytgbdbeaflilmlaa
