/-
  WALKS over package conns: Put. Condition: a table that New made, at most 1000 calls.
-/
import Derived.Test.YtgbdbeaflilmlaaConnD
set_option linter.unusedVariables false
set_option linter.unusedSimpArgs false
namespace Go.Proofs.Ytgbdbeaflilmlaa
open Go.RowKit Go.Maps

def vN (e : En) : Value := .agg (arrN e)
section
variable {w : World} {tb m1 m2 m3 q nn : Nat} {vs : Value} {sq : Int} {its : List It} {c : TC}
set_option maxRecDepth 100000 in
set_option maxHeartbeats 2000000 in
theorem cput_kind (h : CtR w tb m1 m2 m3 q nn vs sq its c) {e : En} (h1 : e.kind ≠ 1) (h2 : e.kind ≠ 2) :
    Calls Try.prog 36 #[.pointer (some ⟨tb, 0, none⟩), .agg (arrN e)] w fun x w' => x = .returned (.bool false) ∧ Chg [] w w' := by
  have hcA := (Chg.refl [] w).alloc (.cells (arrN e) 96)
  have hBf : Blk (w.alloc (.cells (arrN e) 96)) w.heap.size 96 (arrN e) := Blk.new _ _ _
  have FF := Lib.hid (cis_any (h.chg0 hcA))
  have HC1 := Lib.hid hcA
  have ck : (w.alloc (.cells (arrN e) 96)).cell? ⟨w.heap.size, 34, none⟩ = some (.int .i64 e.kind) := hBf.cell 34
  clear h hcA
  go_enter Try.func36, Try.ntmps36
  go_upto_region 1 with fail
  generalize w.alloc (.cells (arrN e) 96) = w1 at *
  generalize w.heap.size = gf at *
  clear hBf
  go_wp2_with fail
  refine FF.out.mono ?_
  rintro e w2 ⟨rfl, rfl⟩
  clear FF
  have b12 : (e.kind != 1 && e.kind != 2) = true := by simp [h1, h2]
  go_wp2_with fail
  go_ret
  exact ⟨rfl, HC1.out⟩
/-- The table when a number was given out. -/
theorem CtR.next (h : CtR w tb m1 m2 m3 q nn vs sq its c) : CtR (w.setCell ⟨tb, 2, none⟩ (.int .i64 (c.last + 1))) tb m1 m2 m3 q nn vs sq its ⟨c.n, c.now, c.last + 1, c.l⟩ := by
  obtain ⟨d1, d2, d3, d4, d5, d6⟩ := h.d1
  obtain ⟨f1, f2, f3, f4⟩ := h.d2
  have hc : Chg [tb] w (w.setCell ⟨tb, 2, none⟩ (.int .i64 (c.last + 1))) := (Chg.refl [tb] w).setCell (.inl (by simp)) _
  obtain ⟨s2, h2⟩ := h.on
  obtain ⟨s3, h3⟩ := h.of
  exact ⟨h.blk.set_ 2 _, h.oe.chg hc (by simpa using Ne.symm d1), ⟨s2, h2.chg hc (by simpa using Ne.symm d2)⟩, ⟨s3, h3.chg hc (by simpa using Ne.symm d3)⟩,
    h.qu.chg hc (by intro x hx e; simp at e; subst e; exact f1 hx), h.d1, h.d2⟩
theorem CtR.pu_fin {w6 w7 w8 w9 w9' w10 : World} {e : En} {s2 s3 : Nat} {dl : List (En × Int)} {now last n : Int} {s1 : Nat} (h : CtR w6 tb m1 m2 m3 q nn vs sq its ⟨n, now, last + 1, dl⟩)
    (o1 : OM KF w7 m1 (nn + 1) (fun y => if y = e.fl then some (.agg (arrN e)) else mE dl y) s1) (hs1 : s1 = dl.length + 1) (hc7 : Chg [m1] w6 w7)
    (o2 : OM KF w8 m2 (nn + 1) (fun y => if y = e.fl then some (.int .i64 (last + 1)) else mN dl y) s2) (hc8 : Chg [m2] w7 w8)
    (o3 : OM KZc w9 m3 (nn + 1) (fun y => if y = last + 1 then some e.fl.v else mF dl y) s3) (hc9 : Chg [m3] w8 w9) (hc9' : Chg [] w9 w9')
    (e1 : mE (dl ++ [(e, last + 1)]) = fun g => if g = e.fl then some (.agg (arrN e)) else mE dl g)
    (e2 : mN (dl ++ [(e, last + 1)]) = fun g => if g = e.fl then some (.int .i64 (last + 1)) else mN dl g)
    (e3 : mF (dl ++ [(e, last + 1)]) = fun g => if g = last + 1 then some e.fl.v else mF dl g)
    (hpm : (its.map fun x => (x.at_, x.id)).Perm (dl.map fun p => (p.1.til, p.2)))
    (hT : Turned w9' q vs (sq + 1) (fun l' => l'.Perm (⟨e.til, last + 1, sq + 1⟩ :: its)) w10) :
    ∃ vs' its', CtR w10 tb m1 m2 m3 q (nn + 1) vs' (sq + 1) its' ⟨n, now, last + 1, dl ++ [(e, last + 1)]⟩ ∧ (its'.map fun x => (x.at_, x.id)).Perm ((dl ++ [(e, last + 1)]).map fun p => (p.1.til, p.2)) ∧ Chg (footT tb m1 m2 m3 q vs) w6 w10 ∧ ∀ x ∈ footQ q vs', x ∈ footQ q vs ∨ w6.heap.size ≤ x := by
  obtain ⟨vs', its', hqr, hok, hpp, hcq, hfq⟩ := hT
  obtain ⟨d1, d2, d3, d4, d5, d6⟩ := h.d1
  obtain ⟨f1, f2, f3, f4⟩ := h.d2
  have hz7 := hc7.size
  have hz8 := hc8.size
  have hz9 := hc9.size
  have hz9' := hc9'.size
  have hlt := h.lt
  have key : ∀ {x : Nat}, x ∈ footT tb m1 m2 m3 q vs → x ∉ footQ q vs → x ∉ footQ q vs' := fun {x} hx hn hm => (hfq x hm).elim hn (fun h3 => by have := hlt x hx; omega)
  refine ⟨vs', its', ⟨?_, ?_, ⟨s2, ?_⟩, ⟨s3, ?_⟩, ⟨hqr, hok⟩, h.d1, key (x := tb) (by simp [footT]) f1, key (x := m1) (by simp [footT]) f2, key (x := m2) (by simp [footT]) f3, key (x := m3) (by simp [footT]) f4⟩, ?_, ?_, fun x hx => (hfq x hx).imp id (fun k => by omega)⟩
  · exact ((((h.blk.chg hc7 (by simpa using d1)).chg hc8 (by simpa using d2)).chg hc9 (by simpa using d3)).chg hc9' (by simp)).chg hcq f1
  · show OM KF w10 m1 (nn + 1) (mE (dl ++ [(e, last + 1)])) (dl ++ [(e, last + 1)]).length
    rw [e1]
    rw [hs1] at o1
    rw [List.length_append, List.length_singleton]
    exact (((o1.chg hc8 (by simpa using d4)).chg hc9 (by simpa using d5)).chg hc9' (by simp)).chg hcq f2
  · show OM KF w10 m2 (nn + 1) (mN (dl ++ [(e, last + 1)])) s2
    rw [e2]
    exact ((o2.chg hc9 (by simpa using d6)).chg hc9' (by simp)).chg hcq f3
  · show OM KZc w10 m3 (nn + 1) (mF (dl ++ [(e, last + 1)])) s3
    rw [e3]
    exact (o3.chg hc9' (by simp)).chg hcq f4
  · refine (hpp.map _).trans ?_
    rw [List.map_append, List.map_cons]
    exact (List.Perm.cons _ hpm).trans (List.perm_append_singleton _ _).symm
  · exact ((((hc7.more (by simp [footT])).trans (hc8.more (by simp [footT]))).trans (hc9.more (by simp [footT]))).trans (hc9'.more (by simp))).trans (hcq.more (fun x hx => by simp [footT]; exact .inr (.inr (.inr (.inr hx)))))
set_option maxRecDepth 100000 in
set_option maxHeartbeats 4000000 in
theorem cput_yes {W : World} {S : List Nat} {K : Nat} (h : CtS W w tb K c S) (hK : K ≤ 999) {e : En} (he : okF e.fl) (hk : e.kind = 1 ∨ e.kind = 2) (hr : hasC c e.fl = true ∨ (c.l.length : Int) < c.n) :
    Calls Try.prog 36 #[.pointer (some ⟨tb, 0, none⟩), .agg (arrN e)] w fun x w' => x = .returned (.bool true) ∧ CtTo W w tb (K + 1) ⟨c.n, c.now, c.last + 1, dropL c.l e.fl ++ [(e, c.last + 1)]⟩ S w' := by
  have hcA := (Chg.refl [] w).alloc (.cells (arrN e) 96)
  have hBf : Blk (w.alloc (.cells (arrN e) 96)) w.heap.size 96 (arrN e) := Blk.new _ _ _
  have h1 := h.chg0 hcA
  obtain ⟨⟨m1, m2, m3, q, nn, vs, sq, its, hcr, hS, hnn, hs0, hs1, hpm⟩, hci, hcW, hnew⟩ := id h1
  have FF := Lib.hid (cis_any hcr)
  have F0 := Lib.hid (fun W' (hc : Chg [] (w.alloc (.cells (arrN e) 96)) W') => cfind_any (hcr.chg0 hc) he)
  have HI := Lib.hid (And.intro hcA (And.intro hBf (And.intro h1 hr)))
  have HT := Lib.hid hcr
  have ck : (w.alloc (.cells (arrN e) 96)).cell? ⟨w.heap.size, 34, none⟩ = some (.int .i64 e.kind) := hBf.cell 34
  have hsz : (w.alloc (.cells (arrN e) 96)).heap.size = w.heap.size + 1 := by simp
  have HGS := Lib.hid (show w.heap.size ∉ S from fun hx => Nat.lt_irrefl _ (h.lt _ hx))
  clear hcA h h1 hcr hnn hs0 hs1 hpm hci hcW hnew hr hS
  go_enter Try.func36, Try.ntmps36
  go_upto_region 1 with fail
  generalize w.alloc (.cells (arrN e) 96) = w1 at *
  have hBr := rgN_fl hBf.rangeQ
  generalize hgf : w.heap.size = gf at *
  have HK := Lib.hid hk
  clear hBf hk
  go_cut [19] (fun v wx => v = .bool false ∧ w1 = wx)
  case first =>
    have hk := HK.out
    have b12 : (e.kind != 1 && e.kind != 2) = false := by rcases hk with hk | hk <;> simp [hk]
    clear hBr
    go_wp2_with fail
    refine FF.out.mono ?_
    rintro e1 w2 ⟨rfl, rfl⟩
    go_wp2_with fail
    · go_meet
      exact ⟨rfl, rfl⟩
    · go_meet
      exact ⟨rfl, rfl⟩
  case rest =>
  obtain ⟨rfl, rfl⟩ := hcut
  clear FF ck
  go_wp2_with (first
    | (refine wpList_row 73 (.tmp 22) rfl rfl gf 0 rfl (arrF e.fl) _ hBr Try.underlying73 rfl infF ?_)
    | fail)
  refine (F0.out w1 (Chg.refl _ _)).mono ?_
  rintro e1 w2 ⟨rfl, hc2⟩
  clear F0
  generalize ((getC c e.fl).map (·.1)).getD eN0 = x at *
  have HR := Lib.hid HI.out.2.2.2
  generalize hbb : hasC c e.fl = bb at *
  have hBl : Blk (w2.alloc (.cells arrN0 96)) w2.heap.size 96 arrN0 := Blk.new _ _ _
  have HC2 := Lib.hid (hc2.trans ((Chg.refl [] w2).alloc (.cells arrN0 96)))
  have HZ2 := Lib.hid hc2.size
  clear hc2
  go_wp2_with (first
    | (refine wpList_store_blk rfl 96 _ _ rfl rfl hBl rfl rfl rfl (infN (e := x)) rfl ?_; intro w3 hB3 hc3)
    | fail)
  have HC3 : Hid (Chg [] w1 w3) := Lib.hid (HC2.out.trans' hc3 (by intro y hy; simp at hy; subst hy; exact .inr HZ2.out))
  clear hBl HC2 hB3 hc3 hBr
  go_upto_region 4 with fail
  go_cut [40] (fun v wx => v = .bool false ∧ Hid (Chg [] w1 wx))
  case first =>
    have hr := HR.out
    cases bb with
    | true =>
      clear hr
      refine wp_region_chg (by kernel_rfl) (by kernel_rfl) ?_
      repeat (first
        | ((with_reducible refine wpQuiet_skip ?_ ?_); (focus rfl); (try simp only [List.getElem_toArray, List.getElem_cons_succ, List.getElem_cons_zero, Act.put, List.setIfInBounds_toArray, List.set_cons_zero, List.set_cons_succ]))
        | ((with_reducible refine wpQuiet_pure (v := ?_) ?_ (fun w => ?_) ?_); rotate_left; (focus rfl); (focus (go_simp <;> with_reducible rfl)); (try simp only [List.getElem_toArray, List.getElem_cons_succ, List.getElem_cons_zero, Act.put, List.setIfInBounds_toArray, List.set_cons_zero, List.set_cons_succ])))
      refine wpQuiet_nil ?_
      intro w4 hc4
      have HC4 := Lib.hid (HC3.out.trans hc4)
      clear hc4
      go_wp2_with fail
      go_meet
      exact ⟨rfl, HC4⟩
    | false =>
      have hr2 : decide (c.n ≤ (c.l.length : Int)) = false := by
        rcases hr with hr | hr
        · cases hr
        · exact decide_eq_false (by omega)
      have HC30 : ∀ W, Chg [] w3 W → W.cell? ⟨tb, 3, none⟩ = some (.map (some m1)) := fun W hc => (HC3.out.trans hc).cell (HT.out.blk.cell 3) (by simp)
      have HC00 : ∀ W, Chg [] w3 W → W.cell? ⟨tb, 0, none⟩ = some (.int .i64 c.n) := fun W hc => (HC3.out.trans hc).cell (HT.out.blk.cell 0) (by simp)
      have hl := fun ty => (HT.out.oe.chg0 (HC3.out.drew)).len Try.underlying125 ty
      have hS0 : Chg [] w3 w3.drew := (Chg.refl [] w3).drew
      clear hr
      refine wp_region_noPanic ?_
      refine wp_region_held_drew (S := Chg [] w3) (by kernel_rfl) hS0 (fun _ => ?_)
      refine wpAnyH_take (i := 0) (v := ?_) rfl (by kernel_rfl) (by kernel_rfl) (by kernel_rfl) (fun _ _ _ h => h) (yields_pure (by rfl) (fun w => ?_)) (by with_reducible assumption) ?_
      rotate_left
      · (go_simp <;> with_reducible rfl)
      try simp only [List.getElem_toArray, List.getElem_cons_succ, List.getElem_cons_zero, Act.put, List.setIfInBounds_toArray, List.set_cons_zero, List.set_cons_succ]
      refine wpAnyH_take (i := 1) (v := ?_) rfl (by kernel_rfl) (by kernel_rfl) (by kernel_rfl) (fun _ _ _ h => h) (yields_pure (by rfl) (fun w => ?_)) (by with_reducible assumption) ?_
      rotate_left
      · (go_simp <;> with_reducible rfl)
      try simp only [List.getElem_toArray, List.getElem_cons_succ, List.getElem_cons_zero, Act.put, List.setIfInBounds_toArray, List.set_cons_zero, List.set_cons_succ]
      refine wpAnyH_take (i := 2) (v := ?_) rfl (by kernel_rfl) (by kernel_rfl) (by kernel_rfl) (fun _ _ _ h => h) (yields_pure (by rfl) (fun w => ?_)) (by with_reducible assumption) ?_
      rotate_left
      · (go_simp <;> with_reducible rfl)
      try simp only [List.getElem_toArray, List.getElem_cons_succ, List.getElem_cons_zero, Act.put, List.setIfInBounds_toArray, List.set_cons_zero, List.set_cons_succ]
      refine wpAnyH_take (i := 3) (v := ?_) rfl (by kernel_rfl) (by kernel_rfl) (by kernel_rfl) (fun _ _ _ h => h) (yields_pure (by rfl) (fun w => ?_)) (by with_reducible assumption) ?_
      rotate_left
      · (go_simp <;> with_reducible rfl)
      try simp only [List.getElem_toArray, List.getElem_cons_succ, List.getElem_cons_zero, Act.put, List.setIfInBounds_toArray, List.set_cons_zero, List.set_cons_succ]
      refine wpAnyH_take (i := 4) (v := ?_) rfl (by kernel_rfl) (by kernel_rfl) (by kernel_rfl) (fun _ _ _ h => h) (yields_pure (by rfl) (fun w => ?_)) (by with_reducible assumption) ?_
      rotate_left
      · (go_simp <;> with_reducible rfl)
      try simp only [List.getElem_toArray, List.getElem_cons_succ, List.getElem_cons_zero, Act.put, List.setIfInBounds_toArray, List.set_cons_zero, List.set_cons_succ]
      refine wpAnyH_take (i := 5) (v := ?_) rfl (by kernel_rfl) (by kernel_rfl) (by kernel_rfl) (fun _ _ _ h => h) (yields_pure (by rfl) (fun w => ?_)) (by with_reducible assumption) ?_
      rotate_left
      · (go_simp <;> with_reducible rfl)
      try simp only [List.getElem_toArray, List.getElem_cons_succ, List.getElem_cons_zero, Act.put, List.setIfInBounds_toArray, List.set_cons_zero, List.set_cons_succ]
      refine wpAnyH_take (i := 6) rfl (by kernel_rfl) (by kernel_rfl) (by kernel_rfl) (fun _ _ _ h => h) (yields_cell (by rfl) 125 (.tmp 32) rfl tb 3 rfl (.map (some m1)) _ HC30 Try.underlying125 rfl) (by with_reducible assumption) ?_
      try simp only [List.getElem_toArray, List.getElem_cons_succ, List.getElem_cons_zero, Act.put, List.setIfInBounds_toArray, List.set_cons_zero, List.set_cons_succ]
      refine wpAnyH_take (i := 8) (v := ?_) rfl (by kernel_rfl) (by kernel_rfl) (by kernel_rfl) (fun _ _ _ h => h) (yields_pure (by rfl) (fun w => ?_)) (by with_reducible assumption) ?_
      rotate_left
      · (go_simp <;> with_reducible rfl)
      try simp only [List.getElem_toArray, List.getElem_cons_succ, List.getElem_cons_zero, Act.put, List.setIfInBounds_toArray, List.set_cons_zero, List.set_cons_succ]
      refine wpAnyH_take (i := 9) (v := ?_) rfl (by kernel_rfl) (by kernel_rfl) (by kernel_rfl) (fun _ _ _ h => h) (yields_pure (by rfl) (fun w => ?_)) (by with_reducible assumption) ?_
      rotate_left
      · (go_simp <;> with_reducible rfl)
      try simp only [List.getElem_toArray, List.getElem_cons_succ, List.getElem_cons_zero, Act.put, List.setIfInBounds_toArray, List.set_cons_zero, List.set_cons_succ]
      refine wpAnyH_take (i := 10) (v := ?_) rfl (by kernel_rfl) (by kernel_rfl) (by kernel_rfl) (fun _ _ _ h => h) (yields_pure (by rfl) (fun w => ?_)) (by with_reducible assumption) ?_
      rotate_left
      · (go_simp <;> with_reducible rfl)
      try simp only [List.getElem_toArray, List.getElem_cons_succ, List.getElem_cons_zero, Act.put, List.setIfInBounds_toArray, List.set_cons_zero, List.set_cons_succ]
      refine wpAnyH_take (i := 11) rfl (by kernel_rfl) (by kernel_rfl) (by kernel_rfl) (fun _ _ _ h => h) (yields_cell (by rfl) 3 (.tmp 37) rfl tb 0 rfl (.int .i64 c.n) _ HC00 Try.underlying3 rfl) (by with_reducible assumption) ?_
      try simp only [List.getElem_toArray, List.getElem_cons_succ, List.getElem_cons_zero, Act.put, List.setIfInBounds_toArray, List.set_cons_zero, List.set_cons_succ]
      refine wpAnyH_ready (rs := [7]) (by kernel_rfl) (by simp) (AllReadyH.cons rfl (fun K hK => ?_) AllReadyH.nil)
      go_simp
      refine hK.out _ _ (by with_reducible assumption) (fun _ => ?_)
      clear hK K
      try simp only [List.getElem_toArray, List.getElem_cons_succ, List.getElem_cons_zero, Act.put, List.setIfInBounds_toArray, List.set_cons_zero, List.set_cons_succ]
      refine wpAnyH_take (i := 12) (v := ?_) rfl (by kernel_rfl) (by kernel_rfl) (by kernel_rfl) (fun _ _ _ h => h) (yields_pure (by rfl) (fun w => ?_)) (by with_reducible assumption) ?_
      rotate_left
      · (go_simp <;> with_reducible rfl)
      try simp only [List.getElem_toArray, List.getElem_cons_succ, List.getElem_cons_zero, Act.put, List.setIfInBounds_toArray, List.set_cons_zero, List.set_cons_succ]
      refine wpAnyH_take (i := 13) (v := ?_) rfl (by kernel_rfl) (by kernel_rfl) (by kernel_rfl) (fun _ _ _ h => h) (yields_pure (by rfl) (fun w => ?_)) (by with_reducible assumption) ?_
      rotate_left
      · (go_simp <;> with_reducible rfl)
      try simp only [List.getElem_toArray, List.getElem_cons_succ, List.getElem_cons_zero, Act.put, List.setIfInBounds_toArray, List.set_cons_zero, List.set_cons_succ]
      refine wpAnyH_done (by kernel_rfl) ?_ _
      refine NoPanic.normal ?_
      have HC4 := Lib.hid (HC3.out.drew)
      clear hS0 HC30 HC00 hl
      go_wp2_with fail
      go_meet
      exact ⟨rfl, HC4⟩
  case rest =>
  obtain ⟨rfl, HC4⟩ := hcut
  have hB4 := HI.out.2.1.chg HC4.out (by simp)
  have hBr := rgN_fl hB4.rangeQ
  have FD := Lib.hid (cdrop_any (HI.out.2.2.1.chg0 HC4.out) (by omega) he)
  have HB4 := Lib.hid hB4
  clear hB4 HC3 HZ2
  go_wp2_with (first
    | (refine wpList_row 73 (.tmp 42) rfl rfl gf 0 rfl (arrF e.fl) _ hBr Try.underlying73 rfl infF ?_)
    | fail)
  refine FD.out.mono ?_
  rintro e1 w5 ⟨rfl, S5, h5, hc5, hf5⟩
  have hgl := HB4.out.lt
  have HB5 := Lib.hid (HB4.out.chg hc5 HGS.out)
  have HGS5 : Hid (gf ∉ S5) := Lib.hid (fun hx => (hf5 gf hx).elim HGS.out (fun k => by omega))
  have HC5 := Lib.hid (And.intro hc5 hf5)
  obtain ⟨⟨n1, n2, n3, q5, nn5, vs5, sq5, its5, hcr, hS5, hnn, hs0, hs1, hpm⟩, hci, hcW, hnew⟩ := h5
  have HR5 := Lib.hid hcr
  have HN5 := Lib.hid (And.intro hS5 (And.intro hnn (And.intro hs0 (And.intro hs1 (And.intro hpm (And.intro hci (And.intro hcW hnew)))))))
  have hwr : wrap64 (c.last + 1) = c.last + 1 := (by have := hci.la; simp only [dropC] at this; unfold wrap64; omega)
  have c2 : w5.cell? ⟨tb, 2, none⟩ = some (.int .i64 c.last) := hcr.blk.cell 2
  have f2 : w5.frozen? ⟨tb, 2, none⟩ = false := hcr.blk.frozen 2
  clear hBr FD hc5 hf5 hcr hS5 hnn hs0 hs1 hpm hci hcW hnew HR
  go_upto_region 8 with fail
  obtain ⟨hS5, hnn, hs0, hs1, hpm, hci, hcW, hnew⟩ := HN5.out
  have h6 : CtR (w5.setCell ⟨tb, 2, none⟩ (.int .i64 (c.last + 1))) tb n1 n2 n3 q5 nn5 vs5 sq5 its5 ⟨c.n, c.now, c.last + 1, dropL c.l e.fl⟩ := HR5.out.next
  have hc6 : Chg [tb] w5 (w5.setCell ⟨tb, 2, none⟩ (.int .i64 (c.last + 1))) := (Chg.refl [tb] w5).setCell (.inl (by simp)) _
  have hgtb : gf ≠ tb := fun e => HGS5.out (by rw [e, hS5]; simp [footT])
  have hg1 : gf ≠ n1 := fun e => HGS5.out (by rw [e, hS5]; simp [footT])
  have hg2 : gf ≠ n2 := fun e => HGS5.out (by rw [e, hS5]; simp [footT])
  have hg3 : gf ≠ n3 := fun e => HGS5.out (by rw [e, hS5]; simp [footT])
  have hgq : gf ∉ footQ q5 vs5 := fun e => HGS5.out (by rw [hS5]; simp [footT]; exact .inr (.inr (.inr (.inr e))))
  have HB6 := Lib.hid (HB5.out.chg hc6 (by simpa using hgtb))
  have HR6 := Lib.hid (And.intro h6 hc6)
  have hS0 : Chg [n1, n2, n3] (w5.setCell ⟨tb, 2, none⟩ (.int .i64 (c.last + 1))) (w5.setCell ⟨tb, 2, none⟩ (.int .i64 (c.last + 1))).drew := (Chg.refl [n1, n2, n3] _).drew
  clear h6 hc6 c2 f2
  generalize w5.setCell ⟨tb, 2, none⟩ (.int .i64 (c.last + 1)) = w6 at *
  obtain ⟨d1, d2, d3, d4, d5, d6⟩ := HR6.out.1.d1
  have hkz : (Lit.int .i64 (c.last + 1)).wf = true := wf_c (by have := hci.la; simp only [dropC] at this; omega) (by have := hci.la; simp only [dropC] at this; omega)
  have HC : ∀ (i : Nat) (v : Value), w6.cell? ⟨tb, i, none⟩ = some v → ∀ W, Chg [n1, n2, n3] w6 W → W.cell? ⟨tb, i, none⟩ = some v := fun i v hv W hc => hc.cell hv (by simp; exact ⟨d1, d2, d3⟩)
  have HC3 := HC 3 _ (HR6.out.1.blk.cell 3)
  have HC4' := HC 4 _ (HR6.out.1.blk.cell 4)
  have HC5' := HC 5 _ (HR6.out.1.blk.cell 5)
  have HC2 := HC 2 _ (HR6.out.1.blk.cell 2)
  have HRN : ∀ W, Chg [n1, n2, n3] w6 W → W.rangeAt gf 0 (arrN e).toList := fun W hc => (HB6.out.chg hc (by simp; exact ⟨hg1, hg2, hg3⟩)).rangeQ
  have HRF : ∀ W, Chg [n1, n2, n3] w6 W → W.rangeAt gf 0 (arrF e.fl).toList := fun W hc => rgN_fl (HRN W hc)
  have hnm : nn5 < maxLen := by unfold maxLen; omega
  obtain ⟨v1, st1, wa1, w7, ea1, eb1, o1, hc7, hca1⟩ := (HR6.out.1.oe.chg0 (Chg.refl _ _).drew).entry Try.underlying125 hnm zeroEn (x := e.fl) he (.agg (arrN e))
  obtain ⟨s2, h2⟩ := HR6.out.1.on
  obtain ⟨v2, st2, wa2, w8, ea2, eb2, o2, hc8, hca2⟩ := ((h2.chg0 (Chg.refl _ _).drew).chg hc7 (by simpa using Ne.symm d4)).entry Try.underlying126 hnm (z := .int .i64 0) (fun u => by kernel_rfl) (x := e.fl) he (.int .i64 (c.last + 1))
  obtain ⟨s3, h3⟩ := HR6.out.1.of
  obtain ⟨v3, st3, wa3, w9, ea3, eb3, o3, hc9, hca3⟩ := (((h3.chg0 (Chg.refl _ _).drew).chg hc7 (by simpa using Ne.symm d5)).chg hc8 (by simpa using Ne.symm d6)).entry Try.underlying127 hnm zeroFl (x := c.last + 1) hkz e.fl.v
  have k1 : Chg [n1, n2, n3] w6 wa1 := hS0.trans (hca1.more (by simp))
  have k2 : Chg [n1, n2, n3] w6 w7 := hS0.trans (hc7.more (by simp))
  have k3 : Chg [n1, n2, n3] w6 wa2 := k2.trans (hca2.more (by simp))
  have k4 : Chg [n1, n2, n3] w6 w8 := k2.trans (hc8.more (by simp))
  have k5 : Chg [n1, n2, n3] w6 wa3 := k4.trans (hca3.more (by simp))
  have k6 : Chg [n1, n2, n3] w6 w9 := k4.trans (hc9.more (by simp))
  have HO1 := Lib.hid (And.intro o1 (show Chg [n1] w6 w7 from ((Chg.refl [n1] w6).drew).trans hc7))
  have HO2 := Lib.hid (And.intro o2 hc8)
  have HO3 := Lib.hid (And.intro o3 hc9)
  have HHZ := Lib.hid (And.intro hS5 (And.intro hnn (And.intro hs0 (And.intro hs1 (And.intro hpm (And.intro hci (And.intro hcW hnew)))))))
  clear HN5 o1 o2 o3 hc7 hc8 hc9 hca1 hca2 hca3 h2 h3 hS5 hnn hs0 hs1 hpm hci hcW hnew HC HR5
  refine wp_region_noPanic ?_
  refine wp_region_held_drew (S := Chg [n1, n2, n3] w6) (by kernel_rfl) hS0 (fun _ => ?_)
  refine wpAnyH_take (i := 0) (v := ?_) rfl (by kernel_rfl) (by kernel_rfl) (by kernel_rfl) (fun _ _ _ h => h) (yields_pure (by rfl) (fun w => ?_)) (by with_reducible assumption) ?_
  rotate_left
  · (go_simp <;> with_reducible rfl)
  try simp only [List.getElem_toArray, List.getElem_cons_succ, List.getElem_cons_zero, Act.put, List.setIfInBounds_toArray, List.set_cons_zero, List.set_cons_succ]
  refine wpAnyH_take (i := 1) (v := ?_) rfl (by kernel_rfl) (by kernel_rfl) (by kernel_rfl) (fun _ _ _ h => h) (yields_pure (by rfl) (fun w => ?_)) (by with_reducible assumption) ?_
  rotate_left
  · (go_simp <;> with_reducible rfl)
  try simp only [List.getElem_toArray, List.getElem_cons_succ, List.getElem_cons_zero, Act.put, List.setIfInBounds_toArray, List.set_cons_zero, List.set_cons_succ]
  refine wpAnyH_take (i := 2) (v := ?_) rfl (by kernel_rfl) (by kernel_rfl) (by kernel_rfl) (fun _ _ _ h => h) (yields_pure (by rfl) (fun w => ?_)) (by with_reducible assumption) ?_
  rotate_left
  · (go_simp <;> with_reducible rfl)
  try simp only [List.getElem_toArray, List.getElem_cons_succ, List.getElem_cons_zero, Act.put, List.setIfInBounds_toArray, List.set_cons_zero, List.set_cons_succ]
  refine wpAnyH_take (i := 3) rfl (by kernel_rfl) (by kernel_rfl) (by kernel_rfl) (fun _ _ _ h => h) (yields_cell (by rfl) 125 (.tmp 54) rfl tb 3 rfl (.map (some n1)) _ HC3 Try.underlying125 rfl) (by with_reducible assumption) ?_
  try simp only [List.getElem_toArray, List.getElem_cons_succ, List.getElem_cons_zero, Act.put, List.setIfInBounds_toArray, List.set_cons_zero, List.set_cons_succ]
  refine wpAnyH_take (i := 4) (v := ?_) rfl (by kernel_rfl) (by kernel_rfl) (by kernel_rfl) (fun _ _ _ h => h) (yields_pure (by rfl) (fun w => ?_)) (by with_reducible assumption) ?_
  rotate_left
  · (go_simp <;> with_reducible rfl)
  try simp only [List.getElem_toArray, List.getElem_cons_succ, List.getElem_cons_zero, Act.put, List.setIfInBounds_toArray, List.set_cons_zero, List.set_cons_succ]
  refine wpAnyH_take (i := 5) rfl (by kernel_rfl) (by kernel_rfl) (by kernel_rfl) (fun _ _ _ h => h) (yields_row (by rfl) 73 (.tmp 56) rfl gf 0 rfl (arrF e.fl) _ HRF Try.underlying73 rfl infF) (by with_reducible assumption) ?_
  try simp only [List.getElem_toArray, List.getElem_cons_succ, List.getElem_cons_zero, Act.put, List.setIfInBounds_toArray, List.set_cons_zero, List.set_cons_succ]
  refine wpAnyH_take (i := 6) (v := ?_) rfl (by kernel_rfl) (by kernel_rfl) (by kernel_rfl) (fun _ _ _ h => h) (yields_pure (by rfl) (fun w => ?_)) (by with_reducible assumption) ?_
  rotate_left
  · (go_simp <;> with_reducible rfl)
  try simp only [List.getElem_toArray, List.getElem_cons_succ, List.getElem_cons_zero, Act.put, List.setIfInBounds_toArray, List.set_cons_zero, List.set_cons_succ]
  refine wpAnyH_take (i := 7) (v := ?_) rfl (by kernel_rfl) (by kernel_rfl) (by kernel_rfl) (fun _ _ _ h => h) (yields_pure (by rfl) (fun w => ?_)) (by with_reducible assumption) ?_
  rotate_left
  · (go_simp <;> with_reducible rfl)
  try simp only [List.getElem_toArray, List.getElem_cons_succ, List.getElem_cons_zero, Act.put, List.setIfInBounds_toArray, List.set_cons_zero, List.set_cons_succ]
  refine wpAnyH_take (i := 8) (v := ?_) rfl (by kernel_rfl) (by kernel_rfl) (by kernel_rfl) (fun _ _ _ h => h) (yields_pure (by rfl) (fun w => ?_)) (by with_reducible assumption) ?_
  rotate_left
  · (go_simp <;> with_reducible rfl)
  try simp only [List.getElem_toArray, List.getElem_cons_succ, List.getElem_cons_zero, Act.put, List.setIfInBounds_toArray, List.set_cons_zero, List.set_cons_succ]
  refine wpAnyH_take (i := 9) rfl (by kernel_rfl) (by kernel_rfl) (by kernel_rfl) (fun _ _ _ h => h) (yields_cell (by rfl) 126 (.tmp 60) rfl tb 4 rfl (.map (some n2)) _ HC4' Try.underlying126 rfl) (by with_reducible assumption) ?_
  try simp only [List.getElem_toArray, List.getElem_cons_succ, List.getElem_cons_zero, Act.put, List.setIfInBounds_toArray, List.set_cons_zero, List.set_cons_succ]
  refine wpAnyH_take (i := 10) (v := ?_) rfl (by kernel_rfl) (by kernel_rfl) (by kernel_rfl) (fun _ _ _ h => h) (yields_pure (by rfl) (fun w => ?_)) (by with_reducible assumption) ?_
  rotate_left
  · (go_simp <;> with_reducible rfl)
  try simp only [List.getElem_toArray, List.getElem_cons_succ, List.getElem_cons_zero, Act.put, List.setIfInBounds_toArray, List.set_cons_zero, List.set_cons_succ]
  refine wpAnyH_take (i := 11) rfl (by kernel_rfl) (by kernel_rfl) (by kernel_rfl) (fun _ _ _ h => h) (yields_row (by rfl) 73 (.tmp 62) rfl gf 0 rfl (arrF e.fl) _ HRF Try.underlying73 rfl infF) (by with_reducible assumption) ?_
  try simp only [List.getElem_toArray, List.getElem_cons_succ, List.getElem_cons_zero, Act.put, List.setIfInBounds_toArray, List.set_cons_zero, List.set_cons_succ]
  refine wpAnyH_take (i := 12) (v := ?_) rfl (by kernel_rfl) (by kernel_rfl) (by kernel_rfl) (fun _ _ _ h => h) (yields_pure (by rfl) (fun w => ?_)) (by with_reducible assumption) ?_
  rotate_left
  · (go_simp <;> with_reducible rfl)
  try simp only [List.getElem_toArray, List.getElem_cons_succ, List.getElem_cons_zero, Act.put, List.setIfInBounds_toArray, List.set_cons_zero, List.set_cons_succ]
  refine wpAnyH_take (i := 13) (v := ?_) rfl (by kernel_rfl) (by kernel_rfl) (by kernel_rfl) (fun _ _ _ h => h) (yields_pure (by rfl) (fun w => ?_)) (by with_reducible assumption) ?_
  rotate_left
  · (go_simp <;> with_reducible rfl)
  try simp only [List.getElem_toArray, List.getElem_cons_succ, List.getElem_cons_zero, Act.put, List.setIfInBounds_toArray, List.set_cons_zero, List.set_cons_succ]
  refine wpAnyH_take (i := 14) (v := ?_) rfl (by kernel_rfl) (by kernel_rfl) (by kernel_rfl) (fun _ _ _ h => h) (yields_pure (by rfl) (fun w => ?_)) (by with_reducible assumption) ?_
  rotate_left
  · (go_simp <;> with_reducible rfl)
  try simp only [List.getElem_toArray, List.getElem_cons_succ, List.getElem_cons_zero, Act.put, List.setIfInBounds_toArray, List.set_cons_zero, List.set_cons_succ]
  refine wpAnyH_take (i := 15) rfl (by kernel_rfl) (by kernel_rfl) (by kernel_rfl) (fun _ _ _ h => h) (yields_cell (by rfl) 127 (.tmp 66) rfl tb 5 rfl (.map (some n3)) _ HC5' Try.underlying127 rfl) (by with_reducible assumption) ?_
  try simp only [List.getElem_toArray, List.getElem_cons_succ, List.getElem_cons_zero, Act.put, List.setIfInBounds_toArray, List.set_cons_zero, List.set_cons_succ]
  refine wpAnyH_take (i := 16) (v := ?_) rfl (by kernel_rfl) (by kernel_rfl) (by kernel_rfl) (fun _ _ _ h => h) (yields_pure (by rfl) (fun w => ?_)) (by with_reducible assumption) ?_
  rotate_left
  · (go_simp <;> with_reducible rfl)
  try simp only [List.getElem_toArray, List.getElem_cons_succ, List.getElem_cons_zero, Act.put, List.setIfInBounds_toArray, List.set_cons_zero, List.set_cons_succ]
  refine wpAnyH_take (i := 17) (v := ?_) rfl (by kernel_rfl) (by kernel_rfl) (by kernel_rfl) (fun _ _ _ h => h) (yields_pure (by rfl) (fun w => ?_)) (by with_reducible assumption) ?_
  rotate_left
  · (go_simp <;> with_reducible rfl)
  try simp only [List.getElem_toArray, List.getElem_cons_succ, List.getElem_cons_zero, Act.put, List.setIfInBounds_toArray, List.set_cons_zero, List.set_cons_succ]
  refine wpAnyH_take (i := 18) (v := ?_) rfl (by kernel_rfl) (by kernel_rfl) (by kernel_rfl) (fun _ _ _ h => h) (yields_pure (by rfl) (fun w => ?_)) (by with_reducible assumption) ?_
  rotate_left
  · (go_simp <;> with_reducible rfl)
  try simp only [List.getElem_toArray, List.getElem_cons_succ, List.getElem_cons_zero, Act.put, List.setIfInBounds_toArray, List.set_cons_zero, List.set_cons_succ]
  refine wpAnyH_take (i := 19) rfl (by kernel_rfl) (by kernel_rfl) (by kernel_rfl) (fun _ _ _ h => h) (yields_cell (by rfl) 3 (.tmp 70) rfl tb 2 rfl (.int .i64 (c.last + 1)) _ HC2 Try.underlying3 rfl) (by with_reducible assumption) ?_
  try simp only [List.getElem_toArray, List.getElem_cons_succ, List.getElem_cons_zero, Act.put, List.setIfInBounds_toArray, List.set_cons_zero, List.set_cons_succ]
  refine wpAnyH_take (i := 20) rfl (by kernel_rfl) (by kernel_rfl) (by kernel_rfl) (fun _ _ _ h => h) (yields_row (by rfl) 96 (.tmp 3) rfl gf 0 rfl (arrN e) _ HRN Try.underlying96 rfl infN) (by with_reducible assumption) ?_
  try simp only [List.getElem_toArray, List.getElem_cons_succ, List.getElem_cons_zero, Act.put, List.setIfInBounds_toArray, List.set_cons_zero, List.set_cons_succ]
  refine wpAnyH_take (i := 21) (v := ?_) rfl (by kernel_rfl) (by kernel_rfl) (by kernel_rfl) (fun _ _ _ h => h) (yields_pure (by rfl) (fun w => ?_)) (by with_reducible assumption) ?_
  rotate_left
  · (go_simp <;> with_reducible rfl)
  try simp only [List.getElem_toArray, List.getElem_cons_succ, List.getElem_cons_zero, Act.put, List.setIfInBounds_toArray, List.set_cons_zero, List.set_cons_succ]
  refine wpAnyH_take (i := 22) (v := ?_) rfl (by kernel_rfl) (by kernel_rfl) (by kernel_rfl) (fun _ _ _ h => h) (yields_pure (by rfl) (fun w => ?_)) (by with_reducible assumption) ?_
  rotate_left
  · (go_simp <;> with_reducible rfl)
  try simp only [List.getElem_toArray, List.getElem_cons_succ, List.getElem_cons_zero, Act.put, List.setIfInBounds_toArray, List.set_cons_zero, List.set_cons_succ]
  refine wpAnyH_take (i := 23) (v := ?_) rfl (by kernel_rfl) (by kernel_rfl) (by kernel_rfl) (fun _ _ _ h => h) (yields_pure (by rfl) (fun w => ?_)) (by with_reducible assumption) ?_
  rotate_left
  · (go_simp <;> with_reducible rfl)
  try simp only [List.getElem_toArray, List.getElem_cons_succ, List.getElem_cons_zero, Act.put, List.setIfInBounds_toArray, List.set_cons_zero, List.set_cons_succ]
  refine wpAnyH_take (i := 24) rfl (by kernel_rfl) (by kernel_rfl) (by kernel_rfl) (fun _ _ _ h => h) (yields_cell (by rfl) 3 (.tmp 75) rfl tb 2 rfl (.int .i64 (c.last + 1)) _ HC2 Try.underlying3 rfl) (by with_reducible assumption) ?_
  try simp only [List.getElem_toArray, List.getElem_cons_succ, List.getElem_cons_zero, Act.put, List.setIfInBounds_toArray, List.set_cons_zero, List.set_cons_succ]
  refine wpAnyH_take (i := 25) (v := ?_) rfl (by kernel_rfl) (by kernel_rfl) (by kernel_rfl) (fun _ _ _ h => h) (yields_pure (by rfl) (fun w => ?_)) (by with_reducible assumption) ?_
  rotate_left
  · (go_simp <;> with_reducible rfl)
  try simp only [List.getElem_toArray, List.getElem_cons_succ, List.getElem_cons_zero, Act.put, List.setIfInBounds_toArray, List.set_cons_zero, List.set_cons_succ]
  refine wpAnyH_take (i := 26) rfl (by kernel_rfl) (by kernel_rfl) (by kernel_rfl) (fun _ _ _ h => h) (yields_row (by rfl) 73 (.tmp 77) rfl gf 0 rfl (arrF e.fl) _ HRF Try.underlying73 rfl infF) (by with_reducible assumption) ?_
  try simp only [List.getElem_toArray, List.getElem_cons_succ, List.getElem_cons_zero, Act.put, List.setIfInBounds_toArray, List.set_cons_zero, List.set_cons_succ]
  refine wpAnyH_ready (rs := [27]) (by kernel_rfl) (by simp) (AllReadyH.cons rfl (fun K hK => ?_) AllReadyH.nil)
  refine step_mapEntry rfl 125 (.tmp 55) (.tmp 57) rfl rfl rfl ea1 ?_
  refine hK.out _ _ (by with_reducible assumption) (fun _ => ?_)
  clear hK K
  try simp only [List.getElem_toArray, List.getElem_cons_succ, List.getElem_cons_zero, Act.put, List.setIfInBounds_toArray, List.set_cons_zero, List.set_cons_succ]
  refine wpAnyH_take (i := 28) (v := ?_) rfl (by kernel_rfl) (by kernel_rfl) (by kernel_rfl) (fun _ _ _ h => h) (yields_pure (by rfl) (fun w => ?_)) (by with_reducible assumption) ?_
  rotate_left
  · (go_simp <;> with_reducible rfl)
  try simp only [List.getElem_toArray, List.getElem_cons_succ, List.getElem_cons_zero, Act.put, List.setIfInBounds_toArray, List.set_cons_zero, List.set_cons_succ]
  refine wpAnyH_ready (rs := [29]) (by kernel_rfl) (by simp) (AllReadyH.cons rfl (fun K hK => ?_) AllReadyH.nil)
  refine step_entryStore rfl 125 (.tmp 55) (.tmp 80) (.tmp 72) rfl rfl rfl rfl rfl eb1 ?_
  refine hK.out _ _ (by with_reducible assumption) (fun _ => ?_)
  clear hK K
  try simp only [List.getElem_toArray, List.getElem_cons_succ, List.getElem_cons_zero, Act.put, List.setIfInBounds_toArray, List.set_cons_zero, List.set_cons_succ]
  refine wpAnyH_ready (rs := [30]) (by kernel_rfl) (by simp) (AllReadyH.cons rfl (fun K hK => ?_) AllReadyH.nil)
  refine step_mapEntry rfl 126 (.tmp 61) (.tmp 63) rfl rfl rfl ea2 ?_
  refine hK.out _ _ (by with_reducible assumption) (fun _ => ?_)
  clear hK K
  try simp only [List.getElem_toArray, List.getElem_cons_succ, List.getElem_cons_zero, Act.put, List.setIfInBounds_toArray, List.set_cons_zero, List.set_cons_succ]
  refine wpAnyH_take (i := 31) (v := ?_) rfl (by kernel_rfl) (by kernel_rfl) (by kernel_rfl) (fun _ _ _ h => h) (yields_pure (by rfl) (fun w => ?_)) (by with_reducible assumption) ?_
  rotate_left
  · (go_simp <;> with_reducible rfl)
  try simp only [List.getElem_toArray, List.getElem_cons_succ, List.getElem_cons_zero, Act.put, List.setIfInBounds_toArray, List.set_cons_zero, List.set_cons_succ]
  refine wpAnyH_ready (rs := [32]) (by kernel_rfl) (by simp) (AllReadyH.cons rfl (fun K hK => ?_) AllReadyH.nil)
  refine step_entryStore rfl 126 (.tmp 61) (.tmp 82) (.tmp 76) rfl rfl rfl rfl rfl eb2 ?_
  refine hK.out _ _ (by with_reducible assumption) (fun _ => ?_)
  clear hK K
  try simp only [List.getElem_toArray, List.getElem_cons_succ, List.getElem_cons_zero, Act.put, List.setIfInBounds_toArray, List.set_cons_zero, List.set_cons_succ]
  refine wpAnyH_ready (rs := [33]) (by kernel_rfl) (by simp) (AllReadyH.cons rfl (fun K hK => ?_) AllReadyH.nil)
  refine step_mapEntry rfl 127 (.tmp 67) (.tmp 71) rfl rfl rfl ea3 ?_
  refine hK.out _ _ (by with_reducible assumption) (fun _ => ?_)
  clear hK K
  try simp only [List.getElem_toArray, List.getElem_cons_succ, List.getElem_cons_zero, Act.put, List.setIfInBounds_toArray, List.set_cons_zero, List.set_cons_succ]
  refine wpAnyH_take (i := 34) (v := ?_) rfl (by kernel_rfl) (by kernel_rfl) (by kernel_rfl) (fun _ _ _ h => h) (yields_pure (by rfl) (fun w => ?_)) (by with_reducible assumption) ?_
  rotate_left
  · (go_simp <;> with_reducible rfl)
  try simp only [List.getElem_toArray, List.getElem_cons_succ, List.getElem_cons_zero, Act.put, List.setIfInBounds_toArray, List.set_cons_zero, List.set_cons_succ]
  refine wpAnyH_ready (rs := [35]) (by kernel_rfl) (by simp) (AllReadyH.cons rfl (fun K hK => ?_) AllReadyH.nil)
  refine step_entryStore rfl 127 (.tmp 67) (.tmp 84) (.tmp 78) rfl rfl rfl rfl rfl eb3 ?_
  refine hK.out _ _ (by with_reducible assumption) (fun _ => ?_)
  clear hK K
  try simp only [List.getElem_toArray, List.getElem_cons_succ, List.getElem_cons_zero, Act.put, List.setIfInBounds_toArray, List.set_cons_zero, List.set_cons_succ]
  refine wpAnyH_done (by kernel_rfl) ?_ _
  refine NoPanic.normal ?_
  have HK6 := Lib.hid k6
  clear k1 k2 k3 k4 k5 k6 ea1 ea2 ea3 eb1 eb2 eb3 HC3 HC4' HC5' HC2 HRN HRF hS0
  go_upto_region 9 with fail
  obtain ⟨f1, f2, f3, f4⟩ := HR6.out.1.d2
  have hq9 : QU w9 q5 vs5 sq5 its5 := HR6.out.1.qu.chg HK6.out (by
    intro x hx e
    simp at e
    rcases e with rfl | rfl | rfl
    · exact f2 hx
    · exact f3 hx
    · exact f4 hx)
  have hb9 := HR6.out.1.blk.chg HK6.out (by simp; exact ⟨d1, d2, d3⟩)
  have HB9 := HB6.out.chg HK6.out (by simp; exact ⟨hg1, hg2, hg3⟩)
  have hS0 : Chg (footQ q5 vs5) w9 w9.drew := (Chg.refl _ _).drew
  have HC6 : ∀ W, Chg (footQ q5 vs5) w9 W → W.cell? ⟨tb, 6, none⟩ = some (.pointer (some ⟨q5, 0, none⟩)) := fun W hc => hc.cell (hb9.cell 6) f1
  have HC2 : ∀ W, Chg (footQ q5 vs5) w9 W → W.cell? ⟨tb, 2, none⟩ = some (.int .i64 (c.last + 1)) := fun W hc => hc.cell (hb9.cell 2) f1
  have HCG : ∀ W, Chg (footQ q5 vs5) w9 W → W.cell? ⟨gf, 38, none⟩ = some (.int .i64 e.til) := fun W hc => hc.cell (HB9.cell 38) hgq
  have hl5 : its5.length ≤ 2900 := by
    obtain ⟨hS5, hnn, hs0, hs1, hpm, hci, hcW, hnew⟩ := HHZ.out
    have h2 := hpm.length_eq
    have := hci.len; have := hci.n1
    simp at h2
    simp only [dropC] at *
    omega
  have FA := Lib.hid (qadd_any (hq9.chg0 (Chg.refl _ _).drew) hl5 HHZ.out.2.2.1 (by have := HHZ.out.2.2.2.1; omega) e.til (c.last + 1))
  clear hq9 hb9 HB9 hl5
  refine wp_region_noPanic ?_
  refine wp_region_held_drew (S := Chg (footQ q5 vs5) w9) (by kernel_rfl) hS0 (fun _ => ?_)
  refine wpAnyH_take (i := 0) (v := ?_) rfl (by kernel_rfl) (by kernel_rfl) (by kernel_rfl) (fun _ _ _ h => h) (yields_pure (by rfl) (fun w => ?_)) (by with_reducible assumption) ?_
  rotate_left
  · (go_simp <;> with_reducible rfl)
  try simp only [List.getElem_toArray, List.getElem_cons_succ, List.getElem_cons_zero, Act.put, List.setIfInBounds_toArray, List.set_cons_zero, List.set_cons_succ]
  refine wpAnyH_take (i := 1) (v := ?_) rfl (by kernel_rfl) (by kernel_rfl) (by kernel_rfl) (fun _ _ _ h => h) (yields_pure (by rfl) (fun w => ?_)) (by with_reducible assumption) ?_
  rotate_left
  · (go_simp <;> with_reducible rfl)
  try simp only [List.getElem_toArray, List.getElem_cons_succ, List.getElem_cons_zero, Act.put, List.setIfInBounds_toArray, List.set_cons_zero, List.set_cons_succ]
  refine wpAnyH_take (i := 2) (v := ?_) rfl (by kernel_rfl) (by kernel_rfl) (by kernel_rfl) (fun _ _ _ h => h) (yields_pure (by rfl) (fun w => ?_)) (by with_reducible assumption) ?_
  rotate_left
  · (go_simp <;> with_reducible rfl)
  try simp only [List.getElem_toArray, List.getElem_cons_succ, List.getElem_cons_zero, Act.put, List.setIfInBounds_toArray, List.set_cons_zero, List.set_cons_succ]
  refine wpAnyH_take (i := 3) rfl (by kernel_rfl) (by kernel_rfl) (by kernel_rfl) (fun _ _ _ h => h) (yields_cell (by rfl) 60 (.tmp 87) rfl tb 6 rfl (.pointer (some ⟨q5, 0, none⟩)) _ HC6 Try.underlying60 rfl) (by with_reducible assumption) ?_
  try simp only [List.getElem_toArray, List.getElem_cons_succ, List.getElem_cons_zero, Act.put, List.setIfInBounds_toArray, List.set_cons_zero, List.set_cons_succ]
  refine wpAnyH_take (i := 4) (v := ?_) rfl (by kernel_rfl) (by kernel_rfl) (by kernel_rfl) (fun _ _ _ h => h) (yields_pure (by rfl) (fun w => ?_)) (by with_reducible assumption) ?_
  rotate_left
  · (go_simp <;> with_reducible rfl)
  try simp only [List.getElem_toArray, List.getElem_cons_succ, List.getElem_cons_zero, Act.put, List.setIfInBounds_toArray, List.set_cons_zero, List.set_cons_succ]
  refine wpAnyH_take (i := 5) rfl (by kernel_rfl) (by kernel_rfl) (by kernel_rfl) (fun _ _ _ h => h) (yields_cell (by rfl) 3 (.tmp 89) rfl gf 38 rfl (.int .i64 e.til) _ HCG Try.underlying3 rfl) (by with_reducible assumption) ?_
  try simp only [List.getElem_toArray, List.getElem_cons_succ, List.getElem_cons_zero, Act.put, List.setIfInBounds_toArray, List.set_cons_zero, List.set_cons_succ]
  refine wpAnyH_take (i := 6) (v := ?_) rfl (by kernel_rfl) (by kernel_rfl) (by kernel_rfl) (fun _ _ _ h => h) (yields_pure (by rfl) (fun w => ?_)) (by with_reducible assumption) ?_
  rotate_left
  · (go_simp <;> with_reducible rfl)
  try simp only [List.getElem_toArray, List.getElem_cons_succ, List.getElem_cons_zero, Act.put, List.setIfInBounds_toArray, List.set_cons_zero, List.set_cons_succ]
  refine wpAnyH_take (i := 7) (v := ?_) rfl (by kernel_rfl) (by kernel_rfl) (by kernel_rfl) (fun _ _ _ h => h) (yields_pure (by rfl) (fun w => ?_)) (by with_reducible assumption) ?_
  rotate_left
  · (go_simp <;> with_reducible rfl)
  try simp only [List.getElem_toArray, List.getElem_cons_succ, List.getElem_cons_zero, Act.put, List.setIfInBounds_toArray, List.set_cons_zero, List.set_cons_succ]
  refine wpAnyH_take (i := 8) (v := ?_) rfl (by kernel_rfl) (by kernel_rfl) (by kernel_rfl) (fun _ _ _ h => h) (yields_pure (by rfl) (fun w => ?_)) (by with_reducible assumption) ?_
  rotate_left
  · (go_simp <;> with_reducible rfl)
  try simp only [List.getElem_toArray, List.getElem_cons_succ, List.getElem_cons_zero, Act.put, List.setIfInBounds_toArray, List.set_cons_zero, List.set_cons_succ]
  refine wpAnyH_take (i := 9) rfl (by kernel_rfl) (by kernel_rfl) (by kernel_rfl) (fun _ _ _ h => h) (yields_cell (by rfl) 3 (.tmp 93) rfl tb 2 rfl (.int .i64 (c.last + 1)) _ HC2 Try.underlying3 rfl) (by with_reducible assumption) ?_
  try simp only [List.getElem_toArray, List.getElem_cons_succ, List.getElem_cons_zero, Act.put, List.setIfInBounds_toArray, List.set_cons_zero, List.set_cons_succ]
  refine wpAnyH_ready (rs := [10]) (by kernel_rfl) (by simp) (AllReadyH.cons rfl (fun K hK => ?_) AllReadyH.nil)
  go_simp
  refine FA.out.mono ?_
  rintro e1 w10 ⟨rfl, hT⟩
  have hcT : Chg (footQ q5 vs5) w9 w10 := by obtain ⟨_, _, _, _, _, h4, _⟩ := hT; exact (Chg.refl _ _).drew.trans h4
  refine hK.out _ _ (by with_reducible assumption) (fun _ => ?_)
  clear hK K
  try simp only [List.getElem_toArray, List.getElem_cons_succ, List.getElem_cons_zero, Act.put, List.setIfInBounds_toArray, List.set_cons_zero, List.set_cons_succ]
  refine wpAnyH_done (by kernel_rfl) ?_ _
  refine NoPanic.normal ?_
  clear hS0 HC6 HC2 HCG hcT
  have HT10 := Lib.hid hT
  clear hT
  go_wp2_with fail
  go_ret
  refine ⟨rfl, ?_⟩
  obtain ⟨hS5, hnn, hs0, hs1, hpm, hci, hcW, hnew⟩ := HHZ.out
  have hci0 := HI.out.2.2.1.ci
  obtain ⟨vs', its', hr10, hpm10, hc10, hf10⟩ := HR6.out.1.pu_fin HO1.out.1 (by rw [mE_drop]; simp) HO1.out.2 HO2.out.1 HO2.out.2 HO3.out.1 HO3.out.2 (Chg.refl _ _).drew (mE_put _) (mN_put _) (mF_put hci0) hpm HT10.out
  have hz1 := HC4.out.size
  have hz5 := HC5.out.1.size
  have hz6 := HR6.out.2.size
  have hzW := hcW.size
  have hc610 : Chg S5 w5 w10 := (HR6.out.2.more (by rw [hS5]; simp [footT])).trans (hc10.more (by rw [hS5]; exact fun x hx => hx))
  have hfoot : ∀ x ∈ footT tb n1 n2 n3 q5 vs', x ∈ S5 ∨ w5.heap.size ≤ x := by
    intro x hx
    rw [hS5]
    simp only [footT, List.mem_cons] at hx ⊢
    rcases hx with h | h | h | h | h
    · exact .inl (.inl h)
    · exact .inl (.inr (.inl h))
    · exact .inl (.inr (.inr (.inl h)))
    · exact .inl (.inr (.inr (.inr (.inl h))))
    · exact (hf10 x h).imp (fun k => .inr (.inr (.inr (.inr k)))) (fun k => by omega)
  refine ⟨_, ⟨⟨n1, n2, n3, q5, nn5 + 1, vs', sq5 + 1, its', hr10, rfl, by omega, by omega, by omega, hpm10⟩, hci0.put he (by rw [hbb]; exact HI.out.2.2.2), hcW.trans' hc610 (fun x hx => .inr (hnew x hx)), fun x hx => (hfoot x hx).elim (hnew x) (fun k => by omega)⟩, ?_, ?_⟩
  · have k1 : Chg S w w5 := ((HI.out.1.trans HC4.out).more (by simp)).trans HC5.out.1
    exact k1.trans' hc610 (fun x hx => (HC5.out.2 x hx).imp id (fun k => by omega))
  · intro x hx
    rcases hfoot x hx with k | k
    · exact (HC5.out.2 x k).imp id (fun k => by omega)
    · exact .inr (by omega)
end
end Go.Proofs.Ytgbdbeaflilmlaa
