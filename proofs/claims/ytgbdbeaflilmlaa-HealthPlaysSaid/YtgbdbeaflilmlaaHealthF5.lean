/-
  WALKS: the document's answer of chapter 36: a tick. Condition: at most 300 calls were made.
-/
import Derived.Test.YtgbdbeaflilmlaaHealthF4
set_option linter.unusedVariables false
set_option linter.unusedSimpArgs false
namespace Go.Proofs.Ytgbdbeaflilmlaa
open Go.RowKit Go.Maps

theorem takeK {l : List BK} {k : Nat} {x : BK} (hx : l[k]? = some x) : l.take (k + 1) = l.take k ++ [x] := by rw [List.take_add_one, hx]; rfl
theorem dropK {l : List BK} {k : Nat} {x : BK} (hx : l[k]? = some x) : l.drop k = x :: l.drop (k + 1) := by
  obtain ⟨h1, h2⟩ := List.getElem?_eq_some_iff.1 hx
  rw [← h2]; exact List.drop_eq_getElem_cons h1
def midK (nw : Int) (l : List BK) (k : Nat) : List BK := midL nw (l.take k) (l.drop k)
theorem midK_len (nw : Int) (l : List BK) (k : Nat) : (midK nw l k).length = l.length := by
  unfold midK midL tickL
  rw [List.length_append, List.length_map, List.length_take, List.length_drop]; omega
theorem midK_at {nw : Int} {l : List BK} {k : Nat} {x : BK} (hx : l[k]? = some x) : (midK nw l k)[k]? = some x := by
  have hk := (List.getElem?_eq_some_iff.1 hx).1
  have h1 : (tickL nw (l.take k)).length = k := by unfold tickL; rw [List.length_map, List.length_take]; omega
  unfold midK midL
  rw [List.getElem?_append_right (by omega), h1, Nat.sub_self, dropK hx]; rfl
theorem midK_no {nw : Int} {l : List BK} {k : Nat} {x : BK} (hx : l[k]? = some x) (hd : isDue nw x = false) : midK nw l (k + 1) = midK nw l k := by
  unfold midK midL
  rw [takeK hx, tickL_app, dropK hx, tickL_none (l := [x]) (by simpa using hd)]
  simp
theorem midK_yes {nw : Int} {l : List BK} {k : Nat} {x : BK} (hx : l[k]? = some x) (hd : isDue nw x = true) : midK nw l (k + 1) = (midK nw l k).set k (stepB nw x) := by
  have hk := (List.getElem?_eq_some_iff.1 hx).1
  have h1 : (tickL nw (l.take k)).length = k := by unfold tickL; rw [List.length_map, List.length_take]; omega
  unfold midK midL
  rw [takeK hx, tickL_app, dropK hx, List.set_append_right _ _ (by omega), h1, Nat.sub_self, List.set_cons_zero]
  simp [tickL, hd]
theorem prK_yes {nw : Int} {l : List BK} {k : Nat} {x : BK} (hx : l[k]? = some x) (hd : isDue nw x = true) : prL nw (l.take (k + 1)) = prL nw (l.take k) ++ [(x.node, nextS x.seq)] := by
  have := prL_step (pre := l.take k) (a := []) (b := x) (by simp) hd
  rwa [List.append_nil, ← takeK hx] at this
theorem dnK_yes {nw : Int} {l : List BK} {k : Nat} {x : BK} (hx : l[k]? = some x) (hd : isDue nw x = true) : dnL nw (l.take (k + 1)) = dnL nw (l.take k) ++ (if (lateB x).2 = true then [x.node] else []) := by
  have := dnL_step (pre := l.take k) (a := []) (b := x) (by simp) hd
  rwa [List.append_nil, ← takeK hx] at this
theorem prK_no {nw : Int} {l : List BK} {k : Nat} {x : BK} (hx : l[k]? = some x) (hd : isDue nw x = false) : prL nw (l.take (k + 1)) = prL nw (l.take k) := by
  rw [takeK hx]; exact prL_none (by simpa using hd)
theorem dnK_no {nw : Int} {l : List BK} {k : Nat} {x : BK} (hx : l[k]? = some x) (hd : isDue nw x = false) : dnL nw (l.take (k + 1)) = dnL nw (l.take k) := by
  rw [takeK hx]; exact dnL_none (by simpa using hd)
theorem elPr36 : El Try.prog 52 56 (.agg #[.int .i64 0, .int .i64 0]) 2 16 := ⟨Try.underlying52, by kernel_rfl, rfl, by omega⟩
theorem elDn36 : El Try.prog 53 49 (.agg #[.int .i64 0, .bool false]) 2 16 := ⟨Try.underlying53, by kernel_rfl, rfl, by omega⟩
theorem litPr36 (w : World) (n s : Int) : Sl (w.alloc (.cells #[.int .i64 n, .int .i64 s] 56)) 0 2 (.slice (some ⟨w.heap.size, 0, none⟩) 1 1) 1 (encPr (n, s)) :=
  Sl.of_own (own_lit (base := 0) w 56 2 1 #[.int .i64 n, .int .i64 s] (Nat.zero_le _) (by simp [maxLen]) rfl)
theorem litDn36 (w : World) (n : Int) : Sl (w.alloc (.cells #[.int .i64 n, .bool false] 49)) 0 2 (.slice (some ⟨w.heap.size, 0, none⟩) 1 1) 1 (encDn n) :=
  Sl.of_own (own_lit (base := 0) w 49 2 1 #[.int .i64 n, .bool false] (Nat.zero_le _) (by simp [maxLen]) rfl)

/-- On its way through the backends. -/
structure RT (u wr : World) (B : Nat) (v5 : Value) (L : List BK) (v6 : Value) (p : List (Int × Int)) (v7 : Value) (d : List Int) : Prop where
  chg : Chg [] u wr
  r5 : wr.ownsRow B 46 7 v5 L.length (L.flatMap encR)
  r6 : wr.ownsRow B 56 2 v6 p.length (p.flatMap encPr)
  r7 : wr.ownsRow B 49 2 v7 d.length (d.flatMap encDn)
  a56 : Apart v5.ownBlock.toList v6.ownBlock.toList
  a57 : Apart v5.ownBlock.toList v7.ownBlock.toList
  a67 : Apart v6.ownBlock.toList v7.ownBlock.toList
section
variable {u wr w' w2 : World} {B : Nat} {v5 v6 v7 : Value} {L : List BK} {p : List (Int × Int)} {d : List Int}
theorem RT.chgS (h : RT u wr B v5 L v6 p v7 d) {S : List Nat} (hc : Chg S wr w') (hS : ∀ x ∈ S, u.heap.size ≤ x) (h5 : Apart v5.ownBlock.toList S) (h6 : Apart v6.ownBlock.toList S) (h7 : Apart v7.ownBlock.toList S) : RT u w' B v5 L v6 p v7 d :=
  ⟨h.chg.trans' hc (fun x hx => .inr (hS x hx)), own_chg h.r5 hc h5, own_chg h.r6 hc h6, own_chg h.r7 hc h7, h.a56, h.a57, h.a67⟩
theorem RT.chg0 (h : RT u wr B v5 L v6 p v7 d) (hc : Chg [] wr w') : RT u w' B v5 L v6 p v7 d := h.chgS hc (by simp) (fun _ _ => by simp) (fun _ _ => by simp) (fun _ _ => by simp)
/-- A block that came later is none of its own. -/
theorem RT.late (h : RT u wr B v5 L v6 p v7 d) {g : Nat} (hg : wr.heap.size ≤ g) : Apart v5.ownBlock.toList [g] ∧ Apart v6.ownBlock.toList [g] ∧ Apart v7.ownBlock.toList [g] :=
  ⟨fun x hx hm => by have := (own_lt h.r5 x hx).2; simp at hm; omega, fun x hx hm => by have := (own_lt h.r6 x hx).2; simp at hm; omega, fun x hx hm => by have := (own_lt h.r7 x hx).2; simp at hm; omega⟩
theorem own_new {v v' : Value} {n : Nat} (hb : v'.ownBlock = v.ownBlock ∨ v'.ownBlock = some n) : ∀ x ∈ v'.ownBlock.toList, x ∈ v.ownBlock.toList ∨ n ≤ x := fun x hx => by
  rcases hb with e | e
  · rw [e] at hx; exact .inl hx
  · rw [e] at hx; simp at hx; exact .inr (by omega)
theorem RT.app6 (h : RT u wr B v5 L v6 p v7 d) (hB : u.heap.size ≤ B) {v6' : Value} {q : Int × Int} (hr : w'.ownsRow B 56 2 v6' (p.length + 1) (p.flatMap encPr ++ encPr q)) (hc : Chg v6.ownBlock.toList wr w') (hb : v6'.ownBlock = v6.ownBlock ∨ v6'.ownBlock = some wr.heap.size) :
    RT u w' B v5 L v6' (p ++ [q]) v7 d :=
  ⟨h.chg.trans' hc (fun x hx => .inr (Nat.le_trans hB (own_lt h.r6 x hx).1)), own_chg h.r5 hc h.a56, by rw [← flat_snoc, List.length_append]; exact hr, own_chg h.r7 hc h.a67.symm,
    (h.a56.symm.grow (own_new hb) (fun x hx => (own_lt h.r5 x hx).2)).symm, h.a57, h.a67.grow (own_new hb) (fun x hx => (own_lt h.r7 x hx).2)⟩
theorem RT.app7 (h : RT u wr B v5 L v6 p v7 d) (hB : u.heap.size ≤ B) {v7' : Value} {q : Int} (hr : w'.ownsRow B 49 2 v7' (d.length + 1) (d.flatMap encDn ++ encDn q)) (hc : Chg v7.ownBlock.toList wr w') (hb : v7'.ownBlock = v7.ownBlock ∨ v7'.ownBlock = some wr.heap.size) :
    RT u w' B v5 L v6 p v7' (d ++ [q]) :=
  ⟨h.chg.trans' hc (fun x hx => .inr (Nat.le_trans hB (own_lt h.r7 x hx).1)), own_chg h.r5 hc h.a57, own_chg h.r6 hc h.a67, by rw [← flat_snoc, List.length_append]; exact hr,
    h.a56, (h.a57.symm.grow (own_new hb) (fun x hx => (own_lt h.r5 x hx).2)).symm, (h.a67.symm.grow (own_new hb) (fun x hx => (own_lt h.r6 x hx).2)).symm⟩
end
theorem own_low {w : World} {B B' size n : Nat} {e : TypeId} {v : Value} {xs : List Value} (h : w.ownsRow B e size v n xs) (hB : B' ≤ B) : w.ownsRow B' e size v n xs := by
  refine ⟨h.1, ?_⟩
  rcases h.2 with h2 | ⟨g, cap, cur, hv, hg, r⟩
  · exact .inl h2
  · exact .inr ⟨g, cap, cur, hv, Nat.le_trans hB hg, r⟩
def TRPost (w : World) (v : Value) (c : CK) (e : Ending) (w' : World) : Prop := ∃ v' pv xv, e = .returned (.tuple #[.agg #[.int .i64 (c.now + 1), v'], pv, xv]) ∧ RefTo w v (tickC c).l v' w' ∧
  w'.ownsRow w.heap.size 56 2 pv (probesC c).length ((probesC c).flatMap encPr) ∧ w'.ownsRow w.heap.size 49 2 xv (downsC c).length ((downsC c).flatMap encDn)

set_option maxRecDepth 100000 in
set_option maxHeartbeats 4000000 in
theorem rtick_any {w : World} {v : Value} {c : CK} {K : Nat} (h : OwR w v c.l) (hci : CI K c) (hK : K ≤ 300) :
    Calls Try.prog 22 #[.agg #[.int .i64 c.now, v]] w (TRPost w v c) := by
  have HP : Hid (∀ e w', TRPost w v c e w' = ∃ v' pv xv, e = .returned (.tuple #[.agg #[.int .i64 (c.now + 1), v'], pv, xv]) ∧ RefTo w v (tickC c).l v' w' ∧
    w'.ownsRow w.heap.size 56 2 pv (probesC c).length ((probesC c).flatMap encPr) ∧ w'.ownsRow w.heap.size 49 2 xv (downsC c).length ((downsC c).flatMap encDn)) := Lib.hid fun _ _ => rfl
  obtain ⟨A, cp, rfl⟩ := Sl.form h.sl
  have hl := hci.len
  have hn0 := hci.now0
  have hnK := hci.nowK
  have hA1 := (Chg.refl [] w).alloc (.cells #[.int .i64 c.now, .slice A c.l.length cp] 41)
  have hBp1 : Blk (w.alloc (.cells #[.int .i64 c.now, .slice A c.l.length cp] 41)) w.heap.size 41 #[.int .i64 c.now, .slice A c.l.length cp] := Blk.new _ _ _
  have hA2 := hA1.alloc (.cells #[.int .i64 0, .slice none 0 0] 41)
  have hBp2 := hBp1.alloc (.cells #[.int .i64 0, .slice none 0 0] 41)
  have hBr2 : Blk ((w.alloc (.cells #[.int .i64 c.now, .slice A c.l.length cp] 41)).alloc (.cells #[.int .i64 0, .slice none 0 0] 41)) (w.heap.size + 1) 41 #[.int .i64 0, .slice none 0 0] := Blk.new' (by simp)
  have hsz2 : ((w.alloc (.cells #[.int .i64 c.now, .slice A c.l.length cp] 41)).alloc (.cells #[.int .i64 0, .slice none 0 0] 41)).heap.size = w.heap.size + 2 := by simp
  have HI := Lib.hid (And.intro h (And.intro hA2 (And.intro hBp2 (And.intro hBr2 hsz2))))
  have HOK := Lib.hid hci.ok
  have hwn : IntKind.i64.wrap (c.now + 1) = c.now + 1 := by rw [IntKind.wrap_i64]; omega
  clear hA1 hBp1 h hci hA2 hBp2 hBr2 hsz2
  go_enter Try.func22, Try.ntmps22
  go_upto_region 1 with fail
  obtain ⟨h, hA2, hBp2, hBr2, hsz2⟩ := HI.out
  generalize (w.alloc (.cells #[.int .i64 c.now, .slice A c.l.length cp] 41)).alloc (.cells #[.int .i64 0, .slice none 0 0] 41) = w2 at *
  generalize hgp : w.heap.size = gp at *
  have k0 := hBp2.cell 0
  have f0 := hBp2.frozen 0
  have l0 := hBp2.lt
  simp only [List.getElem?_toArray, List.getElem?_cons_succ, List.getElem?_cons_zero] at k0
  have hBp3 : Blk (w2.setCell ⟨gp, 0, none⟩ (.int .i64 (c.now + 1))) gp 41 #[.int .i64 (c.now + 1), .slice A c.l.length cp] := hBp2.set_ 0 _
  have hBr3 := hBr2.far (p := ⟨gp, 0, none⟩) (by simp) (.int .i64 (c.now + 1))
  have hc3 := (Chg.refl [gp] w2).setCell (p := ⟨gp, 0, none⟩) (.inl (by simp)) (.int .i64 (c.now + 1))
  have hlt := own_lt h
  have hsl3 : SlR (w2.setCell ⟨gp, 0, none⟩ (.int .i64 (c.now + 1))) (.slice A c.l.length cp) c.l := OwR.sl (own_chg (own_chg h hA2 (by simp)) hc3 (by intro x hx hm; simp at hm; subst hm; have := (hlt _ hx).2; omega))
  have hz3 : (w2.setCell ⟨gp, 0, none⟩ (.int .i64 (c.now + 1))).heap.size = gp + 2 := by rw [← hsz2]; simp [World.setCell]
  have HU := Lib.hid (hA2.trans' hc3 (by intro x hx; simp at hx; subst hx; exact .inr (by omega)))
  clear HI hBp2 hBr2 hc3 h hA2 hlt hsz2
  obtain ⟨now, l⟩ := c
  simp only at *
  have HTC : Hid (tickC ⟨now, l⟩ = ⟨now + 1, tickL (now + 1) l⟩ ∧ probesC ⟨now, l⟩ = prL (now + 1) l ∧ downsC ⟨now, l⟩ = dnL (now + 1) l) := Lib.hid ⟨rfl, rfl, rfl⟩
  go_upto_region 2 with fail
  generalize w2.setCell ⟨gp, 0, none⟩ (.int .i64 (now + 1)) = u at *
  clear k0 f0 l0
  generalize hnw : now + 1 = nw at *
  generalize hN : l.length = N at *
  have k1 : u.cell? ⟨gp, 1, none⟩ = some (.slice A N cp) := hBp3.cell 1
  have hown0 : (u.alloc (.cells #[] 46)).ownsRow u.heap.size 46 7 (.slice (some ⟨u.heap.size, 0, none⟩) 0 0) 0 [] := by
    have := own_lit (base := u.heap.size) u 46 7 0 #[] (Nat.le_refl _) (by simp [maxLen]) rfl
    simpa using this
  have hA1 := (Chg.refl [] u).alloc (.cells #[] 46)
  have hS2 : Sl u 0 7 (.slice A N cp) N (l.flatMap encR) := by
    unfold SlR at hsl3
    rwa [hN] at hsl3
  have hct := hS2.chg0 hA1
  have hone1 : Hid (∀ u ∈ l.flatMap encR, u.oneCell' = true) := Lib.hid (flat_one encR_one l)
  have c1a : (u.alloc (.cells #[] 46)).cell? ⟨gp, 1, none⟩ = some (.slice A N cp) := hA1.cell k1 (by simp)
  have HA1 := Lib.hid hA1
  have HBU := Lib.hid (fun W (hc : Chg [] u W) => hBp3.chg hc (by simp))
  have HBRU := Lib.hid (fun W (hc : Chg [] u W) => hBr3.chg hc (by simp))
  have hlN : Hid (N = l.length) := Lib.hid hN.symm
  have HZ3 := Lib.hid hz3
  clear hA1 hS2 hsl3 hBp3 hBr3 hz3
  generalize hfl : l.flatMap encR = FL at *
  have HFL := Lib.hid hfl
  clear hfl
  go_upto_region 3 with (first
    | (at_builtin; refine wpList_app elR rfl (.tmp 14) (.tmp 16) rfl u.heap.size rfl hown0 rfl hct hone1.out (by unfold maxLen; omega) (by omega) (by simp) ?_; intro v5 w5 hown5 hc5 hb5)
    | fail)
  have hlt0 := own_lt hown0
  have hC5 : Chg [] u w5 := HA1.out.trans' hc5 (fun x hx => .inr (by have := (hlt0 x hx).1; omega))
  rw [Nat.zero_add, List.nil_append, ← HFL.out] at hown5
  obtain ⟨A5, cap5, rfl⟩ := Sl.form (Sl.of_own hown5)
  have hmid0 : midK nw l 0 = l := by simp [midK, midL, tickL]
  have H5 : Hid (RT u w5 u.heap.size (.slice A5 N cap5) (midK nw l 0) (.slice none 0 0) (prL nw (l.take 0)) (.slice none 0 0) (dnL nw (l.take 0))) :=
    Lib.hid ⟨hC5, by rw [hmid0, hN]; exact hown5, World.ownsRow_nil .., World.ownsRow_nil .., fun x _ hm => by simp [Value.ownBlock] at hm, fun x _ hm => by simp [Value.ownBlock] at hm, fun x _ hm => by simp [Value.ownBlock] at hm⟩
  have HX : Hid (∀ i, i < N → ∃ x, l[i]? = some x ∧ 0 ≤ x.seq ∧ x.seq ≤ 65535 ∧ 0 ≤ x.failed ∧ x.failed ≤ K) := Lib.hid fun i hi => by
    have h0 : l[i]? = some l[i] := List.getElem?_eq_getElem (by omega)
    have := HOK.out _ (List.mem_of_getElem? h0)
    exact ⟨_, h0, by omega⟩
  clear hown0 hct hone1 c1a k1 HA1 hC5 hown5 hc5 hb5 hlt0 hmid0 HOK HFL
  have hK2 : (K : Int) ≤ 300 := by omega
  go_wp2_with fail
  go_loopw [6, 7, 8] (fun v6 v7 iv wr => ∃ k : Nat, k ≤ N ∧ iv = .int .i64 k ∧ Hid (RT u wr u.heap.size (.slice A5 N cap5) (midK nw l k) v6 (prL nw (l.take k)) v7 (dnL nw (l.take k)))) (fun _ _ iv _ => N - (intOf iv).toNat)
  case atStart => exact ⟨0, by omega, rfl, H5⟩
  case round =>
    obtain ⟨k, hk, rfl, HT⟩ := hrel
    have hcu := HT.out.chg
    have hB := HBU.out wr hcu
    have hzu := hcu.size
    by_cases hlt : k < N
    · obtain ⟨x, hx, hq0, hq1, hf0, hf1⟩ := HX.out k hlt
      have hxm := midK_at (nw := nw) hx
      obtain ⟨g5, cap5', hv5, hrb, hcl5, hcm5, hg5⟩ := own_rowB encR_len (HT.out.r5) (by rw [midK_len]; omega)
      rw [midK_len, hN] at hv5 hcl5
      simp only [Value.slice.injEq, true_and] at hv5
      obtain ⟨rfl, rfl⟩ := hv5
      have R5 : Hid (wr.rangeAt g5 (k * 7) (arrR x).toList) := Lib.hid (fun j v hv => (hrb.at_ encR_len hxm (j := j) hv).1)
      have hBn : Blk (wr.alloc (.cells #[.int .i64 0, .bool false, .bool false, .int .i64 0, .int .i64 0, .int .i64 0, .int .i64 0] 46)) wr.heap.size 46 #[.int .i64 0, .bool false, .bool false, .int .i64 0, .int .i64 0, .int .i64 0, .int .i64 0] := Blk.new _ _ _
      have hAn := (Chg.refl [] wr).alloc (.cells #[.int .i64 0, .bool false, .bool false, .int .i64 0, .int .i64 0, .int .i64 0, .int .i64 0] 46)
      have HL := Lib.hid (HT.out.late (Nat.le_refl _))
      have HG := Lib.hid (And.intro hrb (And.intro hcl5 (And.intro hcm5 hg5)))
      have hgl := hrb.lt
      clear hxm hrb hcl5 hcm5 HX H5
      go_upto_region 9 with (first
        | (refine wpList_row 46 (.tmp 26) rfl rfl g5 _ rfl _ _ R5.out Try.underlying46 rfl infR ?_)
        | (refine wpList_store_blk rfl 46 _ _ rfl rfl hBn rfl rfl rfl (by kernel_rfl) rfl ?_; intro w9 hB9 hc9)
        | fail)
      generalize hgb : wr.heap.size = gb at *
      have hc9' := hAn.trans' hc9 (by intro y hy; simp at hy; subst hy; exact .inr (by omega))
      have HT9 := Lib.hid (HT.out.chg0 hc9')
      have k4 : w9.cell? ⟨gb, 4, none⟩ = some (.int .i64 x.due) := hB9.cell 4
      have g0 : w9.cell? ⟨gp, 0, none⟩ = some (.int .i64 nw) := (hB.chg hc9' (by simp)).cell 0
      by_cases hdu : x.due = nw
      · have hne : (x.due != nw) = false := by simp [hdu]
        have hdue : isDue nw x = true := by simp [isDue, hdu]
        have HDN := Lib.hid (dnK_yes hx hdue)
        have HPR := Lib.hid (prK_yes hx hdue)
        have HMD := Lib.hid (midK_yes hx hdue)
        have hdl : (dnL nw (l.take k)).length ≤ 300 := by have h8 := dnL_len nw (l.take k); have h9 : (l.take k).length ≤ N := by rw [List.length_take]; omega
                                                          omega
        have hpl : (prL nw (l.take k)).length ≤ 300 := by have h8 := prL_len nw (l.take k); have h9 : (l.take k).length ≤ N := by rw [List.length_take]; omega
                                                          omega
        have k2 : w9.cell? ⟨gb, 2, none⟩ = some (.bool x.opn) := hB9.cell 2
        have k5 : w9.cell? ⟨gb, 5, none⟩ = some (.int .i64 x.failed) := hB9.cell 5
        have k6 : w9.cell? ⟨gb, 6, none⟩ = some (.int .i64 x.risen) := hB9.cell 6
        have f5 := hB9.frozen 5
        have f6 := hB9.frozen 6
        have l9 := hB9.lt
        have HB9 := Lib.hid hB9
        have HBp := Lib.hid hB
        clear hBn hc9 hAn R5 HT hx hdue hB hB9 hc9' hdu
        go_upto_if 34 with fail
        go_cut [7] (fun v wx => Hid (RT u wx u.heap.size (.slice (some ⟨g5, 0, none⟩) N cap5) (midK nw l k) u6 (prL nw (l.take k)) v (dnL nw (l.take (k + 1))) ∧ Blk wx gb 46 (arrR (lateB x).1) ∧ Apart v.ownBlock.toList [gb]))
        case first =>
          cases ho : x.opn with
          | false =>
            have hlb : lateB x = (x, false) := by unfold lateB; rw [ho]; rfl
            have HF : Hid (RT u w9 u.heap.size (.slice (some ⟨g5, 0, none⟩) N cap5) (midK nw l k) u6 (prL nw (l.take k)) u7 (dnL nw (l.take (k + 1))) ∧ Blk w9 gb 46 (arrR (lateB x).1) ∧ Apart u7.ownBlock.toList [gb]) :=
              Lib.hid ⟨by rw [HDN.out, hlb, if_neg (by simp), List.append_nil]; exact HT9.out, by rw [hlb]; exact HB9.out, HL.out.2.2⟩
            rw [ho] at k2
            clear hlb
            go_wp2_with fail
            go_meet
            exact HF
          | true =>
            have hB11 : Blk ((w9.setCell ⟨gb, 5, none⟩ (.int .i64 (x.failed + 1))).setCell ⟨gb, 6, none⟩ (.int .i64 0)) gb 46 (arrR { x with failed := x.failed + 1, risen := 0 }) := (HB9.out.set_ 5 _).set_ 6 _
            have hc11 : Chg [gb] w9 ((w9.setCell ⟨gb, 5, none⟩ (.int .i64 (x.failed + 1))).setCell ⟨gb, 6, none⟩ (.int .i64 0)) := ((Chg.refl [gb] w9).setCell (.inl (by simp)) _).setCell (.inl (by simp)) _
            have hT11 := HT9.out.chgS hc11 (by simp; omega) HL.out.1 HL.out.2.1 HL.out.2.2
            have hzz := hc11.size
            rw [ho] at k2
            go_upto_region 12 with fail
            generalize (w9.setCell ⟨gb, 5, none⟩ (.int .i64 (x.failed + 1))).setCell ⟨gb, 6, none⟩ (.int .i64 0) = w11 at *
            clear k2 k5 k6 f5 f6 l9 g0 k4 hc11
            have k1 : w11.cell? ⟨gb, 1, none⟩ = some (.bool x.up) := hB11.cell 1
            have k0 : w11.cell? ⟨gb, 0, none⟩ = some (.int .i64 x.node) := hB11.cell 0
            have k5 : w11.cell? ⟨gb, 5, none⟩ = some (.int .i64 (x.failed + 1)) := hB11.cell 5
            have f1 := hB11.frozen 1
            have l1 := hB11.lt
            by_cases hdn : x.up = true ∧ 3 ≤ x.failed + 1
            · obtain ⟨hu, hf3⟩ := hdn
              have hlb : lateB x = ({ x with failed := x.failed + 1, risen := 0, up := false }, true) := by unfold lateB; rw [if_pos ho, if_pos ⟨hu, hf3⟩]
              have hB13 : Blk (w11.setCell ⟨gb, 1, none⟩ (.bool false)) gb 46 (arrR (lateB x).1) := by rw [hlb]; exact hB11.set_ 1 _
              have hc13 := (Chg.refl [gb] w11).setCell (p := ⟨gb, 1, none⟩) (.inl (by simp)) (.bool false)
              have hT13 := hT11.chgS hc13 (by simp; omega) HL.out.1 HL.out.2.1 HL.out.2.2
              have HLB := Lib.hid hlb
              rw [hu] at k1
              clear hu ho hlb hB11 hT11
              go_upto_region 14 with fail
              have k0' : (w11.setCell ⟨gb, 1, none⟩ (.bool false)).cell? ⟨gb, 0, none⟩ = some (.int .i64 x.node) := by
                have := hB13.cell 0
                rw [HLB.out] at this; exact this
              generalize w11.setCell ⟨gb, 1, none⟩ (.bool false) = w13 at *
              clear k1 k0 k5 f1 l1 hc13
              have hrow := hT13.r7
              have hcat := litDn36 w13 x.node
              have hz13 := hT13.chg.size
              have hl13 := hB13.lt
              have HT13 := Lib.hid (And.intro hT13 hB13)
              clear hT13 hB13
              go_wp2_with (first
                | (at_builtin; refine wpList_app elDn36 rfl (.tmp 48) (.tmp 52) rfl u.heap.size rfl (own_chg hrow ((Chg.refl [] w13).alloc _) (by simp)) rfl hcat (encDn_one _) (by unfold maxLen; omega) (by omega) (by simp; omega) ?_; intro v14 w14 hown14 hc14 hb14)
                | fail)
              go_meet
              have hT14 := (HT13.out.1.chg0 ((Chg.refl [] w13).alloc _)).app7 (Nat.le_refl _) hown14 hc14 hb14
              refine Lib.hid ⟨by rw [HDN.out, HLB.out, if_pos rfl]; exact hT14, ?_, ?_⟩
              · exact (HT13.out.2.alloc _).chg hc14 (fun hm => by have := HL.out.2.2 _ hm; simp at this)
              · exact HL.out.2.2.grow (own_new hb14) (by intro y hy; simp at hy; subst hy; simp; omega)
            · have hlb : lateB x = ({ x with failed := x.failed + 1, risen := 0 }, false) := by unfold lateB; rw [if_pos ho, if_neg hdn]
              have HF : Hid (RT u w11 u.heap.size (.slice (some ⟨g5, 0, none⟩) N cap5) (midK nw l k) u6 (prL nw (l.take k)) u7 (dnL nw (l.take (k + 1))) ∧ Blk w11 gb 46 (arrR (lateB x).1) ∧ Apart u7.ownBlock.toList [gb]) :=
                Lib.hid ⟨by rw [HDN.out, hlb, if_neg (by simp), List.append_nil]; exact hT11, by rw [hlb]; exact hB11, HL.out.2.2⟩
              have hcs : x.up = false ∨ (x.up = true ∧ x.failed + 1 < 3) := by
                cases hu : x.up with
                | false => exact .inl rfl
                | true => exact .inr ⟨rfl, by by_cases h : 3 ≤ x.failed + 1; exact absurd ⟨hu, h⟩ hdn; omega⟩
              clear hdn hB11 hT11 hlb ho
              rcases hcs with hu | ⟨hu, hf3⟩
              all_goals
                rw [hu] at k1
                clear hu
                go_wp2_with fail
                go_meet
                exact HF
        case rest =>
          obtain ⟨hTc, hBc, hac⟩ := hcut.out
          have HLK := Lib.hid (lateB_keep x)
          have HST : Hid (stepB nw x = { (lateB x).1 with seq := nextS x.seq, opn := true, due := nw + 4 }) := Lib.hid rfl
          generalize (lateB x).1 = y at *
          rw [HLK.out.2.1.symm] at hq0 hq1
          have k3 : wc.cell? ⟨gb, 3, none⟩ = some (.int .i64 y.seq) := hBc.cell 3
          have f3 := hBc.frozen 3
          have l3 := hBc.lt
          have hB15 : Blk (wc.setCell ⟨gb, 3, none⟩ (.int .i64 (y.seq + 1))) gb 46 (arrR { y with seq := y.seq + 1 }) := hBc.set_ 3 _
          have hc15 := (Chg.refl [gb] wc).setCell (p := ⟨gb, 3, none⟩) (.inl (by simp)) (.int .i64 (y.seq + 1))
          have hT15 := hTc.chgS hc15 (by simp; omega) HL.out.1 HL.out.2.1 hac
          have HAC := Lib.hid hac
          clear hcut hTc hBc k2 k5 k6 f5 f6 l9 k4 g0 hac HT9 HB9
          go_upto_region 16 with fail
          generalize wc.setCell ⟨gb, 3, none⟩ (.int .i64 (y.seq + 1)) = w15 at *
          clear k3 f3 l3 hc15
          have k3 : w15.cell? ⟨gb, 3, none⟩ = some (.int .i64 (y.seq + 1)) := hB15.cell 3
          have f3 := hB15.frozen 3
          have l3 := hB15.lt
          go_upto_if 60 with fail
          go_cut [] (fun wx => Hid (RT u wx u.heap.size (.slice (some ⟨g5, 0, none⟩) N cap5) (midK nw l k) u6 (prL nw (l.take k)) u7 (dnL nw (l.take (k + 1))) ∧ Blk wx gb 46 (arrR { y with seq := nextS x.seq })))
          case first =>
            by_cases hsq : y.seq = 65535
            · have hB17 : Blk (w15.setCell ⟨gb, 3, none⟩ (.int .i64 1)) gb 46 (arrR { y with seq := 1 }) := hB15.set_ 3 _
              have hc17 := (Chg.refl [gb] w15).setCell (p := ⟨gb, 3, none⟩) (.inl (by simp)) (.int .i64 1)
              have hns : nextS x.seq = 1 := by unfold nextS; rw [if_pos (by have := HLK.out.2.1; omega)]
              have HF : Hid (RT u (w15.setCell ⟨gb, 3, none⟩ (.int .i64 1)) u.heap.size (.slice (some ⟨g5, 0, none⟩) N cap5) (midK nw l k) u6 (prL nw (l.take k)) u7 (dnL nw (l.take (k + 1))) ∧ Blk (w15.setCell ⟨gb, 3, none⟩ (.int .i64 1)) gb 46 (arrR { y with seq := nextS x.seq })) :=
                Lib.hid ⟨hT15.chgS hc17 (by simp; omega) HL.out.1 HL.out.2.1 HAC.out, by rw [hns]; exact hB17⟩
              have hgt : 65535 < y.seq + 1 := by omega
              clear hB17 hc17 hT15 hB15 hsq
              go_wp2_with fail
              go_meet
              exact HF
            · have hns : nextS x.seq = y.seq + 1 := by unfold nextS; rw [if_neg (by have := HLK.out.2.1; omega), HLK.out.2.1]
              have HF : Hid (RT u w15 u.heap.size (.slice (some ⟨g5, 0, none⟩) N cap5) (midK nw l k) u6 (prL nw (l.take k)) u7 (dnL nw (l.take (k + 1))) ∧ Blk w15 gb 46 (arrR { y with seq := nextS x.seq })) :=
                Lib.hid ⟨hT15, by rw [hns]; exact hB15⟩
              have hgt : y.seq + 1 ≤ 65535 := by omega
              clear hT15 hB15 hsq
              go_wp2_with fail
              go_meet
              exact HF
          case rest =>
            obtain ⟨hTd, hBd⟩ := hcut.out
            generalize hnx : nextS x.seq = sn at *
            clear k3 f3 l3 hT15 hB15 hcut
            go_upto_region 18 with fail
            have HFD := Lib.hid (fun W (h : RT u W u.heap.size (.slice (some ⟨g5, 0, none⟩) N cap5) (midK nw l k) u6 (prL nw (l.take k)) u7 (dnL nw (l.take (k + 1)))) => (show W.cell? ⟨gp, 0, none⟩ = some (.int .i64 nw) from (HBU.out W h.chg).cell 0))
            have hS0 : (fun W : World => W.cell? ⟨gp, 0, none⟩ = some (.int .i64 nw)) _ := HFD.out _ (hTd.chg0 (Chg.refl [] _).drew)
            have hBd2 := hBd.drew
            have k2 : wc.drew.cell? ⟨gb, 2, none⟩ = some (.bool y.opn) := hBd2.cell 2
            have f2 := hBd2.frozen 2
            have hB18 : Blk (wc.drew.setCell ⟨gb, 2, none⟩ (.bool true)) gb 46 (arrR { y with seq := sn, opn := true }) := hBd2.set_ 2 (.bool true)
            have k4 : (wc.drew.setCell ⟨gb, 2, none⟩ (.bool true)).cell? ⟨gb, 4, none⟩ = some (.int .i64 y.due) := hB18.cell 4
            have f4 := hB18.frozen 4
            have ld := hBd2.lt
            have ld2 := hB18.lt
            have hB19 : Blk ((wc.drew.setCell ⟨gb, 2, none⟩ (.bool true)).setCell ⟨gb, 4, none⟩ (.int .i64 (nw + 4))) gb 46 (arrR { y with seq := sn, opn := true, due := nw + 4 }) := hB18.set_ 4 (.int .i64 (nw + 4))
            have hc18a : Chg [gb] wc (wc.drew.setCell ⟨gb, 2, none⟩ (.bool true)) := ((Chg.refl [gb] wc).drew).setCell (p := ⟨gb, 2, none⟩) (.inl (by simp)) (.bool true)
            have hc18b : Chg [gb] wc ((wc.drew.setCell ⟨gb, 2, none⟩ (.bool true)).setCell ⟨gb, 4, none⟩ (.int .i64 (nw + 4))) := hc18a.setCell (p := ⟨gb, 4, none⟩) (.inl (by simp)) (.int .i64 (nw + 4))
            have hT18a := hTd.chgS hc18a (by simp; omega) HL.out.1 HL.out.2.1 HAC.out
            have hT18b := hTd.chgS hc18b (by simp; omega) HL.out.1 HL.out.2.1 HAC.out
            have hS1 : (fun W : World => W.cell? ⟨gp, 0, none⟩ = some (.int .i64 nw)) (wc.drew.setCell ⟨gb, 2, none⟩ (.bool true)) := HFD.out _ hT18a
            have hS2 : (fun W : World => W.cell? ⟨gp, 0, none⟩ = some (.int .i64 nw)) ((wc.drew.setCell ⟨gb, 2, none⟩ (.bool true)).setCell ⟨gb, 4, none⟩ (.int .i64 (nw + 4))) := HFD.out _ hT18b
            have HSN : ∀ W : World, (W.cell? ⟨gp, 0, none⟩ = some (.int .i64 nw)) → W.cell? ⟨gp, 0, none⟩ = some (.int .i64 nw) := fun W h => h
            have hwn4 : IntKind.i64.wrap (nw + 4) = nw + 4 := by rw [IntKind.wrap_i64]; omega
            have H19 := Lib.hid (And.intro hT18b hB19)
            clear hT18a hT18b hB18 hB19 hBd2 hTd hBd hc18a hc18b HFD
            refine wp_region_noPanic ?_
            refine wp_region_held_drew (S := fun W : World => W.cell? ⟨gp, 0, none⟩ = some (.int .i64 nw)) (by kernel_rfl) hS0 (fun _ => ?_)
            generalize wc.drew = wz at *
            refine wpAnyH_take (i := 0) (v := ?_) rfl (by kernel_rfl) (by kernel_rfl) (by kernel_rfl) (fun _ _ _ h => h) (yields_pure (by rfl) (fun w => ?_)) (by with_reducible assumption) ?_
            rotate_left
            · (go_simp <;> with_reducible rfl)
            try simp only [List.getElem_toArray, List.getElem_cons_succ, List.getElem_cons_zero, Act.put, List.setIfInBounds_toArray, List.set_cons_zero, List.set_cons_succ]
            refine wpAnyH_take (i := 1) rfl (by kernel_rfl) (by kernel_rfl) (by kernel_rfl) (fun _ _ _ h => h) (yields_cell (by rfl) 3 (.tmp 62) rfl gp 0 rfl (.int .i64 nw) _ HSN Try.underlying3 rfl) (by with_reducible assumption) ?_
            try simp only [List.getElem_toArray, List.getElem_cons_succ, List.getElem_cons_zero, Act.put, List.setIfInBounds_toArray, List.set_cons_zero, List.set_cons_succ]
            refine wpAnyH_take (i := 2) (v := ?_) rfl (by kernel_rfl) (by kernel_rfl) (by kernel_rfl) (fun _ _ _ h => h) (yields_pure (by rfl) (fun w => ?_)) (by with_reducible assumption) ?_
            rotate_left
            · (go_simp <;> with_reducible rfl)
            try simp only [List.getElem_toArray, List.getElem_cons_succ, List.getElem_cons_zero, Act.put, List.setIfInBounds_toArray, List.set_cons_zero, List.set_cons_succ]
            refine wpAnyH_take (i := 3) (v := ?_) rfl (by kernel_rfl) (by kernel_rfl) (by kernel_rfl) (fun _ _ _ h => h) (yields_pure (by rfl) (fun w => ?_)) (by with_reducible assumption) ?_
            rotate_left
            · (go_simp <;> with_reducible rfl)
            try simp only [List.getElem_toArray, List.getElem_cons_succ, List.getElem_cons_zero, Act.put, List.setIfInBounds_toArray, List.set_cons_zero, List.set_cons_succ]
            refine wpAnyH_ready (rs := [4]) (by kernel_rfl) (by simp) (AllReadyH.cons rfl (fun K hK => ?_) AllReadyH.nil)
            go_simp
            refine hK.out _ _ (by with_reducible assumption) (fun _ => ?_)
            clear hK K
            try simp only [List.getElem_toArray, List.getElem_cons_succ, List.getElem_cons_zero, Act.put, List.setIfInBounds_toArray, List.set_cons_zero, List.set_cons_succ]
            refine wpAnyH_take (i := 5) (v := ?_) rfl (by kernel_rfl) (by kernel_rfl) (by kernel_rfl) (fun _ _ _ h => h) (yields_pure (by rfl) (fun w => ?_)) (by with_reducible assumption) ?_
            rotate_left
            · (go_simp <;> with_reducible rfl)
            try simp only [List.getElem_toArray, List.getElem_cons_succ, List.getElem_cons_zero, Act.put, List.setIfInBounds_toArray, List.set_cons_zero, List.set_cons_succ]
            refine wpAnyH_ready (rs := [6]) (by kernel_rfl) (by simp) (AllReadyH.cons rfl (fun K hK => ?_) AllReadyH.nil)
            go_simp
            refine hK.out _ _ (by with_reducible assumption) (fun _ => ?_)
            clear hK K
            try simp only [List.getElem_toArray, List.getElem_cons_succ, List.getElem_cons_zero, Act.put, List.setIfInBounds_toArray, List.set_cons_zero, List.set_cons_succ]
            refine wpAnyH_done (by kernel_rfl) ?_ _
            refine NoPanic.normal ?_
            obtain ⟨hT19, hB19⟩ := H19.out
            generalize (wz.setCell ⟨gb, 2, none⟩ (.bool true)).setCell ⟨gb, 4, none⟩ (.int .i64 (nw + 4)) = we at *
            clear hS0 hS1 hS2 k2 f2 k4 f4 ld ld2 H19 HSN
            have k0 : we.cell? ⟨gb, 0, none⟩ = some (.int .i64 y.node) := hB19.cell 0
            have k3 : we.cell? ⟨gb, 3, none⟩ = some (.int .i64 sn) := hB19.cell 3
            have hrow := hT19.r6
            have hcat := litPr36 we y.node sn
            have hze := hT19.chg.size
            have hle := hB19.lt
            have HE := Lib.hid (And.intro hT19 hB19)
            have HX2 := HE
            clear hT19 hB19
            go_upto_region 20 with (first
              | (at_builtin; refine wpList_app elPr36 rfl (.tmp 67) (.tmp 73) rfl u.heap.size rfl (own_chg hrow ((Chg.refl [] we).alloc _) (by simp)) rfl hcat (encPr_one _) (by unfold maxLen; omega) (by omega) (by simp; omega) ?_; intro v19 w19 hown19 hc19 hb19)
              | fail)
            have hT20 := (HE.out.1.chg0 ((Chg.refl [] we).alloc _)).app6 (Nat.le_refl _) hown19 hc19 hb19
            have hB20 := (HE.out.2.alloc _).chg hc19 (fun hm => by have := HL.out.2.1 _ hm; simp at this)
            obtain ⟨g5', cap5', hv5, hrb, hcl5, hcm5, hg5'⟩ := own_rowB encR_len hT20.r5 (by rw [midK_len]; omega)
            rw [midK_len, hN] at hv5 hcl5
            simp only [Value.slice.injEq, true_and, Option.some.injEq, Addr.mk.injEq, and_true] at hv5
            obtain ⟨rfl, rfl⟩ := hv5
            have R20 := Lib.hid hB20.rangeQ
            have hkl : k < (midK nw l k).length := by rw [midK_len]; omega
            have hsz : (midK nw l k).length * 7 ≤ cap5 * 7 := by rw [midK_len, hN]; omega
            have HT20 := Lib.hid hT20
            clear hown19 hc19 hb19 hT20 hrow hcat k0 k3 HE HX2 hB20 hg5' HG
            go_wp2_with (first
              | (refine wpList_row 46 (.tmp 9) rfl rfl gb 0 rfl _ _ R20.out Try.underlying46 rfl infR ?_)
              | (refine wpList_store_row encR_len rfl 46 (.tmp 78) (.tmp 77) rfl hrb hkl hsz ({ y with seq := sn, opn := true, due := nw + 4 }) rfl rfl (by kernel_rfl) (encR_one _) ?_; intro w20 hrb20 hc20)
              | fail)
            have HFI : Hid (RT u w20 u.heap.size (.slice (some ⟨g5, 0, none⟩) N cap5) (midK nw l (k + 1)) v19 (prL nw (l.take (k + 1))) u7 (dnL nw (l.take (k + 1)))) := Lib.hid (by
              have hT := HT20.out
              have hmd : midK nw l (k + 1) = (midK nw l k).set k { y with seq := sn, opn := true, due := nw + 4 } := by rw [HMD.out, HST.out]
              have hl1 : (midK nw l (k + 1)).length = N := by rw [midK_len, hN]
              have hpr : prL nw (l.take (k + 1)) = prL nw (l.take k) ++ [(y.node, sn)] := by rw [HPR.out, HLK.out.1]
              have ha : ∀ {L : List Nat}, Apart (Value.slice (some ⟨g5, 0, none⟩) N cap5).ownBlock.toList L → ∀ x ∈ L, x ∉ [g5] := fun h x hx hm => by simp at hm; subst hm; exact h _ (by simp [Value.ownBlock]) hx
              rw [hpr]
              refine ⟨hT.chg.trans' hc20 (by intro z hz; simp at hz; subst hz; exact .inr hg5), ?_, own_chg hT.r6 hc20 (ha hT.a56), own_chg hT.r7 hc20 (ha hT.a57), hT.a56, hT.a57, hT.a67⟩
              rw [← hmd] at hrb20
              have := rowB_own (base := u.heap.size) encR_len hrb20 (by omega) hcm5 hg5
              rw [hl1] at this ⊢
              exact this)
            clear HT20 hrb20 hc20
            go_roundw
            case rel => exact ⟨k + 1, by omega, by go_num, HFI⟩
            case measure => simp [intOf]; omega
      · have hne : (x.due != nw) = true := by simp [hdu]
        have hdue : isDue nw x = false := by simp [isDue, hdu]
        have HF : Hid (RT u w9 u.heap.size (.slice (some ⟨g5, 0, none⟩) N cap5) (midK nw l (k + 1)) u6 (prL nw (l.take (k + 1))) u7 (dnL nw (l.take (k + 1)))) := Lib.hid (by rw [midK_no hx hdue, prK_no hx hdue, dnK_no hx hdue]; exact HT9.out)
        clear hBn hB9 hc9 hc9' hAn R5 HL HG HT HT9 hdue hB hx
        go_wp2_with fail
        go_roundw
        case rel => exact ⟨k + 1, by omega, by go_num, HF⟩
        case measure => simp [intOf]; omega
    · obtain rfl : k = N := by omega
      have hK1 : midK nw l k = tickL nw l ∧ l.take k = l := by
        refine ⟨?_, by rw [← hN, List.take_length]⟩
        unfold midK midL
        rw [← hN, List.take_length, List.drop_length, List.append_nil]
      have HT2 := HT
      rw [hK1.1, hK1.2] at HT2
      have q1 := hB.cell 1
      have qf := hB.frozen 1
      have ql := hB.lt
      have hP := hB.set_ 1 (.slice A5 k cap5)
      have hR := (HBRU.out wr hcu).far (p := ⟨gp, 1, none⟩) (by simp) (.slice A5 k cap5)
      have hc21 := (Chg.refl [gp] wr).setCell (p := ⟨gp, 1, none⟩) (.inl (by simp)) (.slice A5 k cap5)
      have HC21 := Lib.hid hc21
      have R21 := Lib.hid hP.rangeQ
      clear HX H5 HT hP hc21 hB hK1
      go_upto_region 22 with fail
      generalize wr.setCell ⟨gp, 1, none⟩ (.slice A5 k cap5) = w21 at *
      clear q1 qf ql
      go_wp2_with (first
        | (refine wpList_row 41 (.tmp 1) rfl rfl gp 0 rfl _ _ R21.out Try.underlying41 rfl infRC ?_)
        | (refine wpList_store_blk rfl 41 _ _ rfl rfl hR rfl rfl rfl (by kernel_rfl) rfl ?_; intro w22 hB22 hc22)
        | fail)
      refine bodyPost_ret (results_blk12 rfl rfl hB22 rfl _ Try.underlying41 rfl (by kernel_rfl)) rfl ?_
      rw [HP.out, HTC.out.1, HTC.out.2.1, HTC.out.2.2]
      have hT := HT2.out
      have hz := HZ3.out
      have hcz : Chg [gp, gp + 1] wr w22 := (HC21.out.more (by simp)).trans (hc22.more (by simp))
      have hap : ∀ {v : Value} {B : Nat} {n size : Nat} {e : TypeId} {xs : List Value}, wr.ownsRow u.heap.size e size v n xs → ∀ x ∈ v.ownBlock.toList, x ∉ [gp, gp + 1] := fun h x hx hm => by have := (own_lt h x hx).1; simp at hm; omega
      have hlen : (tickL nw l).length = k := by unfold tickL; rw [List.length_map, hN]
      refine ⟨_, _, _, rfl, ⟨?_, ?_, ?_⟩, ?_, ?_⟩
      · have := own_chg hT.r5 hcz (hap (B := 0) hT.r5)
        exact own_zero' this
      · exact (HU.out.trans hcu).trans' hcz (by intro y hy; simp at hy; rcases hy with rfl | rfl <;> exact .inr (by omega))
      · intro y hy
        exact .inr (by have := (own_lt hT.r5 y hy).1; omega)
      · have := own_chg hT.r6 hcz (hap (B := 0) hT.r6)
        exact own_low this (by omega)
      · have := own_chg hT.r7 hcz (hap (B := 0) hT.r7)
        exact own_low this (by omega)
end Go.Proofs.Ytgbdbeaflilmlaa
