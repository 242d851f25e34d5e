/-
  WALKS: the flow table of the balancer: what is read, looked up, pending, forgotten, learnt. Condition: the table is one that New made; counts and ticks are not great.
-/
import Derived.Test.YtldgdpekhjignaaGreatFtm1
import Derived.BigRegion
set_option linter.unusedVariables false
set_option linter.unusedSimpArgs false
namespace Go.Proofs.YtldgdpekhjignaaGreat.Ft
open Go.RowKit Go.Maps

/-- A table: its tick, its entries, the one touched last first, what was counted. -/
structure Sx where
  now : Int
  L : List En
  c : Cn
def arrC (c : Cn) : Array Value := #[.int .i64 c.hits, .int .i64 c.misses, .int .i64 c.learnt, .int .i64 c.evicted, .int .i64 c.expired, .int .i64 c.clashes]
/-- A table in memory: at tb, room for n, in blocks of F; k: how many timers were set at most. -/
def FT (w : World) (tb n : Nat) (F : List Nat) (k : Nat) (s : Sx) : Prop :=
  ∃ B ka kb J I, B.tb = tb ∧ MemJ w B n ka kb J I ∧ Inv n I s.L [] ∧ I.now = s.now ∧ I.c = s.c ∧ F = footT B J ∧ J.nw ≤ k
/-- What a call leaves: a table, in the blocks of F and in new ones. -/
def FTs (w w' : World) (tb n : Nat) (F : List Nat) (k : Nat) (s : Sx) : Prop := ∃ F', FT w' tb n F' k s ∧ Chg F w w' ∧ ∀ x ∈ F', x ∈ F ∨ w.heap.size ≤ x
section
variable {w w' : World} {tb n : Nat} {F S : List Nat} {k k' : Nat} {s s' : Sx}
theorem FT.chg (h : FT w tb n F k s) (hc : Chg S w w') (hS : ∀ x ∈ S, x ∉ F) : FT w' tb n F k s := by
  obtain ⟨B, ka, kb, J, I, h1, h2, h3, h4, h5, rfl, h7⟩ := h
  exact ⟨B, ka, kb, J, I, h1, h2.chg hc hS, h3, h4, h5, rfl, h7⟩
theorem FT.chg0 (h : FT w tb n F k s) (hc : Chg [] w w') : FT w' tb n F k s := h.chg hc (by simp)
theorem FT.lt (h : FT w tb n F k s) : ∀ x ∈ F, x < w.heap.size := by
  obtain ⟨B, ka, kb, J, I, h1, h2, h3, h4, h5, rfl, h7⟩ := h
  exact h2.lt
theorem FT.mem (h : FT w tb n F k s) : tb ∈ F := by
  obtain ⟨B, ka, kb, J, I, rfl, h2, h3, h4, h5, rfl, h7⟩ := h
  exact mem_footT.2 (.inl (mem_fixB.2 (by simp)))
theorem FT.more (h : FT w tb n F k s) (hk : k ≤ k') : FT w tb n F k' s := by
  obtain ⟨B, ka, kb, J, I, h1, h2, h3, h4, h5, h6, h7⟩ := h
  exact ⟨B, ka, kb, J, I, h1, h2, h3, h4, h5, h6, by omega⟩
theorem FT.nd (h : FT w tb n F k s) : (s.L.map En.fl).Nodup := by
  obtain ⟨B, ka, kb, J, I, h1, h2, h3, h4, h5, h6, h7⟩ := h
  exact h3.nd
theorem FT.len (h : FT w tb n F k s) : s.L.length ≤ n ∧ 1 ≤ n ∧ n ≤ 64 := by
  obtain ⟨B, ka, kb, J, I, h1, h2, h3, h4, h5, h6, h7⟩ := h
  have := h3.le; have := h3.len
  exact ⟨by omega, h2.lo, h2.hi⟩
theorem FT.ok (h : FT w tb n F k s) : ∀ e ∈ s.L, okE e ∧ s.now < e.til ∧ e.til ≤ s.now + 40 := by
  obtain ⟨B, ka, kb, J, I, h1, h2, h3, h4, h5, h6, h7⟩ := h
  intro e he
  rw [h3.L] at he
  obtain ⟨i, hi, rfl⟩ := List.mem_map.1 he
  have := h3.tm i hi
  exact ⟨h3.ok i hi, by rw [← h4]; exact this.2 (by simp), by rw [← h4]; exact this.1⟩
theorem FTs.of (h : FT w' tb n F k s) (hc : Chg F w w') : FTs w w' tb n F k s := ⟨F, h, hc, fun x hx => .inl hx⟩
theorem FTs.trans {w'' : World} {F' : List Nat} (hc : Chg F w w') (hf : ∀ x ∈ F', x ∈ F ∨ w.heap.size ≤ x) (h : FTs w' w'' tb n F' k s) : FTs w w'' tb n F k s := by
  obtain ⟨F2, h1, h2, h3⟩ := h
  exact ⟨F2, h1, hc.trans' h2 hf, fun x hx => (h3 x hx).elim (fun h => hf x h) (fun h => .inr (by have := hc.size; omega))⟩
end
section
variable {w : World} {tb n : Nat} {F : List Nat} {k : Nat} {s : Sx}
set_option maxHeartbeats 400000 in
theorem len_any (h : FT w tb n F k s) : Calls Tryz.prog 9 #[.pointer (some ⟨tb, 0, none⟩)] w fun e w' => e = .returned (.int .i64 s.L.length) ∧ w = w' := by
  obtain ⟨B, ka, kb, J, I, rfl, h2, h3, h4, h5, rfl, h7⟩ := h
  have FI := Lib.hid h2.is_
  have FL := Lib.hid (Rg.len_any h2.ord)
  have c9 : w.cell? ⟨B.tb, 9, none⟩ = some (.pointer (some ⟨B.ob, 0, none⟩)) := h2.cT 9
  have HL := Lib.hid h3.len
  clear h2 h3
  go_enter Tryz.func9, Tryz.ntmps9
  go_wp2_with fail
  refine FI.out.mono ?_
  rintro e w' ⟨rfl, rfl⟩
  go_wp2_with fail
  refine FL.out.mono ?_
  rintro e w' ⟨rfl, rfl⟩
  go_wp2_with fail
  go_ret
  rw [HL.out]
  exact ⟨rfl, rfl⟩
set_option maxHeartbeats 400000 in
theorem cap_any (h : FT w tb n F k s) : Calls Tryz.prog 15 #[.pointer (some ⟨tb, 0, none⟩)] w fun e w' => e = .returned (.int .i64 n) ∧ w = w' := by
  obtain ⟨B, ka, kb, J, I, rfl, h2, h3, h4, h5, rfl, h7⟩ := h
  have FI := Lib.hid h2.is_
  have c7 : w.cell? ⟨B.tb, 7, none⟩ = some (.slice (some ⟨B.lc, 0, none⟩) n n) := h2.cT 7
  clear h2 h3
  go_enter Tryz.func15, Tryz.ntmps15
  go_wp2_with fail
  refine FI.out.mono ?_
  rintro e w' ⟨rfl, rfl⟩
  go_wp2_with fail
  go_ret
  exact ⟨rfl, rfl⟩
theorem infC : (Tryz.prog.info? 31).map (·.size) = some 6 := by kernel_rfl
@[reducible] def arrC0 : Array Value := #[.int .i64 0, .int .i64 0, .int .i64 0, .int .i64 0, .int .i64 0, .int .i64 0]
set_option maxHeartbeats 400000 in
theorem counts_any (h : FT w tb n F k s) : Calls Tryz.prog 10 #[.pointer (some ⟨tb, 0, none⟩)] w fun e w' => e = .returned (.agg (arrC s.c)) ∧ Chg [] w w' := by
  obtain ⟨B, ka, kb, J, I, rfl, h2, h3, h4, h5, rfl, h7⟩ := h
  have hA := (Chg.refl [] w).alloc (.cells arrC0 31)
  have hB : Blk (w.alloc (.cells arrC0 31)) w.heap.size 31 arrC0 := Blk.new _ _ _
  have hM := h2.chg0 hA
  have FI := Lib.hid hM.is_
  have hr : (w.alloc (.cells arrC0 31)).rangeAt B.tb 0 (arrC s.c).toList := fun j u hu => by
    have hj : j < 6 := (List.getElem?_eq_some_iff.1 hu).1
    rw [← h5] at hu
    rw [Nat.zero_add, hM.tblk.cell, ← hu]
    rcases (show j = 0 ∨ j = 1 ∨ j = 2 ∨ j = 3 ∨ j = 4 ∨ j = 5 by omega) with rfl | rfl | rfl | rfl | rfl | rfl <;> rfl
  have HC : Hid ((Tryz.prog.info? 31).map (·.size) = some (arrC s.c).size ∧ (arrC s.c).toList.all (·.oneCell') = true) := Lib.hid ⟨infC, rfl⟩
  have HA := Lib.hid hA
  have hsz : (arrC s.c).size = arrC0.size := rfl
  clear h2 h3 hM hA
  generalize arrC s.c = cc at *
  go_enter Tryz.func10, Tryz.ntmps10
  go_wp2_with fail
  refine FI.out.mono ?_
  rintro e w' ⟨rfl, rfl⟩
  generalize hw1 : (w.alloc (.cells arrC0 31)) = w1 at *
  generalize hgg : w.heap.size = g at *
  go_wp2_with (first
    | (refine wpList_row 31 (.tmp 10) rfl rfl B.tb 0 rfl cc _ hr Tryz.underlying31 rfl HC.out.1 ?_)
    | (refine wpList_store_blk (vs := cc) rfl 31 (.tmp 2) (.tmp 11) rfl rfl hB rfl rfl hsz HC.out.1 HC.out.2 ?_; intro w5 hB5 hc5)
    | fail)
  refine bodyPost_ret (results_blk rfl rfl hB5 _ Tryz.underlying31 rfl (by kernel_rfl)) rfl ⟨rfl, HA.out.trans' hc5 (by intro y hy; simp at hy; subst hy; exact .inr (by omega))⟩
end
end Go.Proofs.YtldgdpekhjignaaGreat.Ft
namespace Go.Proofs.YtldgdpekhjignaaGreat.Ft
open Go.RowKit Go.Maps

@[reducible] def arrE0 : Array Value := #[.int .u8 0, .int .u8 0, .int .u8 0, .int .u8 0, .int .u8 0, .int .u8 0, .int .u8 0, .int .u8 0, .int .u8 0, .int .u8 0, .int .u8 0, .int .u8 0, .int .u8 0, .int .u8 0, .int .u8 0, .int .u8 0, .int .i64 0, .int .u8 0, .int .u8 0, .int .u8 0, .int .u8 0, .int .u8 0, .int .u8 0, .int .u8 0, .int .u8 0, .int .u8 0, .int .u8 0, .int .u8 0, .int .u8 0, .int .u8 0, .int .u8 0, .int .u8 0, .int .u8 0, .int .i64 0, .int .i64 0, .int .i64 0, .int .i64 0]
theorem arrE0_eq : arrE e0 = arrE0 := rfl
theorem own_base {w : World} {base base' size n : Nat} {e : TypeId} {v : Value} {xs : List Value} (h : w.ownsRow base e size v n xs) (hb : base' ≤ base) : w.ownsRow base' e size v n xs := by
  refine ⟨h.1, ?_⟩
  rcases h.2 with h2 | ⟨g, cap, cur, hv, hg, r⟩
  · exact .inl h2
  · exact .inr ⟨g, cap, cur, hv, by omega, r⟩
theorem elEf : El Tryz.prog 41 44 (.agg (arrE ⟨⟨⟨0, 0, 0, 0, 0, 0, 0, 0, 0, 0, 0, 0, 0, 0, 0, 0⟩, 0, ⟨0, 0, 0, 0, 0, 0, 0, 0, 0, 0, 0, 0, 0, 0, 0, 0⟩, 0⟩, 0, 0, 0⟩)) 37 72 := ⟨Tryz.underlying41, by kernel_rfl, rfl, by omega⟩
theorem arrE_one (e : En) : (arrE e).toList.all (·.oneCell') = true := rfl
theorem arrE_size (e : En) : (arrE e).size = 37 := rfl
section
variable {w : World} {tb n : Nat} {F : List Nat} {k : Nat} {s : Sx}
set_option maxRecDepth 100000 in
set_option maxHeartbeats 1000000 in
theorem find_any (h : FT w tb n F k s) {f : Fl} (hf : okF f) : Calls Tryz.prog 13 #[.pointer (some ⟨tb, 0, none⟩), f.v] w fun e w' =>
    e = .returned (.tuple #[.agg (arrE ((getE s.L f).getD e0)), .bool (getE s.L f).isSome]) ∧ Chg [] w w' := by
  obtain ⟨B, ka, kb, J, I, rfl, h2, h3, h4, h5, rfl, h7⟩ := h
  have hA := ((Chg.refl [] w).alloc (.cells (arrF f) 38)).alloc (.cells arrE0 44)
  have hB : Blk ((w.alloc (.cells (arrF f) 38)).alloc (.cells arrE0 44)) w.heap.size 38 (arrF f) := (Blk.new _ _ _).alloc _
  have hE : Blk ((w.alloc (.cells (arrF f) 38)).alloc (.cells arrE0 44)) (w.heap.size + 1) 44 arrE0 := Blk.new' (by simp)
  have hM := h2.chg0 hA
  have FP := Lib.hid (place_any hM hf)
  have HI := Lib.hid (And.intro hA (And.intro hM hE))
  have HN := Lib.hid (fun (hk : I.kM f = none) => (h3.none_ hk).1)
  have HS := Lib.hid (fun v (hk : I.kM f = some v) => h3.some_ hk)
  have hn64 := h2.hi
  have HR := Lib.hid hB.rangeQ
  have hR := hB.rangeQ
  clear h2 h3 hA hM hE hB
  generalize ho : I.kM f = o at *
  clear ho
  go_enter Tryz.func13, Tryz.ntmps13
  go_upto_region 1 with fail
  generalize hw1 : ((w.alloc (.cells (arrF f) 38)).alloc (.cells arrE0 44)) = w1 at *
  generalize hgg : w.heap.size = g at *
  go_wp2_with (first
    | (refine wpList_row 38 (.tmp 3) rfl rfl g 0 rfl (arrF f) _ hR Tryz.underlying38 rfl infF ?_)
    | fail)
  refine FP.out.mono ?_
  rintro e w2 ⟨rfl, hc2⟩
  have HC2 := Lib.hid hc2
  have hE2 := HI.out.2.2.chg hc2 (by simp)
  cases o with
  | none =>
    have HG := Lib.hid (HN.out rfl)
    clear HN HS hR hc2 FP
    go_wp2_with (first
      | (refine wpList_store_blk (vs := arrE0) rfl 44 (.tmp 4) (.tmp 16) rfl rfl hE2 rfl rfl rfl infE37 rfl ?_; intro w5 hB5 hc5)
      | fail)
    refine bodyPost_ret (results_blk2 rfl rfl hB5 _ Tryz.underlying44 rfl (by kernel_rfl)) rfl ⟨?_, (HI.out.1.trans HC2.out).trans' hc5 (by intro y hy; simp at hy; subst hy; exact .inr (by omega))⟩
    rw [HG.out]
    rfl
  | some v =>
    obtain ⟨i, hi, rfl, hfl, hin, hg⟩ := HS.out v rfl
    have HG := Lib.hid hg
    have hM2 := HI.out.2.1.chg0 hc2
    have c7 : w2.cell? ⟨B.tb, 7, none⟩ = some (.slice (some ⟨B.lc, 0, none⟩) n n) := hM2.cT 7
    have hr7 := hM2.all hin
    have hiI : (i : Int) < (n : Int) := by omega
    clear HN HS hR hc2 FP hM2 hfl hg
    generalize I.ls i = x at *
    go_wp2_with (first
      | (refine wpList_row 44 (.tmp 22) rfl rfl B.lc (i * 37) rfl (arrE x) _ hr7 Tryz.underlying44 rfl infE ?_)
      | (refine wpList_store_blk (vs := arrE x) rfl 44 (.tmp 4) (.tmp 23) rfl rfl hE2 rfl rfl rfl infE (arrE_one _) ?_; intro w5 hB5 hc5)
      | fail)
    refine bodyPost_ret (results_blk2 rfl rfl hB5 _ Tryz.underlying44 rfl (by kernel_rfl)) rfl ⟨?_, (HI.out.1.trans HC2.out).trans' hc5 (by intro y hy; simp at hy; subst hy; exact .inr (by omega))⟩
    rw [HG.out]
    rfl
set_option maxRecDepth 100000 in
set_option maxHeartbeats 1000000 in
theorem all_any (h : FT w tb n F k s) : Calls Tryz.prog 12 #[.pointer (some ⟨tb, 0, none⟩)] w fun e w' =>
    ∃ v, e = .returned v ∧ w'.ownsRow w.heap.size 44 37 v s.L.length (s.L.flatMap encE) ∧ Chg [] w w' := by
  obtain ⟨B, ka, kb, J, I, rfl, h2, h3, h4, h5, rfl, h7⟩ := h
  have FI := Lib.hid h2.is_
  have c9 : w.cell? ⟨B.tb, 9, none⟩ = some (.pointer (some ⟨B.ob, 0, none⟩)) := h2.cT 9
  have FA := Lib.hid (Rg.all_any h2.ord)
  have HM := Lib.hid (fun W (hc : Chg [] w W) => h2.chg0 hc)
  have HL := Lib.hid h3.L
  have hlen : I.od.length ≤ 64 := by have := h3.le; have := h2.hi; omega
  have HIN := Lib.hid (fun i (hi : i ∈ I.od) => (h3.all i).2 (.inl hi))
  have hn64 := h2.hi
  clear h2 h3
  go_enter Tryz.func12, Tryz.ntmps12
  go_wp2_with fail
  refine FI.out.mono ?_
  rintro e w' ⟨rfl, rfl⟩
  go_wp2_with fail
  refine FA.out.mono ?_
  rintro e w2 ⟨v2, rfl, hown, hc2⟩
  obtain ⟨A, cp, hv⟩ := Sl.form (Sl.of_own hown)
  subst hv
  have HR := Lib.hid (fun W (hc : Chg [] w2 W) => (Sl.of_own hown).chg0 hc)
  have HC2 := Lib.hid hc2
  have hs2 := hc2.size
  clear FI FA hown hc2 c9
  generalize hNN : I.od.length = N at *
  go_wp2_with fail
  go_loopw [3, 15] (fun ov iv wr => ∃ j : Nat, j ≤ N ∧ iv = .int .i64 j ∧ Hid (wr.ownsRow w2.heap.size 44 37 ov ((I.od.take j).map I.ls).length (((I.od.take j).map I.ls).flatMap encE)) ∧ Hid (Chg [] w2 wr)) (fun _ iv _ => N - (intOf iv).toNat)
  case atStart => exact ⟨0, by omega, rfl, Lib.hid (by simpa using World.ownsRow_nil ..), Lib.hid (Chg.refl _ _)⟩
  case round =>
    obtain ⟨j, hj, rfl, HOW, HCG⟩ := hrel
    by_cases hlt : j < N
    · have hx : I.od[j]? = some (I.od[j]'(by omega)) := List.getElem?_eq_getElem _
      generalize (I.od[j]'(by omega)) = x at hx
      have hxn : x < n := HIN.out x (List.mem_of_getElem? hx)
      obtain ⟨b', o', c', hv, _, _, hg⟩ := Sl.at_ (HR.out wr HCG.out) hlt (by omega)
      simp only [Value.slice.injEq, true_and] at hv
      obtain ⟨rfl, rfl⟩ := hv
      have g0 := hg 0 (by omega)
      simp only [Nat.mul_one, Nat.add_zero, List.getElem?_map, hx, Option.map_some] at g0
      replace g0 : wr.cell? ⟨b', o' + j, none⟩ = some (.int .i64 x) := g0
      have hTK : Hid ((I.od.take (j + 1)).map I.ls = (I.od.take j).map I.ls ++ [I.ls x]) := Lib.hid (by rw [List.take_add_one, hx]; simp)
      have hMr := HM.out wr (HC2.out.trans HCG.out)
      have c7 : wr.cell? ⟨B.tb, 7, none⟩ = some (.slice (some ⟨B.lc, 0, none⟩) n n) := hMr.cT 7
      have hr7 := hMr.all hxn
      have hxI : (x : Int) < (n : Int) := by omega
      have hlj : ((I.od.take j).map I.ls).length = j := by rw [List.length_map, List.length_take]; omega
      have hA := (Chg.refl [] wr).alloc (.cells (arrE (I.ls x)) 44)
      have HR1 := Lib.hid (own_chg HOW.out hA (by simp))
      have HS1 : Hid (Sl (wr.alloc (.cells (arrE (I.ls x)) 44)) 0 37 (.slice (some ⟨wr.heap.size, 0, none⟩) 1 1) 1 (encE (I.ls x))) := Lib.hid (Sl.of_own (own_lit (base := 0) wr 44 37 1 (arrE (I.ls x)) (Nat.zero_le _) (by simp [maxLen]) rfl))
      have HSZ := Lib.hid (own_lt HOW.out)
      have HCA := Lib.hid (HCG.out.trans hA)
      have HCA2 := Lib.hid ((HC2.out.trans HCG.out).trans hA)
      have hws : w2.heap.size ≤ (wr.alloc (.cells (arrE (I.ls x)) 44)).heap.size := HCA.out.size
      rw [hlj] at HR1
      have HSN : Hid (∀ v (W : World), W.ownsRow w2.heap.size 44 37 v (j + 1) (((I.od.take j).map I.ls).flatMap encE ++ encE (I.ls x)) → W.ownsRow w2.heap.size 44 37 v ((I.od.take (j + 1)).map I.ls).length (((I.od.take (j + 1)).map I.ls).flatMap encE)) := Lib.hid fun v W h => by
        rw [hTK.out, List.length_append, hlj, List.flatMap_append, List.flatMap_cons, List.flatMap_nil, List.append_nil]; exact h
      have hlu : j < 1000 := by omega
      clear hMr hA HOW hg hx hTK hlj HCG HCA2
      go_wp2_with (first
        | (refine wpList_row 44 (.tmp 25) rfl rfl B.lc (x * 37) rfl (arrE (I.ls x)) _ hr7 Tryz.underlying44 rfl infE ?_)
        | (at_builtin; refine wpList_app elEf rfl (.tmp 19) (.tmp 27) rfl w2.heap.size rfl HR1.out rfl HS1.out (encE_one _) (by unfold maxLen; omega) (by omega) hws ?_; intro v1 w5 hown1 hc5 hb5; have HC5 := Lib.hid (HCA.out.trans' hc5 (fun y hy => .inr (HSZ.out y hy).1)); have HO5 := Lib.hid (HSN.out _ _ hown1); clear hc5 hb5 hown1)
        | fail)
      go_roundw
      case rel => exact ⟨j + 1, by omega, by go_num, HO5, HC5⟩
      case measure => simp [intOf]; omega
    · obtain rfl : j = N := by omega
      have htk : (I.od.take j).map I.ls = s.L := by rw [← hNN, List.take_length, HL.out]
      have HFIN : Hid (wr.ownsRow w.heap.size 44 37 u3 s.L.length (s.L.flatMap encE) ∧ Chg [] w wr) := Lib.hid ⟨by rw [← htk]; exact own_base HOW.out hs2, HC2.out.trans HCG.out⟩
      clear HOW HCG HR HM HIN htk
      go_wp2_with fail
      go_ret
      exact ⟨_, rfl, HFIN.out⟩
end
end Go.Proofs.YtldgdpekhjignaaGreat.Ft
namespace Go.Proofs.YtldgdpekhjignaaGreat.Ft
open Go.RowKit Go.Maps

/-- A cell loaded, as one step of a region that draws its order. -/
theorem step_cell {P : Program} {ops : Array Oper} {op : Oper} {a : Act} {w : World} {K : Act → World → Prop} {Q : Exit → Act → World → Prop} {E : Prop} (hgd : op.guard = none) (ty : TypeId) (x : Operand) (ho : op.op = .load ty x) (b off : Nat) (hx : a.eval x = .pointer (some ⟨b, off, none⟩)) (v : Value) (d : TypeDesc)
    (hS : w.cell? ⟨b, off, none⟩ = some v) (hu : P.underlying ty = some d) (hd : d.isRow = false) (h : K (a.put op.dst v) w) : if Region.wanted op (yielded ops a.tmps) = true then Oper.wp P op a w K Q else E := by
  rw [if_pos (by simp [Region.wanted, hgd])]
  unfold Oper.wp execOp
  simp only [ho, hx, Instr.loadAt, Instr.sureAddr, Sem.run_bind, Sem.run_pure, Result.andThen_ok, run_loadVar_one w _ ty d v hS hu hd]
  exact h
def bN (x : Int) : Prop := 0 ≤ x ∧ x ≤ 1000000000
structure bC (c : Cn) : Prop where
  hits : bN c.hits
  misses : bN c.misses
  learnt : bN c.learnt
  evicted : bN c.evicted
  expired : bN c.expired
  clashes : bN c.clashes
def stEn (e : En) (fl : Int) : En := { e with st := nextF e.st fl }
/-- An entry that was touched now. -/
def nowE (now : Int) (e : En) : En := { e with til := now + timeout e.st }
def lookS (s : Sx) (f : Fl) (fl : Int) : Sx × Int × Bool :=
  match getE s.L f with
  | none => ({ s with c := { s.c with misses := s.c.misses + 1 } }, 0, false)
  | some e => if e.node = 0 then ({ s with c := { s.c with misses := s.c.misses + 1 } }, 0, false)
    else ({ s with L := nowE s.now (stEn e fl) :: outE s.L f, c := { s.c with hits := s.c.hits + 1 } }, e.node, true)
theorem look_none {s : Sx} {f : Fl} {fl : Int} (h : getE s.L f = none) : lookS s f fl = ({ s with c := { s.c with misses := s.c.misses + 1 } }, 0, false) := by
  unfold lookS; rw [h]
theorem look_zero {s : Sx} {f : Fl} {fl : Int} {e : En} (h : getE s.L f = some e) (hn : e.node = 0) : lookS s f fl = ({ s with c := { s.c with misses := s.c.misses + 1 } }, 0, false) := by
  unfold lookS; rw [h]; exact if_pos hn
theorem look_some {s : Sx} {f : Fl} {fl : Int} {e : En} (h : getE s.L f = some e) (hn : ¬ e.node = 0) : lookS s f fl = ({ s with L := nowE s.now (stEn e fl) :: outE s.L f, c := { s.c with hits := s.c.hits + 1 } }, e.node, true) := by
  unfold lookS; rw [h]; exact if_neg hn
section
variable {w : World} {B : Bx} {n : Nat} {ka kb : Int} {J : Jx} {I : In} {L : List En} {s : Sx}
theorem FTs.mk {w w' : World} {k : Nat} {J' : Jx} {I' : In} (hM : MemJ w' B n ka kb J' I') (hI : Inv n I' s.L []) (h1 : I'.now = s.now) (h2 : I'.c = s.c) (hS : Stp w w' B J J') (hk : J'.nw ≤ k) : FTs w w' B.tb n (footT B J) k s :=
  ⟨_, ⟨B, ka, kb, J', I', rfl, hM, hI, h1, h2, rfl, hk⟩, hS.chg, hS.ft⟩
theorem Inv.c' (h : Inv n I L []) (c' : Cn) : Inv n { I with c := c' } L [] := ⟨h.ndo, h.ndf, h.sep, h.all, h.L, h.key, h.whl, h.cnt, h.tm, h.ok⟩
/-- Behind a renewal: the entry stands ahead of all. -/
theorem Inv.touch (h : Inv n I L []) {i : Nat} (hi : i ∈ I.od) {e : En} (hf : e.fl = (I.ls i).fl) (ho : okE e) :
    Inv n (({ I with ls := updE I.ls i e } : In).renew i (tilOf { I with ls := updE I.ls i e } i)) (nowE I.now e :: outE L (I.ls i).fl) [] := by
  have hto := timeout_le e.st
  have e1 : tilOf { I with ls := updE I.ls i e } i = nowE I.now e := by
    unfold tilOf nowE
    show ({ updE I.ls i e i with til := I.now + timeout (updE I.ls i e i).st } : En) = _
    rw [updE_same]
  have e2 : ({ I with ls := updE I.ls i e } : In).renew i (nowE I.now e) = I.renew i (nowE I.now e) := by
    unfold In.renew
    simp only [updE_twice]
  rw [e1, e2]
  have := h.renew hi (e := nowE I.now e) hf (by unfold nowE; exact ⟨by show I.now < I.now + timeout e.st; omega, by show I.now + timeout e.st ≤ I.now + 40; omega⟩) ⟨ho.fl, ho.node, ho.st⟩
  rw [show (nowE I.now e).fl = (I.ls i).fl from hf] at this
  exact this
theorem Inv.touch0 (h : Inv n I L []) {i : Nat} (hi : i ∈ I.od) : Inv n (I.renew i (tilOf I i)) (nowE I.now (I.ls i) :: outE L (I.ls i).fl) [] := by
  have := h.touch hi (e := I.ls i) rfl (h.ok i hi)
  have e : updE I.ls i (I.ls i) = I.ls := by funext j; unfold updE; split; (next e => rw [e]); rfl
  rw [e] at this
  exact this
set_option maxRecDepth 100000 in
set_option maxHeartbeats 2000000 in
theorem look_any {tb : Nat} {F : List Nat} {k : Nat} (h : FT w tb n F k s) {f : Fl} (hf : okF f) (fl : Int) (hn0 : 0 ≤ s.now) (hn1 : s.now ≤ 100000) (hk : k < 10000) (hC : bC s.c) :
    Calls Tryz.prog 17 #[.pointer (some ⟨tb, 0, none⟩), f.v, .int .i64 fl] w fun e w' =>
      e = .returned (.tuple #[.int .i64 (lookS s f fl).2.1, .bool (lookS s f fl).2.2]) ∧ FTs w w' tb n F (k + 1) (lookS s f fl).1 := by
  obtain ⟨B, ka, kb, J, I, rfl, h2, h3, h4, h5, rfl, h7⟩ := h
  have hA := (Chg.refl [] w).alloc (.cells (arrF f) 38)
  have hB : Blk (w.alloc (.cells (arrF f) 38)) w.heap.size 38 (arrF f) := Blk.new _ _ _
  have hM := h2.chg0 hA
  have FI := Lib.hid hM.is_
  have FP := Lib.hid (place_any hM hf)
  have HI := Lib.hid (And.intro hA hM)
  have HN := Lib.hid (fun (hk : I.kM f = none) => (h3.none_ hk).1)
  have HS := Lib.hid (fun v (hk : I.kM f = some v) => h3.some_ hk)
  have H3 := Lib.hid h3
  have hn64 := h2.hi
  have hR := hB.rangeQ
  have hCC := Lib.hid hC
  clear h2 h3 hA hM hB hC
  generalize ho : I.kM f = o at *
  clear ho
  go_enter Tryz.func17, Tryz.ntmps17
  go_upto_region 1 with fail
  generalize hw1 : (w.alloc (.cells (arrF f) 38)) = w1 at *
  generalize hgg : w.heap.size = g at *
  go_wp2_with fail
  refine FI.out.mono ?_
  rintro e w' ⟨rfl, rfl⟩
  clear FI
  go_wp2_with (first
    | (refine wpList_row 38 (.tmp 4) rfl rfl g 0 rfl (arrF f) _ hR Tryz.underlying38 rfl infF ?_)
    | fail)
  refine FP.out.mono ?_
  rintro e w2 ⟨rfl, hc2⟩
  have HC2 := Lib.hid (HI.out.1.trans hc2)
  have hM2 := HI.out.2.chg0 hc2
  have HM2 := Lib.hid hM2
  have c1 : w2.cell? ⟨B.tb, 1, none⟩ = some (.int .i64 s.c.misses) := by rw [← h5]; exact hM2.cT 1
  have f1 := hM2.fT 1
  have hwm : IntKind.i64.wrap (s.c.misses + 1) = s.c.misses + 1 := by have := hCC.out.misses; unfold bN at this; rw [IntKind.wrap_i64]; omega
  have HMiss : Hid (FTs w (w2.setCell ⟨B.tb, 1, none⟩ (.int .i64 (s.c.misses + 1))) B.tb n (footT B J) (k + 1) { s with c := { s.c with misses := s.c.misses + 1 } }) := Lib.hid (by
    obtain ⟨hM3, hS3⟩ := hM2.setC (c' := { s.c with misses := s.c.misses + 1 }) (i := 1) (u := .int .i64 (s.c.misses + 1)) (by rw [h5]; rfl)
    exact FTs.mk hM3 (H3.out.c' _) h4 rfl ((Stp.refl HC2.out).trans hS3) (by omega))
  clear FP HI hR hc2 hw1
  cases o with
  | none =>
    have HG := Lib.hid (look_none (s := s) (fl := fl) (HN.out rfl))
    clear HN HS hM2
    go_wp2_with fail
    go_ret2
    rw [HG.out]
    exact ⟨rfl, HMiss.out⟩
  | some v =>
    obtain ⟨i, hi, rfl, hfl, hin, hg⟩ := HS.out v rfl
    have c7 : w2.cell? ⟨B.tb, 7, none⟩ = some (.slice (some ⟨B.lc, 0, none⟩) n n) := hM2.cT 7
    have k1 : w2.cell? ⟨B.lc, i * 37 + 34, none⟩ = some (.int .i64 (I.ls i).node) := (hM2.at_ hin (j := 34) rfl).1
    have hiI : (i : Int) < (n : Int) := by omega
    clear HN HS
    by_cases hz : (I.ls i).node = 0
    · have HG := Lib.hid (look_zero (fl := fl) hg hz)
      rw [hz] at k1
      clear hM2 hg hfl
      go_wp2_with fail
      go_ret2
      rw [HG.out]
      exact ⟨rfl, HMiss.out⟩
    · have HG := Lib.hid (look_some (fl := fl) hg hz)
      have hzb : ((I.ls i).node == 0) = false := by simp [hz]
      have hst := (H3.out.ok i hi).st
      clear HMiss c1 f1 hwm
      have c0 : w2.cell? ⟨B.tb, 0, none⟩ = some (.int .i64 s.c.hits) := by rw [← h5]; exact hM2.cT 0
      have f0 := hM2.fT 0
      have hwm : IntKind.i64.wrap (s.c.hits + 1) = s.c.hits + 1 := by have := hCC.out.hits; unfold bN at this; rw [IntKind.wrap_i64]; omega
      obtain ⟨hM3, hS3⟩ := hM2.setC (c' := { s.c with hits := s.c.hits + 1 }) (i := 0) (u := .int .i64 (s.c.hits + 1)) (by rw [h5]; rfl)
      have HM3 := Lib.hid hM3
      have HS3 := Lib.hid ((Stp.refl HC2.out).trans hS3)
      clear hM2 hg hM3 hS3 HM2
      go_upto_region 8 with fail
      generalize (w2.setCell ⟨B.tb, 0, none⟩ (.int .i64 (s.c.hits + 1))) = w3 at *
      have hMd : MemJ w3.drew B n ka kb J { I with c := { s.c with hits := s.c.hits + 1 } } := HM3.out.chg0 (Chg.refl [] w3).drew
      have HSd := Lib.hid (HS3.out.trans (Stp.refl (J := J) (B := B) (Chg.refl [] w3).drew))
      have hS0 : (fun W : World => W.cell? ⟨B.tb, 7, none⟩ = some (.slice (some ⟨B.lc, 0, none⟩) n n)) w3.drew := hMd.cT 7
      have HS1 : ∀ W : World, (fun W : World => W.cell? ⟨B.tb, 7, none⟩ = some (.slice (some ⟨B.lc, 0, none⟩) n n)) W → W.cell? ⟨B.tb, 7, none⟩ = some (.slice (some ⟨B.lc, 0, none⟩) n n) := fun W h => h
      have k2 := hMd.at_ hin (j := 35) rfl
      have FX := Lib.hid (next_any hst fl w3.drew)
      have hse : encE (stEn (I.ls i) fl) = (encE (I.ls i)).set 35 (.int .i64 (nextF (I.ls i).st fl)) := rfl
      obtain ⟨hM4, hS4⟩ := hMd.setL (ls' := updE I.ls i (stEn (I.ls i) fl)) (RowB.cellSet hMd.row hin (by omega) hse) ((Chg.refl _ _).setCell (p := ⟨B.lc, i * 37 + 35, none⟩) (.inl (by simp)) _)
      have HM4 := Lib.hid hM4
      have HS4 := Lib.hid (HSd.out.trans hS4)
      have hneb : B.lc ≠ B.tb := fun e => by
        have t1 := hMd.tags.1; have t5 := hMd.tags.2.2.2.2.1
        rw [e] at t5; rw [t1] at t5; exact absurd t5 (by decide)
      clear c7 c0 f0 k1 HM3 HS3 hM4 hS4 hse hMd
      generalize hns : nextF (I.ls i).st fl = ns at *
      refine wp_region_noPanic ?_
      refine wp_region_held_drew (S := fun W : World => W.cell? ⟨B.tb, 7, none⟩ = some (.slice (some ⟨B.lc, 0, none⟩) n n)) (by kernel_rfl) hS0 (fun _ => ?_)
      generalize w3.drew = w4 at *
      refine wpAnyH_take (i := 0) (v := ?_) rfl (by kernel_rfl) (by kernel_rfl) (by kernel_rfl) (fun _ _ _ h => h) (yields_pure (by rfl) (fun w => ?_)) (by with_reducible assumption) ?_
      rotate_left
      · (go_simp <;> with_reducible rfl)
      try simp only [List.getElem_toArray, List.getElem_cons_succ, List.getElem_cons_zero, Act.put, List.setIfInBounds_toArray, List.set_cons_zero, List.set_cons_succ]
      refine wpAnyH_take (i := 1) (v := ?_) rfl (by kernel_rfl) (by kernel_rfl) (by kernel_rfl) (fun _ _ _ h => h) (yields_pure (by rfl) (fun w => ?_)) (by with_reducible assumption) ?_
      rotate_left
      · (go_simp <;> with_reducible rfl)
      try simp only [List.getElem_toArray, List.getElem_cons_succ, List.getElem_cons_zero, Act.put, List.setIfInBounds_toArray, List.set_cons_zero, List.set_cons_succ]
      refine wpAnyH_take (i := 2) (v := ?_) rfl (by kernel_rfl) (by kernel_rfl) (by kernel_rfl) (fun _ _ _ h => h) (yields_pure (by rfl) (fun w => ?_)) (by with_reducible assumption) ?_
      rotate_left
      · (go_simp <;> with_reducible rfl)
      try simp only [List.getElem_toArray, List.getElem_cons_succ, List.getElem_cons_zero, Act.put, List.setIfInBounds_toArray, List.set_cons_zero, List.set_cons_succ]
      refine wpAnyH_take (i := 3) rfl (by kernel_rfl) (by kernel_rfl) (by kernel_rfl) (fun _ _ _ h => h) (yields_cell (by rfl) 41 (.tmp 56) rfl B.tb 7 rfl (.slice (some ⟨B.lc, 0, none⟩) n n) _ HS1 Tryz.underlying41 rfl) (by with_reducible assumption) ?_
      try simp only [List.getElem_toArray, List.getElem_cons_succ, List.getElem_cons_zero, Act.put, List.setIfInBounds_toArray, List.set_cons_zero, List.set_cons_succ]
      refine wpAnyH_take (i := 4) (v := ?_) rfl (by kernel_rfl) (by kernel_rfl) (by kernel_rfl) (fun _ _ _ h => h) (yields_pure (by rfl) (fun w => ?_)) (by with_reducible assumption) ?_
      rotate_left
      · (go_simp <;> with_reducible rfl)
      try simp only [List.getElem_toArray, List.getElem_cons_succ, List.getElem_cons_zero, Act.put, List.setIfInBounds_toArray, List.set_cons_zero, List.set_cons_succ]
      refine wpAnyH_take (i := 5) (v := ?_) rfl (by kernel_rfl) (by kernel_rfl) (by kernel_rfl) (fun _ _ _ h => h) (yields_pure (by rfl) (fun w => ?_)) (by with_reducible assumption) ?_
      rotate_left
      · (go_simp <;> with_reducible rfl)
      try simp only [List.getElem_toArray, List.getElem_cons_succ, List.getElem_cons_zero, Act.put, List.setIfInBounds_toArray, List.set_cons_zero, List.set_cons_succ]
      refine wpAnyH_take (i := 6) (v := ?_) rfl (by kernel_rfl) (by kernel_rfl) (by kernel_rfl) (fun _ _ _ h => h) (yields_pure (by rfl) (fun w => ?_)) (by with_reducible assumption) ?_
      rotate_left
      · (go_simp <;> with_reducible rfl)
      try simp only [List.getElem_toArray, List.getElem_cons_succ, List.getElem_cons_zero, Act.put, List.setIfInBounds_toArray, List.set_cons_zero, List.set_cons_succ]
      refine wpAnyH_take (i := 7) (v := ?_) rfl (by kernel_rfl) (by kernel_rfl) (by kernel_rfl) (fun _ _ _ h => h) (yields_pure (by rfl) (fun w => ?_)) (by with_reducible assumption) ?_
      rotate_left
      · (go_simp <;> with_reducible rfl)
      try simp only [List.getElem_toArray, List.getElem_cons_succ, List.getElem_cons_zero, Act.put, List.setIfInBounds_toArray, List.set_cons_zero, List.set_cons_succ]
      refine wpAnyH_take (i := 8) rfl (by kernel_rfl) (by kernel_rfl) (by kernel_rfl) (fun _ _ _ h => h) (yields_cell (by rfl) 41 (.tmp 61) rfl B.tb 7 rfl (.slice (some ⟨B.lc, 0, none⟩) n n) _ HS1 Tryz.underlying41 rfl) (by with_reducible assumption) ?_
      try simp only [List.getElem_toArray, List.getElem_cons_succ, List.getElem_cons_zero, Act.put, List.setIfInBounds_toArray, List.set_cons_zero, List.set_cons_succ]
      refine wpAnyH_take (i := 9) (v := ?_) rfl (by kernel_rfl) (by kernel_rfl) (by kernel_rfl) (fun _ _ _ h => h) (yields_pure (by rfl) (fun w => ?_)) (by with_reducible assumption) ?_
      rotate_left
      · (go_simp <;> with_reducible rfl)
      try simp only [List.getElem_toArray, List.getElem_cons_succ, List.getElem_cons_zero, Act.put, List.setIfInBounds_toArray, List.set_cons_zero, List.set_cons_succ]
      refine wpAnyH_take (i := 10) (v := ?_) rfl (by kernel_rfl) (by kernel_rfl) (by kernel_rfl) (fun _ _ _ h => h) (yields_pure (by rfl) (fun w => ?_)) (by with_reducible assumption) ?_
      rotate_left
      · (go_simp <;> with_reducible rfl)
      try simp only [List.getElem_toArray, List.getElem_cons_succ, List.getElem_cons_zero, Act.put, List.setIfInBounds_toArray, List.set_cons_zero, List.set_cons_succ]
      refine wpAnyH_take (i := 11) (v := ?_) rfl (by kernel_rfl) (by kernel_rfl) (by kernel_rfl) (fun _ _ _ h => h) (yields_pure (by rfl) (fun w => ?_)) (by with_reducible assumption) ?_
      rotate_left
      · (go_simp <;> with_reducible rfl)
      try simp only [List.getElem_toArray, List.getElem_cons_succ, List.getElem_cons_zero, Act.put, List.setIfInBounds_toArray, List.set_cons_zero, List.set_cons_succ]
      refine wpAnyH_take (i := 13) (v := ?_) rfl (by kernel_rfl) (by kernel_rfl) (by kernel_rfl) (fun _ _ _ h => h) (yields_pure (by rfl) (fun w => ?_)) (by with_reducible assumption) ?_
      rotate_left
      · (go_simp <;> with_reducible rfl)
      try simp only [List.getElem_toArray, List.getElem_cons_succ, List.getElem_cons_zero, Act.put, List.setIfInBounds_toArray, List.set_cons_zero, List.set_cons_succ]
      refine wpAnyH_ready (rs := [12]) (by kernel_rfl) (by simp) (AllReadyH.cons rfl (fun K hK => ?_) AllReadyH.nil)
      refine step_cell rfl 3 (.tmp 65) rfl B.lc (i * 37 + 35) rfl _ _ k2.1 Tryz.underlying3 rfl ?_
      refine hK.out _ _ (by with_reducible assumption) (fun _ => ?_)
      clear hK K
      try simp only [List.getElem_toArray, List.getElem_cons_succ, List.getElem_cons_zero, Act.put, List.setIfInBounds_toArray, List.set_cons_zero, List.set_cons_succ]
      refine wpAnyH_ready (rs := [14]) (by kernel_rfl) (by simp) (AllReadyH.cons rfl (fun K hK => ?_) AllReadyH.nil)
      go_simp
      refine FX.out.mono ?_
      rintro e w' ⟨rfl, rfl⟩
      refine hK.out _ _ (by with_reducible assumption) (fun _ => ?_)
      clear hK K
      try simp only [List.getElem_toArray, List.getElem_cons_succ, List.getElem_cons_zero, Act.put, List.setIfInBounds_toArray, List.set_cons_zero, List.set_cons_succ]
      refine wpAnyH_take (i := 15) (v := ?_) rfl (by kernel_rfl) (by kernel_rfl) (by kernel_rfl) (fun _ _ _ h => h) (yields_pure (by rfl) (fun w => ?_)) (by with_reducible assumption) ?_
      rotate_left
      · (go_simp <;> with_reducible rfl)
      try simp only [List.getElem_toArray, List.getElem_cons_succ, List.getElem_cons_zero, Act.put, List.setIfInBounds_toArray, List.set_cons_zero, List.set_cons_succ]
      refine wpAnyH_take (i := 16) (v := ?_) rfl (by kernel_rfl) (by kernel_rfl) (by kernel_rfl) (fun _ _ _ h => h) (yields_pure (by rfl) (fun w => ?_)) (by with_reducible assumption) ?_
      rotate_left
      · (go_simp <;> with_reducible rfl)
      try simp only [List.getElem_toArray, List.getElem_cons_succ, List.getElem_cons_zero, Act.put, List.setIfInBounds_toArray, List.set_cons_zero, List.set_cons_succ]
      have k20 := k2.1
      have k21 := k2.2
      refine wpAnyH_ready (rs := [17]) (by kernel_rfl) (by simp) (AllReadyH.cons rfl (fun K hK => ?_) AllReadyH.nil)
      go_simp
      have hS5 : (fun W : World => W.cell? ⟨B.tb, 7, none⟩ = some (.slice (some ⟨B.lc, 0, none⟩) n n)) (w4.setCell ⟨B.lc, i * 37 + 35, none⟩ (.int .i64 ns)) := (World.cell?_setCell_other _ _ _ _ (by simp [hneb])).trans hS0
      refine hK.out _ _ (by with_reducible assumption) (fun _ => ?_)
      clear hK K
      try simp only [List.getElem_toArray, List.getElem_cons_succ, List.getElem_cons_zero, Act.put, List.setIfInBounds_toArray, List.set_cons_zero, List.set_cons_succ]
      refine wpAnyH_done (by kernel_rfl) ?_ _
      refine NoPanic.normal ?_
      generalize (w4.setCell ⟨B.lc, i * 37 + 35, none⟩ (.int .i64 ns)) = w5 at *
      obtain ⟨I5, hI5⟩ : ∃ I5 : In, I5 = { I with ls := updE I.ls i (stEn (I.ls i) fl), c := { s.c with hits := s.c.hits + 1 } } := ⟨_, rfl⟩
      have HM5 : Hid (MemJ w5 B n ka kb J I5) := Lib.hid (by rw [hI5]; exact HM4.out)
      have e5 : I5.ls i = stEn (I.ls i) fl := by rw [hI5]; exact updE_same _ _ _
      have FR := Lib.hid (renew_any HM5.out hin (by rw [e5]; exact nextF_ok hst fl) (by rw [hI5]; show 0 ≤ I.now; omega) (by rw [hI5]; show I.now ≤ 100000; omega) (by omega))
      have HEND : Hid (Inv n (I5.renew i (tilOf I5 i)) (nowE s.now (stEn (I.ls i) fl) :: outE s.L f) [] ∧ (I5.renew i (tilOf I5 i)).now = s.now ∧ (I5.renew i (tilOf I5 i)).c = { s.c with hits := s.c.hits + 1 } ∧ ((I5.renew i (tilOf I5 i)).ls i).node = (I.ls i).node) := Lib.hid (by
        have ht := (H3.out.touch hi (e := stEn (I.ls i) fl) rfl ⟨(H3.out.ok i hi).fl, (H3.out.ok i hi).node, nextF_ok hst fl⟩).c' { s.c with hits := s.c.hits + 1 }
        rw [hfl] at ht
        have en : nowE s.now (stEn (I.ls i) fl) = nowE I.now (stEn (I.ls i) fl) := by rw [h4]
        refine ⟨?_, by rw [hI5]; exact h4, by rw [hI5]; rfl, ?_⟩
        · rw [hI5, en]; exact ht
        · show (updE I5.ls i (tilOf I5 i) i).node = _
          rw [updE_same]
          show (I5.ls i).node = _
          rw [e5]; rfl)
      clear hS0 hS5 HS1 k2 k20 k21 FX HM4 HSd e5 hI5
      go_wp2_with fail
      refine FR.out.mono ?_
      rintro e w6 ⟨rfl, J6, hM6, hS6, hn6⟩
      have c7 : w6.cell? ⟨B.tb, 7, none⟩ = some (.slice (some ⟨B.lc, 0, none⟩) n n) := hM6.cT 7
      have k1 : w6.cell? ⟨B.lc, i * 37 + 34, none⟩ = some (.int .i64 (I.ls i).node) := by rw [← HEND.out.2.2.2]; exact (hM6.at_ hin (j := 34) rfl).1
      have HFIN := Lib.hid (FTs.mk (s := { s with L := nowE s.now (stEn (I.ls i) fl) :: outE s.L f, c := { s.c with hits := s.c.hits + 1 } }) (k := k + 1) hM6 HEND.out.1 HEND.out.2.1 HEND.out.2.2.1 (HS4.out.trans hS6) (by omega))
      clear hM6 hS6 hn6 FR HM5 HS4 HEND
      go_wp2_with fail
      go_ret2
      rw [HG.out]
      exact ⟨rfl, HFIN.out⟩
end
end Go.Proofs.YtldgdpekhjignaaGreat.Ft
namespace Go.Proofs.YtldgdpekhjignaaGreat.Ft
open Go.RowKit Go.Maps

/-- With a new entry. -/
def addS (n : Nat) (s : Sx) (f : Fl) (node st : Int) : Sx := { s with L := ⟨f, node, st, s.now + timeout st⟩ :: addL n s.L, c := addC n s.L s.c }
def pendS (n : Nat) (s : Sx) (f : Fl) : Sx × Bool :=
  match getE s.L f with
  | none => (addS n s f 0 0, true)
  | some e => if e.node = 0 then ({ s with L := nowE s.now e :: outE s.L f }, true) else (s, false)
def forgetS (s : Sx) (f : Fl) : Sx × Bool :=
  match getE s.L f with
  | none => (s, false)
  | some e => ({ s with L := outE s.L f }, true)
theorem pend_none {n : Nat} {s : Sx} {f : Fl} (h : getE s.L f = none) : pendS n s f = (addS n s f 0 0, true) := by unfold pendS; rw [h]
theorem pend_zero {n : Nat} {s : Sx} {f : Fl} {e : En} (h : getE s.L f = some e) (hn : e.node = 0) : pendS n s f = ({ s with L := nowE s.now e :: outE s.L f }, true) := by
  unfold pendS; rw [h]; exact if_pos hn
theorem pend_some {n : Nat} {s : Sx} {f : Fl} {e : En} (h : getE s.L f = some e) (hn : ¬ e.node = 0) : pendS n s f = (s, false) := by
  unfold pendS; rw [h]; exact if_neg hn
theorem forget_none {s : Sx} {f : Fl} (h : getE s.L f = none) : forgetS s f = (s, false) := by unfold forgetS; rw [h]
theorem forget_some {s : Sx} {f : Fl} {e : En} (h : getE s.L f = some e) : forgetS s f = ({ s with L := outE s.L f }, true) := by unfold forgetS; rw [h]
section
variable {w : World} {B : Bx} {n : Nat} {ka kb : Int} {J : Jx} {I : In} {L : List En} {s : Sx}
set_option maxRecDepth 100000 in
set_option maxHeartbeats 2000000 in
theorem pend_any {tb : Nat} {F : List Nat} {k : Nat} (h : FT w tb n F k s) {f : Fl} (hf : okF f) (hn0 : 0 ≤ s.now) (hn1 : s.now ≤ 100000) (hk : k < 10000) (hC : bC s.c) :
    Calls Tryz.prog 18 #[.pointer (some ⟨tb, 0, none⟩), f.v] w fun e w' =>
      e = .returned (.bool (pendS n s f).2) ∧ FTs w w' tb n F (k + 1) (pendS n s f).1 := by
  obtain ⟨B, ka, kb, J, I, rfl, h2, h3, h4, h5, rfl, h7⟩ := h
  have hA := (Chg.refl [] w).alloc (.cells (arrF f) 38)
  have hB : Blk (w.alloc (.cells (arrF f) 38)) w.heap.size 38 (arrF f) := Blk.new _ _ _
  have hM := h2.chg0 hA
  have FI := Lib.hid hM.is_
  have FP := Lib.hid (place_any hM hf)
  have HI := Lib.hid (And.intro hA (And.intro hM hB))
  have HN := Lib.hid (fun (hk : I.kM f = none) => (And.intro hk (h3.none_ hk).1))
  have HS := Lib.hid (fun v (hk : I.kM f = some v) => h3.some_ hk)
  have H3 := Lib.hid h3
  have hn64 := h2.hi
  have hR := hB.rangeQ
  have hCC := Lib.hid hC
  have HF := Lib.hid hf
  clear h2 h3 hA hM hB hC hf
  generalize ho : I.kM f = o at *
  have HO := Lib.hid ho
  clear ho
  go_enter Tryz.func18, Tryz.ntmps18
  go_upto_region 1 with fail
  generalize hw1 : (w.alloc (.cells (arrF f) 38)) = w1 at *
  generalize hgg : w.heap.size = g at *
  go_wp2_with fail
  refine FI.out.mono ?_
  rintro e w' ⟨rfl, rfl⟩
  clear FI
  go_wp2_with (first
    | (refine wpList_row 38 (.tmp 3) rfl rfl g 0 rfl (arrF f) _ hR Tryz.underlying38 rfl infF ?_)
    | fail)
  refine FP.out.mono ?_
  rintro e w2 ⟨rfl, hc2⟩
  have HC2 := Lib.hid (HI.out.1.trans hc2)
  have hM2 := HI.out.2.1.chg0 hc2
  have hR2 := (HI.out.2.2.chg hc2 (by simp)).rangeQ
  clear FP HI hR hc2 hw1
  cases o with
  | none =>
    have HG := Lib.hid (pend_none (n := n) (s := s) (HN.out rfl).2)
    have FA := Lib.hid (add_any hM2 H3.out HF.out HO.out (node := 0) (st := 0) (by omega) (by omega) (by omega) (by omega) (by omega) (by rw [h5]; exact hCC.out.evicted.1) (by rw [h5]; exact hCC.out.evicted.2))
    clear HN HS hM2
    go_wp2_with (first
      | (refine wpList_row 38 (.tmp 3) rfl rfl g 0 rfl (arrF f) _ hR2 Tryz.underlying38 rfl infF ?_)
      | fail)
    refine FA.out.mono ?_
    rintro e w3 ⟨rfl, J3, I3, hM3, hI3, hc3, hn3, hS3, hk3⟩
    have HFIN : Hid (FTs w w3 B.tb n (footT B J) (k + 1) (addS n s f 0 0)) := Lib.hid (by
      refine FTs.mk hM3 ?_ (by rw [hn3]; exact h4) (by rw [hc3, h5]; rfl) ((Stp.refl HC2.out).trans hS3) (by omega)
      rw [h4] at hI3
      exact hI3)
    clear hM3 hI3 hc3 hn3 hS3 hk3 FA
    go_wp2_with fail
    go_ret
    rw [HG.out]
    exact ⟨rfl, HFIN.out⟩
  | some v =>
    obtain ⟨i, hi, rfl, hfl, hin, hg⟩ := HS.out v rfl
    have c7 : w2.cell? ⟨B.tb, 7, none⟩ = some (.slice (some ⟨B.lc, 0, none⟩) n n) := hM2.cT 7
    have k1 : w2.cell? ⟨B.lc, i * 37 + 34, none⟩ = some (.int .i64 (I.ls i).node) := (hM2.at_ hin (j := 34) rfl).1
    have hiI : (i : Int) < (n : Int) := by omega
    clear HN HS hR2
    by_cases hz : (I.ls i).node = 0
    · have HG := Lib.hid (pend_zero (n := n) hg hz)
      rw [hz] at k1
      have FR := Lib.hid (renew_any hM2 hin (H3.out.ok i hi).st (by omega) (by omega) (by omega))
      have HT := Lib.hid (H3.out.touch0 hi)
      have HFL := Lib.hid hfl
      clear hM2 hg hfl
      go_wp2_with fail
      refine FR.out.mono ?_
      rintro e w3 ⟨rfl, J3, hM3, hS3, hk3⟩
      have HFIN : Hid (FTs w w3 B.tb n (footT B J) (k + 1) { s with L := nowE s.now (I.ls i) :: outE s.L f }) := Lib.hid (by
        refine FTs.mk hM3 ?_ h4 h5 ((Stp.refl HC2.out).trans hS3) (by omega)
        have := HT.out
        rw [HFL.out] at this
        have en : nowE s.now (I.ls i) = nowE I.now (I.ls i) := by rw [h4]
        rw [en]
        exact this)
      clear hM3 hS3 hk3 FR
      go_wp2_with fail
      go_ret
      rw [HG.out]
      exact ⟨rfl, HFIN.out⟩
    · have HG := Lib.hid (pend_some (n := n) hg hz)
      have hzb : ((I.ls i).node == 0) = false := by simp [hz]
      have HFIN : Hid (FTs w w2 B.tb n (footT B J) (k + 1) s) := Lib.hid (FTs.mk hM2 H3.out h4 h5 (Stp.refl HC2.out) (by omega))
      clear hM2 hg hfl
      go_wp2_with fail
      go_ret
      rw [HG.out]
      exact ⟨rfl, HFIN.out⟩
set_option maxRecDepth 100000 in
set_option maxHeartbeats 2000000 in
theorem forget_any {tb : Nat} {F : List Nat} {k : Nat} (h : FT w tb n F k s) {f : Fl} (hf : okF f) :
    Calls Tryz.prog 19 #[.pointer (some ⟨tb, 0, none⟩), f.v] w fun e w' =>
      e = .returned (.bool (forgetS s f).2) ∧ FTs w w' tb n F (k + 1) (forgetS s f).1 := by
  obtain ⟨B, ka, kb, J, I, rfl, h2, h3, h4, h5, rfl, h7⟩ := h
  have hA := (Chg.refl [] w).alloc (.cells (arrF f) 38)
  have hB : Blk (w.alloc (.cells (arrF f) 38)) w.heap.size 38 (arrF f) := Blk.new _ _ _
  have hM := h2.chg0 hA
  have FP := Lib.hid (place_any hM hf)
  have HI := Lib.hid (And.intro hA (And.intro hM hB))
  have HN := Lib.hid (fun (hk : I.kM f = none) => (And.intro hk (h3.none_ hk).1))
  have HS := Lib.hid (fun v (hk : I.kM f = some v) => And.intro hk (h3.some_ hk))
  have H3 := Lib.hid h3
  have hn64 := h2.hi
  have hR := hB.rangeQ
  have hle := h3.le
  clear h2 h3 hA hM hB hf
  generalize ho : I.kM f = o at *
  have HO := Lib.hid ho
  clear ho
  go_enter Tryz.func19, Tryz.ntmps19
  go_upto_region 1 with fail
  generalize hw1 : (w.alloc (.cells (arrF f) 38)) = w1 at *
  generalize hgg : w.heap.size = g at *
  go_wp2_with (first
    | (refine wpList_row 38 (.tmp 3) rfl rfl g 0 rfl (arrF f) _ hR Tryz.underlying38 rfl infF ?_)
    | fail)
  refine FP.out.mono ?_
  rintro e w2 ⟨rfl, hc2⟩
  have HC2 := Lib.hid (HI.out.1.trans hc2)
  have hM2 := HI.out.2.1.chg0 hc2
  clear FP HI hR hc2 hw1
  cases o with
  | none =>
    have HG := Lib.hid (forget_none (s := s) (HN.out rfl).2)
    have HFIN : Hid (FTs w w2 B.tb n (footT B J) (k + 1) s) := Lib.hid (FTs.mk hM2 H3.out h4 h5 (Stp.refl HC2.out) (by omega))
    clear HN HS hM2
    go_wp2_with fail
    go_ret
    rw [HG.out]
    exact ⟨rfl, HFIN.out⟩
  | some v =>
    obtain ⟨hkv, i, hi, rfl, hfl, hin, hg⟩ := HS.out v rfl
    have HG := Lib.hid (forget_some hg)
    have FD := Lib.hid (drop_any hM2 hin (H3.out.ok i hi).fl (v := (i : Nat)) (by rw [hfl]; exact HO.out) (by omega))
    have HT := Lib.hid (H3.out.drop hi)
    have HFL := Lib.hid hfl
    clear hM2 hg hfl HN HS hkv
    go_wp2_with fail
    refine FD.out.mono ?_
    rintro e w3 ⟨rfl, J3, hM3, hS3, hk3⟩
    have HFIN : Hid (FTs w w3 B.tb n (footT B J) (k + 1) { s with L := outE s.L f }) := Lib.hid (by
      refine FTs.mk hM3 ?_ h4 h5 ((Stp.refl HC2.out).trans hS3) (by omega)
      have := HT.out
      rw [HFL.out] at this
      exact this)
    clear hM3 hS3 hk3 FD
    go_wp2_with fail
    go_ret
    rw [HG.out]
    exact ⟨rfl, HFIN.out⟩
end
end Go.Proofs.YtldgdpekhjignaaGreat.Ft
namespace Go.Proofs.YtldgdpekhjignaaGreat.Ft
open Go.RowKit Go.Maps

def learnC (c : Cn) : Cn := { c with learnt := c.learnt + 1 }
def ndE (e : En) (node : Int) : En := { e with node := node, st := 1 }
def learnS (n : Nat) (s : Sx) (f : Fl) (node : Int) : Sx × Int :=
  if node < 1 ∨ 65535 < node then (s, 2) else
  match getE s.L f with
  | none => ({ addS n s f node 1 with c := learnC (addS n s f node 1).c }, 0)
  | some e => if e.node = node then ({ s with L := nowE s.now e :: outE s.L f }, 0)
    else if e.node = 0 then ({ s with L := nowE s.now (ndE e node) :: outE s.L f, c := learnC s.c }, 0)
    else ({ s with c := { s.c with clashes := s.c.clashes + 1 } }, 9)
section
variable {n : Nat} {s : Sx} {f : Fl} {node : Int} {e : En}
theorem learn_bad (h : node < 1 ∨ 65535 < node) : learnS n s f node = (s, 2) := if_pos h
theorem learn_none (hn : ¬ (node < 1 ∨ 65535 < node)) (h : getE s.L f = none) : learnS n s f node = ({ addS n s f node 1 with c := learnC (addS n s f node 1).c }, 0) := by
  unfold learnS; rw [if_neg hn, h]
theorem learn_same (hn : ¬ (node < 1 ∨ 65535 < node)) (h : getE s.L f = some e) (he : e.node = node) : learnS n s f node = ({ s with L := nowE s.now e :: outE s.L f }, 0) := by
  unfold learnS; rw [if_neg hn, h]; exact if_pos he
theorem learn_zero (hn : ¬ (node < 1 ∨ 65535 < node)) (h : getE s.L f = some e) (he : ¬ e.node = node) (h0 : e.node = 0) : learnS n s f node = ({ s with L := nowE s.now (ndE e node) :: outE s.L f, c := learnC s.c }, 0) := by
  unfold learnS; rw [if_neg hn, h]; exact (if_neg he).trans (if_pos h0)
theorem learn_clash (hn : ¬ (node < 1 ∨ 65535 < node)) (h : getE s.L f = some e) (he : ¬ e.node = node) (h0 : ¬ e.node = 0) : learnS n s f node = ({ s with c := { s.c with clashes := s.c.clashes + 1 } }, 9) := by
  unfold learnS; rw [if_neg hn, h]; exact (if_neg he).trans (if_neg h0)
end
theorem addC_learnt (n : Nat) (L : List En) (c : Cn) : (addC n L c).learnt = c.learnt := by unfold addC; split <;> rfl
section
variable {w : World} {B : Bx} {n : Nat} {ka kb : Int} {J : Jx} {I : In} {L : List En} {s : Sx}
set_option maxRecDepth 100000 in
set_option maxHeartbeats 2000000 in
theorem learn_any {tb : Nat} {F : List Nat} {k : Nat} (h : FT w tb n F k s) {f : Fl} (hf : okF f) (node : Int) (hn0 : 0 ≤ s.now) (hn1 : s.now ≤ 100000) (hk : k < 10000) (hC : bC s.c) :
    Calls Tryz.prog 20 #[.pointer (some ⟨tb, 0, none⟩), f.v, .int .i64 node] w fun e w' =>
      e = .returned (.int .i64 (learnS n s f node).2) ∧ FTs w w' tb n F (k + 1) (learnS n s f node).1 := by
  obtain ⟨B, ka, kb, J, I, rfl, h2, h3, h4, h5, rfl, h7⟩ := h
  have hA := (Chg.refl [] w).alloc (.cells (arrF f) 38)
  have hB : Blk (w.alloc (.cells (arrF f) 38)) w.heap.size 38 (arrF f) := Blk.new _ _ _
  have hM := h2.chg0 hA
  have FI := Lib.hid hM.is_
  have FP := Lib.hid (place_any hM hf)
  have HI := Lib.hid (And.intro hA (And.intro hM hB))
  have HN := Lib.hid (fun (hk : I.kM f = none) => (h3.none_ hk).1)
  have HS := Lib.hid (fun v (hk : I.kM f = some v) => h3.some_ hk)
  have H3 := Lib.hid h3
  have hn64 := h2.hi
  have hR := hB.rangeQ
  have hCC := Lib.hid hC
  have HF := Lib.hid hf
  by_cases hbad : node < 1 ∨ 65535 < node
  · have HG := Lib.hid (learn_bad (n := n) (s := s) (f := f) hbad)
    have HFIN : Hid (FTs w (w.alloc (.cells (arrF f) 38)) B.tb n (footT B J) (k + 1) s) := Lib.hid (FTs.mk hM h3 h4 h5 (Stp.refl hA) (by omega))
    clear h2 h3 hA hM hB hC hf FP HN HS hR
    rcases (show node < 1 ∨ (¬ node < 1 ∧ 65535 < node) by omega) with h1 | ⟨h1, h2⟩
    all_goals
      clear hbad
      go_enter Tryz.func20, Tryz.ntmps20
      go_wp2_with fail
      refine FI.out.mono ?_
      rintro e w' ⟨rfl, rfl⟩
      go_wp2_with fail
      go_ret
      rw [HG.out]
      exact ⟨rfl, HFIN.out⟩
  have hb1 : ¬ node < 1 := by omega
  have hb2 : ¬ 65535 < node := by omega
  have HBAD := Lib.hid hbad
  clear h2 h3 hA hM hB hC hf hbad
  generalize ho : I.kM f = o at *
  have HO := Lib.hid ho
  clear ho
  go_enter Tryz.func20, Tryz.ntmps20
  go_upto_region 1 with fail
  generalize hw1 : (w.alloc (.cells (arrF f) 38)) = w1 at *
  generalize hgg : w.heap.size = g at *
  go_wp2_with fail
  refine FI.out.mono ?_
  rintro e w' ⟨rfl, rfl⟩
  clear FI
  go_wp2_with (first
    | (refine wpList_row 38 (.tmp 4) rfl rfl g 0 rfl (arrF f) _ hR Tryz.underlying38 rfl infF ?_)
    | fail)
  refine FP.out.mono ?_
  rintro e w2 ⟨rfl, hc2⟩
  have HC2 := Lib.hid (HI.out.1.trans hc2)
  have hM2 := HI.out.2.1.chg0 hc2
  have hR2 := (HI.out.2.2.chg hc2 (by simp)).rangeQ
  clear FP HI hR hc2 hw1
  cases o with
  | none =>
    have HG := Lib.hid (learn_none (n := n) HBAD.out (HN.out rfl))
    have FA := Lib.hid (add_any hM2 H3.out HF.out HO.out (node := node) (st := 1) (by omega) (by omega) (by omega) (by omega) (by omega) (by rw [h5]; exact hCC.out.evicted.1) (by rw [h5]; exact hCC.out.evicted.2))
    clear HN HS hM2
    go_wp2_with (first
      | (refine wpList_row 38 (.tmp 4) rfl rfl g 0 rfl (arrF f) _ hR2 Tryz.underlying38 rfl infF ?_)
      | fail)
    refine FA.out.mono ?_
    rintro e w3 ⟨rfl, J3, I3, hM3, hI3, hc3, hn3, hS3, hk3⟩
    have hcl : I3.c.learnt = s.c.learnt := by rw [hc3, h5]; exact addC_learnt _ _ _
    have c2 : w3.cell? ⟨B.tb, 2, none⟩ = some (.int .i64 s.c.learnt) := by rw [← hcl]; exact hM3.cT 2
    have f2 := hM3.fT 2
    have hwm : IntKind.i64.wrap (s.c.learnt + 1) = s.c.learnt + 1 := by have := hCC.out.learnt; unfold bN at this; rw [IntKind.wrap_i64]; omega
    have HFIN : Hid (FTs w (w3.setCell ⟨B.tb, 2, none⟩ (.int .i64 (s.c.learnt + 1))) B.tb n (footT B J) (k + 1) { addS n s f node 1 with c := learnC (addS n s f node 1).c }) := Lib.hid (by
      obtain ⟨hM4, hS4⟩ := hM3.setC (c' := learnC I3.c) (i := 2) (u := .int .i64 (s.c.learnt + 1)) (by rw [← hcl]; rfl)
      refine FTs.mk hM4 (Inv.c' ?_ _) (by show I3.now = s.now; rw [hn3]; exact h4) (by show learnC I3.c = _; rw [hc3, h5]; rfl) (((Stp.refl HC2.out).trans hS3).trans hS4) (by omega)
      rw [h4] at hI3
      exact hI3)
    clear hM3 hI3 hc3 hn3 hS3 hk3 FA hcl
    go_wp2_with fail
    go_ret
    rw [HG.out]
    exact ⟨rfl, HFIN.out⟩
  | some v =>
    obtain ⟨i, hi, rfl, hfl, hin, hg⟩ := HS.out v rfl
    have c7 : w2.cell? ⟨B.tb, 7, none⟩ = some (.slice (some ⟨B.lc, 0, none⟩) n n) := hM2.cT 7
    have k1 : w2.cell? ⟨B.lc, i * 37 + 34, none⟩ = some (.int .i64 (I.ls i).node) := (hM2.at_ hin (j := 34) rfl).1
    have hiI : (i : Int) < (n : Int) := by omega
    clear HN HS hR2
    by_cases hz : (I.ls i).node = node
    · have HG := Lib.hid (learn_same (n := n) HBAD.out hg hz)
      have hzb : ((I.ls i).node == node) = true := by simp [hz]
      have FR := Lib.hid (renew_any hM2 hin (H3.out.ok i hi).st (by omega) (by omega) (by omega))
      have HT := Lib.hid (H3.out.touch0 hi)
      have HFL := Lib.hid hfl
      clear hM2 hg hfl hz
      go_wp2_with fail
      refine FR.out.mono ?_
      rintro e w3 ⟨rfl, J3, hM3, hS3, hk3⟩
      have HFIN : Hid (FTs w w3 B.tb n (footT B J) (k + 1) { s with L := nowE s.now (I.ls i) :: outE s.L f }) := Lib.hid (by
        refine FTs.mk hM3 ?_ h4 h5 ((Stp.refl HC2.out).trans hS3) (by omega)
        have := HT.out
        rw [HFL.out] at this
        have en : nowE s.now (I.ls i) = nowE I.now (I.ls i) := by rw [h4]
        rw [en]
        exact this)
      clear hM3 hS3 hk3 FR
      go_wp2_with fail
      go_ret
      rw [HG.out]
      exact ⟨rfl, HFIN.out⟩
    · have hzb : ((I.ls i).node == node) = false := by simp [hz]
      by_cases h0 : (I.ls i).node = 0
      · have HG := Lib.hid (learn_zero (n := n) HBAD.out hg hz h0)
        have hmd := hM2.setL (ls' := updE I.ls i { I.ls i with node := node }) (RowB.cellSet hM2.row hin (j := 34) (u := .int .i64 node) (by omega) rfl) ((Chg.refl _ _).setCell (p := ⟨B.lc, i * 37 + 34, none⟩) (.inl (by simp)) _)
        have e1 : (updE I.ls i { I.ls i with node := node }) i = { I.ls i with node := node } := updE_same _ _ _
        have hmd2 := hmd.1.setL (ls' := updE (updE I.ls i { I.ls i with node := node }) i (ndE (I.ls i) node)) (RowB.cellSet hmd.1.row hin (j := 35) (u := .int .i64 1) (by omega) (by show _ = (encE (updE I.ls i { I.ls i with node := node } i)).set 35 _; rw [e1]; rfl)) ((Chg.refl _ _).setCell (p := ⟨B.lc, i * 37 + 35, none⟩) (.inl (by simp)) _)
        obtain ⟨I5, hI5⟩ : ∃ I5 : In, I5 = { I with ls := updE I.ls i (ndE (I.ls i) node) } := ⟨_, rfl⟩
        have HM5 : Hid (MemJ (((w2.setCell ⟨B.lc, i * 37 + 34, none⟩ (.int .i64 node)).setCell ⟨B.lc, i * 37 + 35, none⟩ (.int .i64 1)).drew) B n ka kb J I5) := Lib.hid (by
          rw [hI5]
          have := hmd2.1.chg0 (Chg.refl [] _).drew
          rw [updE_twice] at this
          exact this)
        have HS5 : Hid (Stp w (((w2.setCell ⟨B.lc, i * 37 + 34, none⟩ (.int .i64 node)).setCell ⟨B.lc, i * 37 + 35, none⟩ (.int .i64 1)).drew) B J J) := Lib.hid ((((Stp.refl HC2.out).trans hmd.2).trans hmd2.2).trans (Stp.refl (Chg.refl [] _).drew))
        have k2 := (hM2.at_ hin (j := 35) rfl).1
        have q1 := (hM2.at_ hin (j := 34) rfl).2
        have q2 := (hM2.at_ hin (j := 35) rfl).2
        have hneb : B.lc ≠ B.tb := fun e => by
          have t1 := hM2.tags.1; have t5 := hM2.tags.2.2.2.2.1
          rw [e] at t5; rw [t1] at t5; exact absurd t5 (by decide)
        have hneb2 := hneb.symm
        rw [h0] at k1 hzb
        have HZ0 := Lib.hid h0
        have HFL := Lib.hid hfl
        clear hM2 hg hfl hz hmd hmd2 e1 h0
        go_upto_region 7 with fail
        go_region
        generalize (((w2.setCell ⟨B.lc, i * 37 + 34, none⟩ (.int .i64 node)).setCell ⟨B.lc, i * 37 + 35, none⟩ (.int .i64 1)).drew) = w5 at *
        clear c7 k1 k2 q1 q2
        have e5 : I5.ls i = ndE (I.ls i) node := by rw [hI5]; exact updE_same _ _ _
        have FR := Lib.hid (renew_any HM5.out hin (by rw [e5]; show 0 ≤ (1 : Int) ∧ (1 : Int) ≤ 4; omega) (by rw [hI5]; show 0 ≤ I.now; omega) (by rw [hI5]; show I.now ≤ 100000; omega) (by omega))
        have HEND : Hid (Inv n (I5.renew i (tilOf I5 i)) (nowE s.now (ndE (I.ls i) node) :: outE s.L f) [] ∧ (I5.renew i (tilOf I5 i)).now = s.now ∧ (I5.renew i (tilOf I5 i)).c = s.c) := Lib.hid (by
          have ht := H3.out.touch hi (e := ndE (I.ls i) node) rfl ⟨(H3.out.ok i hi).fl, by show 0 ≤ node ∧ node ≤ 65535; omega, by show 0 ≤ (1 : Int) ∧ (1 : Int) ≤ 4; omega⟩
          rw [HFL.out] at ht
          have en : nowE s.now (ndE (I.ls i) node) = nowE I.now (ndE (I.ls i) node) := by rw [h4]
          exact ⟨by rw [hI5, en]; exact ht, by rw [hI5]; exact h4, by rw [hI5]; exact h5⟩)
        clear e5 hI5
        go_wp2_with fail
        refine FR.out.mono ?_
        rintro e w6 ⟨rfl, J6, hM6, hS6, hk6⟩
        have hcl : (I5.renew i (tilOf I5 i)).c.learnt = s.c.learnt := by rw [HEND.out.2.2]
        have c2 : w6.cell? ⟨B.tb, 2, none⟩ = some (.int .i64 s.c.learnt) := by rw [← hcl]; exact hM6.cT 2
        have f2 := hM6.fT 2
        have hwm : IntKind.i64.wrap (s.c.learnt + 1) = s.c.learnt + 1 := by have := hCC.out.learnt; unfold bN at this; rw [IntKind.wrap_i64]; omega
        have HFIN : Hid (FTs w (w6.setCell ⟨B.tb, 2, none⟩ (.int .i64 (s.c.learnt + 1))) B.tb n (footT B J) (k + 1) { s with L := nowE s.now (ndE (I.ls i) node) :: outE s.L f, c := learnC s.c }) := Lib.hid (by
          obtain ⟨hM7, hS7⟩ := hM6.setC (c' := learnC s.c) (i := 2) (u := .int .i64 (s.c.learnt + 1)) (by rw [HEND.out.2.2]; rfl)
          exact FTs.mk hM7 (HEND.out.1.c' _) HEND.out.2.1 rfl ((HS5.out.trans hS6).trans hS7) (by omega))
        clear hM6 hS6 hk6 FR HM5 HS5 HEND hcl
        go_wp2_with fail
        go_ret
        rw [HG.out]
        exact ⟨rfl, HFIN.out⟩
      · have HG := Lib.hid (learn_clash (n := n) HBAD.out hg hz h0)
        have hzc : ((I.ls i).node == 0) = false := by simp [h0]
        have c5 : w2.cell? ⟨B.tb, 5, none⟩ = some (.int .i64 s.c.clashes) := by rw [← h5]; exact hM2.cT 5
        have f5 := hM2.fT 5
        have hwm : IntKind.i64.wrap (s.c.clashes + 1) = s.c.clashes + 1 := by have := hCC.out.clashes; unfold bN at this; rw [IntKind.wrap_i64]; omega
        have HFIN : Hid (FTs w (w2.setCell ⟨B.tb, 5, none⟩ (.int .i64 (s.c.clashes + 1))) B.tb n (footT B J) (k + 1) { s with c := { s.c with clashes := s.c.clashes + 1 } }) := Lib.hid (by
          obtain ⟨hM3, hS3⟩ := hM2.setC (c' := { s.c with clashes := s.c.clashes + 1 }) (i := 5) (u := .int .i64 (s.c.clashes + 1)) (by rw [h5]; rfl)
          exact FTs.mk hM3 (H3.out.c' _) h4 rfl ((Stp.refl HC2.out).trans hS3) (by omega))
        clear hM2 hg hfl
        go_wp2_with fail
        go_ret
        rw [HG.out]
        exact ⟨rfl, HFIN.out⟩
end
end Go.Proofs.YtldgdpekhjignaaGreat.Ft
