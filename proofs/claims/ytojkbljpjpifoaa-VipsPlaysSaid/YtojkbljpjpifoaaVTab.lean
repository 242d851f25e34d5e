/-
  WALKS over package vips: a new table, one service more, one less. Condition: the table is one that New made, or none at all.
-/
import Derived.Test.YtojkbljpjpifoaaVPlain
import Derived.WideKeyEntry
import Derived.StillTailTactics
set_option linter.unusedVariables false
set_option linter.unusedSimpArgs false
namespace Go.Proofs.Ytojkbljpjpifoaa
open Go.RowKit Go.Maps Go.WideShapes

section
variable {P : Program} {w : World} {t k e : TypeId} {R : Value → Option (DataW Unit × List MemPlace)} {b n : Nat} {D : DataW Unit}
/-- 'm[k]++' and its kin: the entry, and what is stored there; what the map reads as in between. -/
theorem ownsMap_bump (h : w.ownsMap P k R b n D) (KL : WideMaps.KeyLaw P k) (K : Keyed P k) (ht : P.underlying t = some (.map k e)) (hn : n < maxLen) {z : Value} (hz : ∀ u : World, (zeroValue e).run P u = .ok z u)
    {key val : Value} {kl : Lit} {d zd : DataW Unit} {ps zp : List MemPlace} (hkey : keyOf P k key = some kl) (hv : R val = some (d, ps)) (hzv : R z = some (zd, zp)) :
    ∃ (v0 : Value) (st : Int) (w1 w2 : World) (D1 : DataW Unit), (Instr.mapEntry t (.map (some b)) key).run P w = .ok (.tuple #[v0, .int .i64 st]) w1 ∧ (Instr.entryStore t (.map (some b)) (.int .i64 st) val).run P w1 = .ok () w2 ∧ w2.ownsMap P k R b (n + 1) (D.put kl d) ∧ w.grownBy w2 (some b) ∧
      w1.ownsMap P k R b (n + 1) D1 ∧ w.grownBy w1 (some b) ∧ (D1 = D ∨ D1 = D.put kl zd) := by
  obtain ⟨w', hrun, r1, r2⟩ := h.update K ht hn hkey hv
  obtain ⟨wz, hrunz, z1, z2⟩ := h.update K ht hn hkey hzv
  have hD := h
  obtain ⟨es, clock, hb, F, hs, hDe⟩ := h
  obtain ⟨v0, st, es1, clock1, h1, _, h3⟩ := WideElems.entry_then_store KL ht hz hb F hkey
  obtain ⟨es', clock', h4, h5⟩ := h3 (ChangeMaps.setBlock w b (.map es1 clock1)) val (ChangeMaps.heap_setBlock_same hb _)
  rw [hrun] at h5
  injection h5 with _ h5
  have e1 : ChangeMaps.setBlock (ChangeMaps.setBlock w b (.map es1 clock1)) b (.map es' clock') = w' := by
    rw [h5]; simp [ChangeMaps.setBlock]
  rw [e1] at h4
  have hmid : ∃ D1, (ChangeMaps.setBlock w b (.map es1 clock1)).ownsMap P k R b (n + 1) D1 ∧ w.grownBy (ChangeMaps.setBlock w b (.map es1 clock1)) (some b) ∧ (D1 = D ∨ D1 = D.put kl zd) := by
    rcases KL.find w hkey es.toList F.keys with ⟨q1, q2⟩ | ⟨j, e0, q1, q2, q3⟩
    · have hE : (Instr.mapEntry t (.map (some b)) key).run P w = .ok (.tuple #[z, goInt clock]) (ChangeMaps.setBlock w b (.map (es.push ⟨key, z, clock⟩) (clock + 1))) := by
        simp [Instr.mapEntry, run_underlying ht, MapKept.run_getObj_map hb, KL.check w false hkey, q1, hz, MapKept.run_setObj_map _ hb, Result.andThen, ChangeMaps.setBlock]
      have hU : (Instr.mapUpdate t (.map (some b)) key z).run P w = .ok () (ChangeMaps.setBlock w b (.map (es.push ⟨key, z, clock⟩) (clock + 1))) := by
        simp [Instr.mapUpdate, run_underlying ht, MapKept.run_getObj_map hb, KL.check w false hkey, q1, MapKept.run_setObj_map _ hb, Result.andThen, ChangeMaps.setBlock]
      rw [h1] at hE
      injection hE with _ hE
      rw [hrunz] at hU
      injection hU with _ hU
      rw [hE, ← hU]
      exact ⟨_, z1, z2, .inr rfl⟩
    · have hj : es[j]? = some e0 := by simpa using q2
      have hsame : es.modify j (fun e => { e with key := key }) = es := by
        apply Array.ext'
        rw [Array.toList_modify, ChangeMaps.modify_eq_set _ _ _ _ q2]
        have : ({ e0 with key := key } : MapEntry) = e0 := by rw [← q3]
        rw [this]
        exact WideElems.set_self _ _ _ q2
      have hE : (Instr.mapEntry t (.map (some b)) key).run P w = .ok (.tuple #[e0.val, goInt e0.born]) (ChangeMaps.setBlock w b (.map es clock)) := by
        simp [Instr.mapEntry, run_underlying ht, MapKept.run_getObj_map hb, KL.check w false hkey, q1, hj, q3, KL.stays w hkey, hsame, MapKept.run_setObj_map _ hb, Result.andThen, ChangeMaps.setBlock]
      rw [h1] at hE
      injection hE with _ hE
      have hw : ChangeMaps.setBlock w b (.map es clock) = w := by
        obtain ⟨hp, os, tp, dr, ou⟩ := w
        simp only [ChangeMaps.setBlock]
        congr 1
        apply Array.ext_getElem?
        intro i
        rw [Array.getElem?_setIfInBounds]
        split
        · next e => subst e; split
                    · exact hb.symm
                    · next hlt => rw [Array.getElem?_eq_none (by omega)]
        · rfl
      rw [hE, hw]
      exact ⟨_, hD.mono (by omega), World.grownBy.refl _ _, .inl rfl⟩
  obtain ⟨D1, m1, m2, m3⟩ := hmid
  exact ⟨v0, _, _, _, D1, h1, h4, r1, r2, m1, m2, m3⟩
end

def KS : KL Sv := ⟨keyS, okS, fun n _ => by simp [keyS, WideAt.IsKeyLit], fun a b => keyS_inj⟩
def MS (l : List Sv) : Sv → Option Int := fun S => if S ∈ l then some 1 else none
structure Tb (w : World) (b m n : Nat) (l : List Sv) : Prop where
  blk : Blk w b 76 #[.map (some m)]
  own : ∃ D, w.ownsMap Try.prog 72 (plainElem Try.prog 3) m n D ∧ ReadsG KS dI D (MS l) ∧ Maps.size D = l.length
  bm : b ≠ m
section
variable {w w' : World} {b m n : Nat} {l : List Sv} {S : List Nat}
theorem Tb.chg (h : Tb w b m n l) (hc : Chg S w w') (hb : b ∉ S) (hm : m ∉ S) : Tb w' b m n l := by
  obtain ⟨D, hD, hR, hZ⟩ := h.own
  exact ⟨h.blk.chg hc hb, ⟨D, ownsMap_chg hD hc hm, hR, hZ⟩, h.bm⟩
theorem Tb.chg0 (h : Tb w b m n l) (hc : Chg [] w w') : Tb w' b m n l := h.chg hc (by simp) (by simp)
theorem Tb.lt (h : Tb w b m n l) : b < w.heap.size ∧ m < w.heap.size := by
  obtain ⟨D, hD, _⟩ := h.own
  exact ⟨h.blk.lt, hD.lt⟩
theorem wf01 (x : Int) (h : x = 0 ∨ x = 1) : (Lit.int .i64 x).wf = true := by rcases h with rfl | rfl <;> decide
/-- What the map tells of a service. -/
theorem Tb.look (h : Tb w b m n l) {T : Sv} (hT : okS T) : (Instr.lookup 74 (.map (some m)) T.v false).run Try.prog w = .ok (.int .i64 (if T ∈ l then 1 else 0)) w := by
  obtain ⟨D, hD, hR, hZ⟩ := h.own
  obtain ⟨c, hrun, hat, _⟩ := hD.lookup_int lawS Try.underlying74 Try.underlying3 (zeroZ w) (key_sv svTy1 hT)
  rw [hrun]
  have h1 : D.atKey (KS.lit T) (dI 0) = dI ((MS l T).getD 0) := hR.at_ (n := T) hT 0
  have h2 : D.atKey (keyS T) (dI 0) = dI c := hat
  have h3 : dI c = dI ((MS l T).getD 0) := h2.symm.trans h1
  have h4 : c = (MS l T).getD 0 := by simpa [dI] using h3
  rw [h4]
  unfold MS
  split <;> rfl
end
set_option maxHeartbeats 400000 in
theorem vnew_any (w : World) : Calls Try.prog 20 #[] w fun e w' => ∃ b m, e = .returned (.pointer (some ⟨b, 0, none⟩)) ∧ Tb w' b m 0 [] ∧ Chg [] w w' ∧ w.heap.size ≤ b ∧ w.heap.size ≤ m := by
  have hmm := @run_makeMap Try.prog
  go_enter Try.func20, Try.ntmps20
  go_wp2
  go_ret
  refine ⟨w.heap.size + 1, w.heap.size, rfl, ⟨Blk.new' (by simp), ⟨.map [], (World.ownsMap_made _ _ _ _).alloc _, ?_, rfl⟩, by omega⟩, ((Chg.refl _ _).alloc _).alloc _, by omega, by omega⟩
  exact ReadsG.nil.congr (fun n _ => by simp [MS])
set_option maxHeartbeats 400000 in
theorem vis_any {w : World} {b m n : Nat} {l : List Sv} (h : Tb w b m n l) : Calls Try.prog 38 #[.pointer (some ⟨b, 0, none⟩)] w fun e w' => e = .returned (.bool true) ∧ w = w' := by
  have h1 : w.cell? ⟨b, 0, none⟩ = some (.map (some m)) := h.blk.cell 0
  have hn := fun w => run_neq_map_nil (P := Try.prog) w 74 _ _ (some m) Try.underlying74
  clear h
  go_enter Try.func38, Try.ntmps38
  go_wp2
  go_ret
  exact ⟨rfl, rfl⟩
/-- No table, or one that no call made. -/
def NoT (w : World) (p : Value) : Prop := p = .pointer none ∨ ∃ b, p = .pointer (some ⟨b, 0, none⟩) ∧ Blk w b 76 #[.map none]
theorem NoT.chg0 {w w' : World} {p : Value} (h : NoT w p) (hc : Chg [] w w') : NoT w' p := h.imp id fun ⟨b, e, hb⟩ => ⟨b, e, hb.chg hc (by simp)⟩
set_option maxHeartbeats 400000 in
theorem vis_no {w : World} {p : Value} (h : NoT w p) : Calls Try.prog 38 #[p] w fun e w' => e = .returned (.bool false) ∧ w = w' := by
  rcases h with rfl | ⟨b, rfl, hb⟩
  · go_enter Try.func38, Try.ntmps38
    go_wp2
    go_ret
    exact ⟨rfl, rfl⟩
  · have h1 : w.cell? ⟨b, 0, none⟩ = some (.map none) := hb.cell 0
    have hn := fun w => run_neq_map_nil (P := Try.prog) w 74 _ _ none Try.underlying74
    go_enter Try.func38, Try.ntmps38
    go_wp2
    go_ret
    exact ⟨rfl, rfl⟩
set_option maxRecDepth 100000 in
set_option maxHeartbeats 1000000 in
theorem vhas_any {w : World} {b m n : Nat} {l : List Sv} (h : Tb w b m n l) {A : Ad} {p : Int} (hT : okS ⟨A, p⟩) :
    Calls Try.prog 26 #[.pointer (some ⟨b, 0, none⟩), A.v, .int .i64 p] w fun e w' => e = .returned (.bool (decide ((⟨A, p⟩ : Sv) ∈ l))) ∧ Chg [] w w' := by
  have hA := (Chg.refl [] w).alloc (.cells (arrA A) 55)
  have hA2 := hA.drew
  have F1 := Lib.hid (fun q => vis_any ((h.chg0 hA).chg0 ((Chg.refl [] _).drewN q)))
  have hl := fun q => ((h.chg0 hA).chg0 ((Chg.refl [] _).drewN q)).look hT
  have h1 : w.cell? ⟨b, 0, none⟩ = some (.map (some m)) := h.blk.cell 0
  have hz := h.lt.1
  clear h
  by_cases hm : (⟨A, p⟩ : Sv) ∈ l
  · simp only [hm, if_true] at hl
    have e1 : Hid (decide ((⟨A, p⟩ : Sv) ∈ l) = true) := Lib.hid (by simp [hm])
    clear hm
    go_enter Try.func26, Try.ntmps26
    go_wp2_with fail
    go_quiet ((go_at_call 38; exact Calls.quiet_of_same ((F1.out _).mono fun _ _ ⟨a, b⟩ => ⟨a, b.symm⟩)))
    go_wp2_with fail
    go_ret
    exact ⟨by rw [e1.out]; rfl, hA.drewN _⟩
  · simp only [hm, if_false] at hl
    have e1 : Hid (decide ((⟨A, p⟩ : Sv) ∈ l) = false) := Lib.hid (by simp [hm])
    clear hm
    go_enter Try.func26, Try.ntmps26
    go_wp2_with fail
    go_quiet ((go_at_call 38; exact Calls.quiet_of_same ((F1.out _).mono fun _ _ ⟨a, b⟩ => ⟨a, b.symm⟩)))
    go_wp2_with fail
    go_ret
    exact ⟨by rw [e1.out]; rfl, hA.drewN _⟩
end Go.Proofs.Ytojkbljpjpifoaa
