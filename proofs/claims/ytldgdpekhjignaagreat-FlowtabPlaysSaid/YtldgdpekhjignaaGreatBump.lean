/-
  MEMORY: 'm[k]++' and its kin at a map that the walk owns. No condition.
-/
import Derived.Test.YtldgdpekhjignaaGreatMapV
import Derived.WideKeyEntry
set_option linter.unusedVariables false
set_option linter.unusedSimpArgs false
namespace Go.Proofs.YtldgdpekhjignaaGreat
open Go Go.RowKit Go.Maps Go.WideShapes

section
variable {H : Type} {P : Program} {w : World} {t k e : TypeId} {R : Value → Option (DataW H × List MemPlace)} {b n : Nat} {D : DataW H}
/-- 'm[k]++' and its kin: the entry, and what is stored there; what the map reads as in between. -/
theorem ownsMap_bump (h : w.ownsMap P k R b n D) (KL : WideMaps.KeyLaw P k) (K : Keyed P k) (ht : P.underlying t = some (.map k e)) (hn : n < maxLen) {z : Value} (hz : ∀ u : World, (zeroValue e).run P u = .ok z u)
    {key val : Value} {kl : Lit} {d zd : DataW H} {ps zp : List MemPlace} (hkey : keyOf P k key = some kl) (hv : R val = some (d, ps)) (hzv : R z = some (zd, zp)) :
    ∃ (v0 : Value) (st : Int) (w1 w2 : World) (D1 : DataW H), (Instr.mapEntry t (.map (some b)) key).run P w = .ok (.tuple #[v0, .int .i64 st]) w1 ∧ (Instr.entryStore t (.map (some b)) (.int .i64 st) val).run P w1 = .ok () w2 ∧ w2.ownsMap P k R b (n + 1) (D.put kl d) ∧ w.grownBy w2 (some b) ∧
      w1.ownsMap P k R b (n + 1) D1 ∧ w.grownBy w1 (some b) ∧ (D1 = D ∨ (D1 = D.put kl zd ∧ Maps.has D kl = false)) := by
  obtain ⟨w', hrun, r1, r2⟩ := h.update K ht hn hkey hv
  obtain ⟨wz, hrunz, z1, z2⟩ := h.update K ht hn hkey hzv
  have hD := h
  obtain ⟨es, clock, hb, F, hs, hDe⟩ := h
  obtain ⟨v0, st, es1, clock1, h1, _, h3⟩ := WideElems.entry_then_store KL ht hz hb F hkey
  obtain ⟨es', clock', h4, h5⟩ := h3 (ChangeMaps.setBlock w b (.map es1 clock1)) val (ChangeMaps.heap_setBlock_same hb _)
  rw [hrun] at h5
  injection h5 with _ h5
  have e1 : ChangeMaps.setBlock (ChangeMaps.setBlock w b (.map es1 clock1)) b (.map es' clock') = w' := by
    rw [h5]; simp [ChangeMaps.setBlock]
  rw [e1] at h4
  have hmid : ∃ D1, (ChangeMaps.setBlock w b (.map es1 clock1)).ownsMap P k R b (n + 1) D1 ∧ w.grownBy (ChangeMaps.setBlock w b (.map es1 clock1)) (some b) ∧ (D1 = D ∨ (D1 = D.put kl zd ∧ Maps.has D kl = false)) := by
    rcases KL.find w hkey es.toList F.keys with ⟨q1, q2⟩ | ⟨j, e0, q1, q2, q3⟩
    · have hE : (Instr.mapEntry t (.map (some b)) key).run P w = .ok (.tuple #[z, goInt clock]) (ChangeMaps.setBlock w b (.map (es.push ⟨key, z, clock⟩) (clock + 1))) := by
        simp [Instr.mapEntry, run_underlying ht, MapKept.run_getObj_map hb, KL.check w false hkey, q1, hz, MapKept.run_setObj_map _ hb, Result.andThen, ChangeMaps.setBlock]
      have hU : (Instr.mapUpdate t (.map (some b)) key z).run P w = .ok () (ChangeMaps.setBlock w b (.map (es.push ⟨key, z, clock⟩) (clock + 1))) := by
        simp [Instr.mapUpdate, run_underlying ht, MapKept.run_getObj_map hb, KL.check w false hkey, q1, MapKept.run_setObj_map _ hb, Result.andThen, ChangeMaps.setBlock]
      rw [h1] at hE
      injection hE with _ hE
      rw [hrunz] at hU
      injection hU with _ hU
      rw [hE, ← hU]
      refine ⟨_, z1, z2, .inr ⟨rfl, ?_⟩⟩
      obtain ⟨lv, lps, hlk, _⟩ := hD.look_ok K ht (hz w) hzv hkey
      have hE2 : (Instr.lookup t (.map (some b)) key true).run P w = .ok (.tuple #[z, .bool false]) w := by
        simp [Instr.lookup, run_underlying ht, MapKept.run_getObj_map hb, KL.check w es.isEmpty hkey, q1, hz, Result.andThen]
        first | done | (rw [q1]; simp [hz])
      rw [hlk] at hE2
      injection hE2 with hE2 _
      injection hE2 with hE2
      simp at hE2
      exact hE2.2
    · have hj : es[j]? = some e0 := by simpa using q2
      have hsame : es.modify j (fun e => { e with key := key }) = es := by
        apply Array.ext'
        rw [Array.toList_modify, ChangeMaps.modify_eq_set _ _ _ _ q2]
        have : ({ e0 with key := key } : MapEntry) = e0 := by rw [← q3]
        rw [this]
        exact WideElems.set_self _ _ _ q2
      have hE : (Instr.mapEntry t (.map (some b)) key).run P w = .ok (.tuple #[e0.val, goInt e0.born]) (ChangeMaps.setBlock w b (.map es clock)) := by
        simp [Instr.mapEntry, run_underlying ht, MapKept.run_getObj_map hb, KL.check w false hkey, q1, hj, q3, KL.stays w hkey, hsame, MapKept.run_setObj_map _ hb, Result.andThen, ChangeMaps.setBlock]
      rw [h1] at hE
      injection hE with _ hE
      have hw : ChangeMaps.setBlock w b (.map es clock) = w := by
        obtain ⟨hp, os, tp, dr, ou⟩ := w
        simp only [ChangeMaps.setBlock]
        congr 1
        apply Array.ext_getElem?
        intro i
        rw [Array.getElem?_setIfInBounds]
        split
        · next e => subst e; split
                    · exact hb.symm
                    · next hlt => rw [Array.getElem?_eq_none (by omega)]
        · rfl
      rw [hE, hw]
      exact ⟨_, hD.mono (by omega), World.grownBy.refl _ _, .inl rfl⟩
  obtain ⟨D1, m1, m2, m3⟩ := hmid
  exact ⟨v0, _, _, _, D1, h1, h4, r1, r2, m1, m2, m3⟩
end
section
variable {P : Program} {k e t : TypeId} {κ : Type} [DecidableEq κ] {K : KV P k κ} {w : World} {b n s : Nat} {M : κ → Option Value}
/-- The entry, and what is stored there; what the map holds in between. -/
theorem OM.bump (h : OM K w b n M s) (KL : WideMaps.KeyLaw P k) (ht : P.underlying t = some (.map k e)) (hn : n < maxLen) {z : Value} (hz : ∀ u : World, (zeroValue e).run P u = .ok z u) {x : κ} (hx : K.ok x) (v : Value) :
    ∃ (v0 : Value) (st : Int) (w1 w2 : World) (M1 : κ → Option Value) (s1 : Nat), (Instr.mapEntry t (.map (some b)) (K.val x)).run P w = .ok (.tuple #[v0, .int .i64 st]) w1 ∧ (Instr.entryStore t (.map (some b)) (.int .i64 st) v).run P w1 = .ok () w2 ∧
      OM K w2 b (n + 1) (fun y => if y = x then some v else M y) (if (M x).isSome then s else s + 1) ∧ Chg [b] w w2 ∧ OM K w1 b (n + 1) M1 s1 ∧ Chg [b] w w1 ∧ ((M1 x).getD z = (M x).getD z) := by
  obtain ⟨D, h1, h2, h3⟩ := h
  obtain ⟨v0, st, w1, w2, D1, a1, a2, a3, a4, a5, a6, a7⟩ := ownsMap_bump h1 KL K.law ht hn hz (K.isk x hx) (val := v) (d := .held v) (zd := .held z) (ps := []) (zp := []) rfl rfl
  have cg : ∀ {w' : World}, w.grownBy w' (some b) → Chg [b] w w' := fun g => (Chg.refl _ _).grown g (fun k e => by cases e; exact .inl (by simp))
  have e1 := Maps.size_put (k := K.lit x) (h1.tidy K.law) (DataW.held v)
  rw [h2.has hx] at e1
  rcases a7 with rfl | ⟨rfl, hno⟩
  · exact ⟨v0, st, w1, w2, M, s, a1, a2, ⟨_, a3, h2.put hx v, by rw [← h3, e1]⟩, cg a4, ⟨_, a5, h2, h3⟩, cg a6, rfl⟩
  · refine ⟨v0, st, w1, w2, fun y => if y = x then some z else M y, _, a1, a2, ⟨_, a3, h2.put hx v, by rw [← h3, e1]⟩, cg a4, ⟨_, a5, h2.put hx z, rfl⟩, cg a6, ?_⟩
    have hm : M x = none := by
      have := h2.has hx
      rw [hno] at this
      cases e : M x with
      | none => rfl
      | some r => rw [e] at this; cases this
    simp [hm]
end
end Go.Proofs.YtldgdpekhjignaaGreat
