/-
  MEMORY: a map with keys of any one kind and whatever elements, against a function. No condition.
-/
import Derived.Test.YtldgdpekhjignaaGreatMapO
import Derived.Maps.Views
import Derived.Maps.Ext
set_option linter.unusedVariables false
set_option linter.unusedSimpArgs false
namespace Go.Proofs.YtldgdpekhjignaaGreat
open Go

/-- Keys: each is one literal. -/
structure KL (κ : Type) where
  lit : κ → Lit
  ok : κ → Prop
  key : ∀ n, ok n → WideAt.IsKeyLit (lit n)
  inj : ∀ a b, ok a → ok b → lit a = lit b → a = b
section
variable {H κ α : Type} (K : KL κ) (d : α → DataW H)
/-- The map D holds just what M says, each as d lays it. -/
def ReadsH (D : DataW H) (M : κ → Option α) : Prop :=
  Maps.IsMap D ∧ ∀ n, K.ok n → (∀ r, M n = some r → Maps.has D (K.lit n) = true ∧ ∀ z, D.atKey (K.lit n) z = d r) ∧ (M n = none → Maps.has D (K.lit n) = false)
variable {K d} {D : DataW H} {M : κ → Option α}
theorem ReadsH.nil : ReadsH K d (.map []) (fun _ => none) := ⟨Maps.isMap_empty, fun n _ => ⟨fun r h => by simp at h, fun _ => by simp [Maps.has_eq]⟩⟩
theorem ReadsH.put [DecidableEq κ] (h : ReadsH K d D M) {n : κ} (hn : K.ok n) (r : α) : ReadsH K d (D.put (K.lit n) (d r)) (fun x => if x = n then some r else M x) := by
  have hk := K.key n hn
  refine ⟨h.1.put _ _, fun x hxo => ?_⟩
  by_cases hx : x = n
  · subst hx
    simp only [if_true]
    exact ⟨fun r' e => by injection e with e; subst e; exact ⟨Maps.has_put_same h.1 hk _, fun z => Maps.atKey_put_same h.1 hk _ _⟩, fun e => by cases e⟩
  · have hne : K.lit x ≠ K.lit n := fun e => hx (K.inj _ _ hxo hn e)
    simp only [hx, if_false]
    refine ⟨fun r' e => ?_, fun e => ?_⟩
    · have := (h.2 x hxo).1 r' e
      exact ⟨by rw [Maps.has_put_other hne]; exact this.1, fun z => by rw [Maps.atKey_put_other hne]; exact this.2 z⟩
    · rw [Maps.has_put_other hne]; exact (h.2 x hxo).2 e
theorem ReadsH.del [DecidableEq κ] (h : ReadsH K d D M) {n : κ} (hn : K.ok n) : ReadsH K d (D.del (K.lit n)) (fun x => if x = n then none else M x) := by
  refine ⟨h.1.del _, fun x hxo => ?_⟩
  by_cases hx : x = n
  · subst hx
    simp only [if_true]
    exact ⟨fun r' e => (by cases e), fun _ => Maps.has_del_same⟩
  · have hne : K.lit x ≠ K.lit n := fun e => hx (K.inj _ _ hxo hn e)
    simp only [hx, if_false]
    refine ⟨fun r' e => ?_, fun e => ?_⟩
    · have := (h.2 x hxo).1 r' e
      exact ⟨by rw [Maps.has_del_other hne]; exact this.1, fun z => by rw [Maps.atKey_del_other hne]; exact this.2 z⟩
    · rw [Maps.has_del_other hne]; exact (h.2 x hxo).2 e
theorem ReadsH.at_some (h : ReadsH K d D M) {n : κ} (hn : K.ok n) {r : α} (e : M n = some r) (z : DataW H) : D.atKey (K.lit n) z = d r := ((h.2 n hn).1 r e).2 z
theorem ReadsH.at_none (h : ReadsH K d D M) {n : κ} (hn : K.ok n) (e : M n = none) (z : DataW H) : D.atKey (K.lit n) z = z := Maps.atKey_of_not_has ((h.2 n hn).2 e) z
theorem ReadsH.at_ (h : ReadsH K d D M) {n : κ} (hn : K.ok n) (r0 : α) : D.atKey (K.lit n) (d r0) = d ((M n).getD r0) := by
  cases e : M n with
  | none => exact h.at_none hn e _
  | some r => exact h.at_some hn e _
theorem ReadsH.has (h : ReadsH K d D M) {n : κ} (hn : K.ok n) : Maps.has D (K.lit n) = (M n).isSome := by
  cases e : M n with
  | none => rw [(h.2 n hn).2 e]; rfl
  | some r => rw [((h.2 n hn).1 r e).1]; rfl
theorem ReadsH.congr (h : ReadsH K d D M) {M' : κ → Option α} (e : ∀ n, K.ok n → M n = M' n) : ReadsH K d D M' := ⟨h.1, fun n hn => by rw [← e n hn]; exact h.2 n hn⟩

/-- What has come of a range: ss, each once. -/
def CameH (K : KL κ) (M : κ → Option α) (left : Lit → Bool) (ss : List (κ × α)) : Prop :=
  (ss.map Prod.fst).Nodup ∧ ∀ p, p ∈ ss ↔ (K.ok p.1 ∧ M p.1 = some p.2 ∧ left (K.lit p.1) = false)
theorem CameH.start (h : ReadsH K d D M) : CameH K M (Maps.has D) [] := ⟨by simp, fun p => by
  constructor
  · intro h; simp at h
  · rintro ⟨h1, h2, h3⟩
    rw [h.has h1, h2] at h3
    cases h3⟩
theorem CameH.step {left : Lit → Bool} {ss : List (κ × α)} (h : CameH K M left ss) {n : κ} {r : α} (hn : K.ok n) (hm : M n = some r) (hl : left (K.lit n) = true) :
    CameH K M (fun z => left z && !z.sameKey (K.lit n)) (ss ++ [(n, r)]) := by
  refine ⟨?_, fun p => ?_⟩
  · rw [List.map_append, List.nodup_append]
    refine ⟨h.1, by simp, fun a ha b hb => ?_⟩
    simp at hb; subst hb
    obtain ⟨p, hp, rfl⟩ := List.mem_map.1 ha
    intro e
    have := ((h.2 p).1 hp).2.2
    rw [e, hl] at this; cases this
  · by_cases hk : p.1 = n
    · constructor
      · intro hm'
        rcases List.mem_append.1 hm' with h1 | h1
        · have := ((h.2 p).1 h1).2.2
          rw [hk, hl] at this; cases this
        · simp at h1; subst h1
          exact ⟨hn, hm, by simp [WideAt.sameKey_self (K.key n hn)]⟩
      · rintro ⟨h0, h1, _⟩
        rw [hk, hm] at h1
        injection h1 with h1
        obtain ⟨p1, p2⟩ := p
        simp at hk h1
        simp [h1, hk]
    · have hs : ∀ ho : K.ok p.1, (K.lit p.1).sameKey (K.lit n) = false := fun ho => Maps.sameKey_ne (fun e => hk (K.inj _ _ ho hn e))
      rw [List.mem_append, h.2 p]
      have : ¬ p = (n, r) := fun e => hk (by rw [e])
      constructor
      · rintro (⟨h0, h1, h2⟩ | h1)
        · exact ⟨h0, h1, by simp [h2]⟩
        · simp at h1; exact absurd h1 this
      · rintro ⟨h0, h1, h2⟩
        simp only [hs h0] at h2
        exact .inl ⟨h0, h1, by simpa using h2⟩
theorem CameH.done {left : Lit → Bool} {ss : List (κ × α)} (h : CameH K M left ss) (hl : ∀ kl, left kl = false) (p : κ × α) : p ∈ ss ↔ (K.ok p.1 ∧ M p.1 = some p.2) := by
  rw [h.2 p]; simp [hl]
end
/-! The map in memory: its elements are values, whatever they are. -/
open Go.RowKit Go.Maps
def rV (v : Value) : Option (DataW Value × List MemPlace) := some (.held v, [])
/-- Keys as the program has them. -/
structure KV (P : Program) (k : TypeId) (κ : Type) extends KL κ where
  val : κ → Value
  law : Keyed P k
  isk : ∀ x, ok x → keyOf P k (val x) = some (lit x)
  inv : ∀ v l, keyOf P k v = some l → ∃ x, ok x ∧ v = val x ∧ l = lit x
section
variable {P : Program} {k e t : TypeId} {κ : Type} (K : KV P k κ)
/-- Block b is a map that holds just what M says; s entries. -/
def OM (w : World) (b n : Nat) (M : κ → Option Value) (s : Nat) : Prop := ∃ D : DataW Value, w.ownsMap P k rV b n D ∧ ReadsH K.toKL DataW.held D M ∧ Maps.size D = s
variable {K} {w w' : World} {b n s : Nat} {M : κ → Option Value} {S : List Nat}
theorem ownsMap_chgH {H : Type} {R : Value → Option (DataW H × List MemPlace)} {D : DataW H} (h : w.ownsMap P k R b n D) (hc : Chg S w w') (hb : b ∉ S) : w'.ownsMap P k R b n D := by
  have hl := h.lt
  obtain ⟨es, clock, h1, r⟩ := h
  exact ⟨es, clock, (hc.block b hl hb).trans h1, r⟩
theorem OM.chg (h : OM K w b n M s) (hc : Chg S w w') (hb : b ∉ S) : OM K w' b n M s := by
  obtain ⟨D, h1, h2⟩ := h
  exact ⟨D, ownsMap_chgH h1 hc hb, h2⟩
theorem OM.chg0 (h : OM K w b n M s) (hc : Chg [] w w') : OM K w' b n M s := h.chg hc (by simp)
theorem OM.lt (h : OM K w b n M s) : b < w.heap.size := by
  obtain ⟨D, h1, _⟩ := h
  exact h1.lt
theorem OM.mono (h : OM K w b n M s) {n' : Nat} (hn : n ≤ n') : OM K w b n' M s := by
  obtain ⟨D, h1, h2⟩ := h
  exact ⟨D, h1.mono hn, h2⟩
theorem OM.le (h : OM K w b n M s) : s ≤ n := by
  obtain ⟨D, h1, _, h3⟩ := h
  rw [← h3]; exact h1.size_le
theorem OM.new (w : World) : OM K (w.alloc (.map #[] 0)) w.heap.size 0 (fun _ => none) 0 := ⟨_, World.ownsMap_made w P k rV, ReadsH.nil, rfl⟩
theorem held_inj {v : Value} {y : DataW Value} {ps : List MemPlace} (h : rV v = some (y, ps)) : y = .held v := by unfold rV at h; injection h with h; injection h with h _; exact h.symm
/-- 'm[k]'. -/
theorem OM.look (h : OM K w b n M s) (ht : P.underlying t = some (.map k e)) {z : Value} (hz : (zeroValue e).run P w = .ok z w) {x : κ} (hx : K.ok x) :
    (Instr.lookup t (.map (some b)) (K.val x) false).run P w = .ok ((M x).getD z) w := by
  obtain ⟨D, h1, h2, h3⟩ := h
  obtain ⟨v, ps, hr, hv⟩ := h1.lookup K.law ht hz (zd := .held z) (zp := []) rfl (K.isk x hx)
  have e1 := h2.at_ hx z
  have e2 := held_inj hv
  rw [e1] at e2
  injection e2 with e2
  rw [hr, e2]
/-- 'm[k]' with 'ok'. -/
theorem OM.look2 (h : OM K w b n M s) (ht : P.underlying t = some (.map k e)) {z : Value} (hz : (zeroValue e).run P w = .ok z w) {x : κ} (hx : K.ok x) :
    (Instr.lookup t (.map (some b)) (K.val x) true).run P w = .ok (.tuple #[(M x).getD z, .bool (M x).isSome]) w := by
  obtain ⟨D, h1, h2, h3⟩ := h
  obtain ⟨v, ps, hr, hv⟩ := h1.look_ok K.law ht hz (zd := .held z) (zp := []) rfl (K.isk x hx)
  have e1 := h2.at_ hx z
  have e2 := held_inj hv
  rw [e1] at e2
  injection e2 with e2
  rw [hr, e2, h2.has hx]
/-- 'm[k] = v'. -/
theorem OM.put [DecidableEq κ] (h : OM K w b n M s) (ht : P.underlying t = some (.map k e)) (hn : n < maxLen) {x : κ} (hx : K.ok x) (v : Value) :
    ∃ w', (Instr.mapUpdate t (.map (some b)) (K.val x) v).run P w = .ok () w' ∧ OM K w' b (n + 1) (fun y => if y = x then some v else M y) (if (M x).isSome then s else s + 1) ∧ Chg [b] w w' := by
  obtain ⟨D, h1, h2, h3⟩ := h
  obtain ⟨w', hr, h4, h5⟩ := h1.update K.law ht hn (K.isk x hx) (val := v) (d := .held v) (ps := []) rfl
  refine ⟨w', hr, ⟨_, h4, h2.put hx v, ?_⟩, (Chg.refl _ _).grown h5 (fun k e => by cases e; exact .inl (by simp))⟩
  have e1 := Maps.size_put (k := K.lit x) (h1.tidy K.law) (DataW.held v)
  rw [h2.has hx] at e1
  rw [← h3, e1]
/-- 'delete(m, k)'. -/
theorem OM.del [DecidableEq κ] (h : OM K w b n M s) (ht : P.underlying t = some (.map k e)) {x : κ} (hx : K.ok x) (ty : TypeId) :
    ∃ w', (Builtin.delete_ #[t, k] ty #[.map (some b), K.val x]).run P w = .ok (.tuple #[]) w' ∧ OM K w' b n (fun y => if y = x then none else M y) (if (M x).isSome then s - 1 else s) ∧ Chg [b] w w' := by
  obtain ⟨D, h1, h2, h3⟩ := h
  obtain ⟨w', hr, h4, h5⟩ := h1.drop K.law ht (K.isk x hx) ty
  refine ⟨w', hr, ⟨_, h4, h2.del hx, ?_⟩, (Chg.refl _ _).grown h5.grown (fun k e => by cases e; exact .inl (by simp))⟩
  have e1 := Maps.size_del (k := K.lit x) (h1.tidy K.law)
  rw [h2.has hx] at e1
  rw [← h3]
  revert e1
  cases (M x).isSome <;> intro e1 <;> simp at e1 ⊢ <;> omega
/-- 'len(m)'. -/
theorem OM.len (h : OM K w b n M s) (ht : P.underlying t = some (.map k e)) (ty : TypeId) : (Builtin.len_ #[t] ty #[.map (some b)]).run P w = .ok (.int .i64 s) w := by
  obtain ⟨D, h1, h2, h3⟩ := h
  rw [← h3]; exact h1.len ht ty
/-! A range over it. -/
def OMR (K : KV P k κ) (w : World) (b r n : Nat) (M : κ → Option Value) (s : Nat) (left : Lit → Bool) (cnt : Nat) (ss : List (κ × Value)) : Prop :=
  ∃ D : DataW Value, w.ranges P k rV b r n D left cnt ∧ ReadsH K.toKL DataW.held D M ∧ Maps.size D = s ∧ CameH K.toKL M left ss
section
variable {ops : Array Oper} {rest : List Oper} {o : Oper} {a : Act} {Q : Exit → Act → World → Prop}
theorem wpList_range_om (hg : o.guard = none) (m : Operand) (t : TypeId) (hop : o.op = Op.range t m) (ht : P.underlying t = some (.map k e)) (hm : a.eval m = .map (some b)) (h : OM K w b n M s)
    (hK : ∀ w' left cnt, OMR K w' b w.heap.size n M s left cnt [] → Chg [] w w' → w'.heap.size = w.heap.size + 1 → wpList P ops Q rest (a.put o.dst (.pointer (some ⟨w.heap.size, 0, none⟩))) w') :
    wpList P ops Q (o :: rest) a w := by
  obtain ⟨D, h1, h2, h3⟩ := h
  exact wpList_range_own w hg m t hop k e K.law ht rV b n D hm h1 fun w' r1 r2 r3 => hK w' _ _ ⟨D, r1, h2, h3, CameH.start h2⟩ ((Chg.refl _ _).grown r2 (fun k e => by cases e)) r3
theorem wpList_next_om (hg : o.guard = none) (it : Operand) (hop : o.op = Op.next it false) {r : Nat} {left : Lit → Bool} {cnt : Nat} {ss : List (κ × Value)} (hit : a.eval it = .pointer (some ⟨r, 0, none⟩)) (h : OMR K w b r n M s left cnt ss)
    (hDone : (ss.map Prod.fst).Nodup → (∀ p, p ∈ ss ↔ (K.ok p.1 ∧ M p.1 = some p.2)) → wpList P ops Q rest (a.put o.dst (.tuple #[.bool false])) w)
    (hMore : ∀ (x : κ) (v : Value) (w' : World) (left' : Lit → Bool) (cnt' : Nat), K.ok x → M x = some v → OMR K w' b r n M s left' cnt' (ss ++ [(x, v)]) → cnt' < cnt → Chg [r] w w' → w'.heap.size = w.heap.size →
      (Instr.entry (.pointer (some ⟨r, 0, none⟩))).run P w' = .ok (.tuple #[K.val x, v]) w' → wpList P ops Q rest (a.put o.dst (.tuple #[.bool true, K.val x, v])) w') :
    wpList P ops Q (o :: rest) a w := by
  obtain ⟨D, h1, h2, h3, h4⟩ := h
  refine wpList_next_ranges (α := κ) (β := Value) w hg it hop k K.law rV K.val id (fun key kl hk => by obtain ⟨x, _, hx, _⟩ := K.inv key kl hk; exact ⟨x, hx⟩) (fun v y _ => ⟨v, rfl⟩) b r n D left cnt hit h1 (fun h0 hl => hDone h4.1 (fun p => h4.done hl p)) ?_
  intro x c kl y w' cnt' hk hlk hv hat hrg hlt hgr hsz hen
  obtain ⟨x', hx', e1, e2⟩ := K.inv _ _ hk
  have e3 : y.1 = .held c := by have := hv; unfold rV at this; injection this with this; rw [← this]; rfl
  subst e2
  have hM : M x' = some c := by
    cases hm : M x' with
    | none =>
      have h5 := (h2.2 x' hx').2 hm
      have h6 := Maps.atKey_of_not_has h5 (DataW.agg [])
      rw [hat, e3] at h6
      cases h6
    | some r' =>
      have h5 := ((h2.2 x' hx').1 r' hm).2 (DataW.agg [])
      rw [hat, e3] at h5
      injection h5 with h5
      rw [h5]
  have hs := h4.step hx' hM hlk
  have hr := hMore x' c w' _ cnt' hx' hM ⟨D, hrg, h2, h3, hs⟩ hlt ((Chg.refl _ _).grown hgr (fun k e => by cases e; exact .inl (by simp))) hsz (by rw [hen, e1]; rfl)
  rw [← e1] at hr
  exact hr
end
end
end Go.Proofs.YtldgdpekhjignaaGreat
