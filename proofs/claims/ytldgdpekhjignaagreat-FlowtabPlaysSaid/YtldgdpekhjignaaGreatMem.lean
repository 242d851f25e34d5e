/-
  SLICES IN MEMORY: a slice that reads as a list of cells ('Sl'), a slice type's own numbers ('El'), an append of such a slice onto a row of the call's own. No condition.
-/
import Derived.Test.YtldgdpekhjignaaGreatKit
import Derived.Maps.AppendAt
import Derived.RegionTactic
import Derived.OwnWalk
set_option linter.unusedVariables false
set_option linter.unusedSimpArgs false
namespace Go.Proofs.YtldgdpekhjignaaGreat
open Go.RowKit

/-- The slice v has n elements of 'size' cells each; xs are all their cells; where there is one, its block lies from B on. -/
def Sl (w : World) (B size : Nat) (v : Value) (n : Nat) (xs : List Value) : Prop :=
  xs.length = n * size ∧ ∃ A c, v = .slice A n c ∧ n ≤ c ∧ (0 < n → ∃ b o, A = some ⟨b, o, none⟩ ∧ B ≤ b ∧ ∀ j u, xs[j]? = some u → w.cell? ⟨b, o + j, none⟩ = some u)

section
variable {w w' : World} {B B' size n : Nat} {v : Value} {xs : List Value} {S : List Nat}
theorem Sl.nil (w : World) (B size : Nat) : Sl w B size (.slice none 0 0) 0 [] := ⟨by simp, none, 0, rfl, Nat.le_refl _, fun h => absurd h (by omega)⟩
theorem Sl.chg (h : Sl w B size v n xs) (hc : Chg S w w') (hS : ∀ x ∈ S, x < B) : Sl w' B size v n xs := by
  obtain ⟨hl, A, c, hv, hcap, hr⟩ := h
  refine ⟨hl, A, c, hv, hcap, fun hn => ?_⟩
  obtain ⟨b, o, hA, hb, hx⟩ := hr hn
  exact ⟨b, o, hA, hb, fun j u hu => hc.cell (hx j u hu) (fun hm => by have := hS _ hm; simp only at this; omega)⟩
theorem Sl.chg0 (h : Sl w B size v n xs) (hc : Chg [] w w') : Sl w' B size v n xs := h.chg hc (by simp)
theorem Sl.less (h : Sl w B size v n xs) (hB : B' ≤ B) : Sl w B' size v n xs := by
  obtain ⟨hl, A, c, hv, hcap, hr⟩ := h
  refine ⟨hl, A, c, hv, hcap, fun hn => ?_⟩
  obtain ⟨b, o, hA, hb, hx⟩ := hr hn
  exact ⟨b, o, hA, by omega, hx⟩
/-- The cells of element k. -/
theorem Sl.at_ (h : Sl w B size v n xs) {k : Nat} (hk : k < n) (hs : 0 < size) : ∃ b o c, v = .slice (some ⟨b, o, none⟩) n c ∧ B ≤ b ∧ n ≤ c ∧ ∀ j, j < size → w.cell? ⟨b, o + (k * size + j), none⟩ = xs[k * size + j]? := by
  obtain ⟨hl, A, c, hv, hcap, hr⟩ := h
  obtain ⟨b, o, hA, hb, hx⟩ := hr (by omega)
  subst hA
  refine ⟨b, o, c, hv, hb, hcap, fun j hj => ?_⟩
  have hlt : k * size + j < xs.length := by
    rw [hl]
    calc k * size + j < k * size + size := by omega
      _ = (k + 1) * size := by rw [Nat.add_mul, Nat.one_mul]
      _ ≤ n * size := Nat.mul_le_mul_right _ hk
  rw [List.getElem?_eq_getElem hlt]
  exact hx _ _ (List.getElem?_eq_getElem hlt)
theorem Sl.of_own {e : TypeId} (h : w.ownsRow B e size v n xs) : Sl w B size v n xs := by
  refine ⟨h.1, ?_⟩
  rcases h.2 with ⟨rfl, rfl⟩ | ⟨g, cap, cur, rfl, hg, hh, hcap, hm, hcs, ht⟩
  · exact ⟨none, 0, rfl, Nat.le_refl _, fun h => absurd h (by omega)⟩
  · refine ⟨_, cap, rfl, hcap, fun hn => ⟨g, 0, rfl, hg, fun j u hu => ?_⟩⟩
    rw [← ht, List.getElem?_take] at hu
    split at hu
    · simp only [World.cell?, hh, Nat.zero_add]
      simpa using hu
    · simp at hu
/-- Its front part: 's[:k]'. -/
theorem Sl.form (h : Sl w B size v n xs) : ∃ A c, v = .slice A n c := by
  obtain ⟨hl, A, c, hv, hr⟩ := h
  exact ⟨A, c, hv⟩
theorem Sl.take {A : Option Addr} {c : Nat} (h : Sl w B size (.slice A n c) n xs) {k : Nat} (hk : k ≤ n) : Sl w B size (.slice A k c) k (xs.take (k * size)) := by
  obtain ⟨hl, A', c', hv, hcap, hr⟩ := h
  simp only [Value.slice.injEq, true_and] at hv
  obtain ⟨rfl, rfl⟩ := hv
  refine ⟨by rw [List.length_take, hl]; exact Nat.min_eq_left (Nat.mul_le_mul_right _ hk), A, c, rfl, by omega, fun hn => ?_⟩
  obtain ⟨b, o, hA, hb, hx⟩ := hr (by omega)
  refine ⟨b, o, hA, hb, fun j u hu => hx j u ?_⟩
  rw [List.getElem?_take] at hu
  split at hu
  · exact hu
  · simp at hu
/-- Its rear part: 's[k:]'. -/
theorem Sl.drop {A : Option Addr} {c : Nat} (h : Sl w B size (.slice A n c) n xs) {k : Nat} (hk : k ≤ n) :
    Sl w B size (.slice (if c = k then A else A.map (·.add (k * size))) (n - k) (c - k)) (n - k) (xs.drop (k * size)) := by
  obtain ⟨hl, A', c', hv, hcap, hr⟩ := h
  simp only [Value.slice.injEq, true_and] at hv
  obtain ⟨rfl, rfl⟩ := hv
  refine ⟨by rw [List.length_drop, hl, Nat.sub_mul], _, _, rfl, by omega, fun hn => ?_⟩
  obtain ⟨b, o, hA, hb, hx⟩ := hr (by omega)
  subst hA
  rw [if_neg (by omega)]
  refine ⟨b, o + k * size, ?_, hb, fun j u hu => ?_⟩
  · simp only [Option.map_some, Addr.add]
    split
    · next h0 => simp [h0]
    · rfl
  · rw [List.getElem?_drop] at hu
    rw [Nat.add_assoc]
    exact hx _ _ hu
end

section
variable {w : World} {B size n : Nat} {xs : List Value}
theorem Sl.drop' {b o c : Nat} (h : Sl w B size (.slice (some ⟨b, o, none⟩) n c) n xs) {k : Nat} (hk : k ≤ n) (hc : ¬ c = k) :
    Sl w B size (.slice (some ⟨b, o + k * size, none⟩) (n - k) (c - k)) (n - k) (xs.drop (k * size)) := by
  have := h.drop hk
  rw [if_neg hc] at this
  simp only [Option.map_some, Addr.add] at this
  split at this
  · next h0 => simpa [h0] using this
  · exact this
theorem Sl.empty (w : World) (B size : Nat) (A : Option Addr) (c : Nat) : Sl w B size (.slice A 0 c) 0 [] := ⟨by simp, A, c, rfl, Nat.zero_le _, fun h => absurd h (by omega)⟩
end
/-- The numbers of a slice type: its element's type, zero, cells and bytes. -/
structure El (P : Program) (t e : TypeId) (z : Value) (size bytes : Nat) : Prop where
  ht : P.underlying t = some (.slice e)
  info : (P.info? e).map (fun i => (i.zero, i.size, i.bytes)) = some (some z, size, bytes)
  hzs : z.cells.size = size
  hsz : 0 < size

section
variable {P : Program} {t e : TypeId} {z : Value} {size bytes : Nat} {w : World}
theorem app_run (el : El P t e z size bytes) (ty : TypeId) (base : Nat) {v : Value} {n : Nat} {xs : List Value} (hown : w.ownsRow base e size v n xs)
    {B : Nat} {sv : Value} {m : Nat} {news : List Value} (hr : Sl w B size sv m news) (h1 : ∀ u ∈ news, u.oneCell' = true)
    (h63 : n + m ≤ maxLen) (hbytes : (n + m) * bytes ≤ 140737488355328) (hbase : base ≤ w.heap.size) :
    ∃ v' w', (Builtin.append_ #[t, t] ty #[v, sv]).run P w = .ok v' w' ∧ w'.ownsRow base e size v' (n + m) (xs ++ news) ∧ Chg v.ownBlock.toList w w' ∧
      (v'.ownBlock = v.ownBlock ∨ v'.ownBlock = some w.heap.size) := by
  obtain ⟨i, hi, hz, hs, hb⟩ := info_parts el.info
  obtain ⟨hl, A, c, rfl, hcap, hx⟩ := hr
  have ofg : ∀ {w' : World}, w.grownBy w' v.ownBlock → Chg v.ownBlock.toList w w' := fun hg =>
    ⟨hg.os, hg.tape, hg.output, hg.size, fun k hk hS => hg.block k hk (fun e => hS (by simp [← e]))⟩
  rcases Nat.eq_zero_or_pos m with h0 | h0
  · subst h0
    have hn : news = [] := List.eq_nil_of_length_eq_zero (by simpa using hl)
    subst hn
    rcases A with _ | ad
    · refine ⟨v, w, ?_, by simpa using hown, Chg.refl _ _, .inl rfl⟩
      rcases hown.2 with ⟨rfl, rfl⟩ | ⟨g, cap, cur, rfl, _, _, hnc, _⟩
      · simp [Builtin.append_, run_underlying el.ht, sizeOf, typeInfo, hi, Builtin.lenOf, Builtin.firstCells]
      · simp [Builtin.append_, run_underlying el.ht, sizeOf, typeInfo, hi, Builtin.lenOf, Builtin.firstCells, hnc, storeCells]
    · obtain ⟨v', w', hrun, h2, h3, _, h5⟩ := run_append_own_at (P := P) w base t ty e i z size bytes el.ht hi hz hs hb el.hzs el.hsz v n xs hown ad 0 c [] (by simp) (by simp) (by simp) h63 hbytes hbase
      exact ⟨v', w', hrun, h2, ofg h3, h5⟩
  · obtain ⟨b, o, rfl, _, hc⟩ := hx h0
    obtain ⟨v', w', hrun, h2, h3, _, h5⟩ := run_append_own_at (P := P) w base t ty e i z size bytes el.ht hi hz hs hb el.hzs el.hsz v n xs hown ⟨b, o, none⟩ m c news hl
      (fun j u hu => by
        have := hc j u hu
        unfold Addr.add
        split
        · next hj => simpa [hj] using this
        · exact this) h1 h63 hbytes hbase
    exact ⟨v', w', hrun, h2, ofg h3, h5⟩

theorem wpList_app (el : El P t e z size bytes) {ops : Array Oper} {rest : List Oper} {o : Oper} {a : Act} {Q : Exit → Act → World → Prop} (hgd : o.guard = none) (s x : Operand)
    (ho : o.op = .call { callee := .builtin .append, args := #[s, x], argTypes := #[t, t] })
    (base : Nat) {v : Value} {n : Nat} {xs : List Value} (hs : a.eval s = v) (hown : w.ownsRow base e size v n xs)
    {B : Nat} {sv : Value} {m : Nat} {news : List Value} (hx : a.eval x = sv) (hr : Sl w B size sv m news) (h1 : ∀ u ∈ news, u.oneCell' = true)
    (h63 : n + m ≤ maxLen) (hbytes : (n + m) * bytes ≤ 140737488355328) (hbase : base ≤ w.heap.size)
    (h : ∀ v' w', w'.ownsRow base e size v' (n + m) (xs ++ news) → Chg v.ownBlock.toList w w' → (v'.ownBlock = v.ownBlock ∨ v'.ownBlock = some w.heap.size) → wpList P ops Q rest (a.put o.dst v') w') :
    wpList P ops Q (o :: rest) a w := by
  refine wpList_plain hgd fun K hK => ?_
  obtain ⟨v', w', hr, h2, h3, h5⟩ := app_run el o.type base hown hr h1 h63 hbytes hbase
  unfold Oper.wp execOp
  simp only [ho, resolve, invoke, builtin, Sem.run_bind, Sem.run_pure, Result.andThen_ok, List.map_toArray, List.map_cons, List.map_nil, hs, hx, hr]
  exact hK _ _ (h v' w' h2 h3 h5)
end
/-- A literal's new block is a row of the call's own. -/
theorem own_lit {base : Nat} (w : World) (e : TypeId) (size n : Nat) (cs : Array Value) (hb : base ≤ w.heap.size) (hm : n ≤ maxLen) (hs : cs.size = n * size) :
    (w.alloc (.cells cs e)).ownsRow base e size (.slice (some ⟨w.heap.size, 0, none⟩) n n) n cs.toList :=
  ⟨by simpa using hs, .inr ⟨w.heap.size, n, cs, rfl, hb, Blk.new w e cs, Nat.le_refl _, hm, hs, List.take_of_length_le (by rw [Array.length_toList]; omega)⟩⟩
theorem own_lt {w : World} {base size n : Nat} {e : TypeId} {v : Value} {xs : List Value} (h : w.ownsRow base e size v n xs) : ∀ x ∈ v.ownBlock.toList, base ≤ x ∧ x < w.heap.size := by
  intro x hx
  exact h.lt x (by simpa using hx)
theorem own_form {w : World} {base size n : Nat} {e : TypeId} {v : Value} {xs : List Value} (h : w.ownsRow base e size v n xs) (hn : 0 < n) :
    ∃ g cap, v = .slice (some ⟨g, 0, none⟩) n cap ∧ base ≤ g ∧ g < w.heap.size := by
  rcases h.2 with ⟨_, h0⟩ | ⟨g, cap, cur, hv, hb, hg, _⟩
  · omega
  · exact ⟨g, cap, hv, hb, Blk.lt (w := w) (t := e) (cs := cur) hg⟩
theorem own_chg {w w' : World} {base size n : Nat} {e : TypeId} {v : Value} {xs : List Value} {S : List Nat} (h : w.ownsRow base e size v n xs) (hc : Chg S w w') (hS : ∀ x ∈ v.ownBlock.toList, x ∉ S) : w'.ownsRow base e size v n xs := by
  refine ⟨h.1, ?_⟩
  rcases h.2 with h2 | ⟨g, cap, cur, hv, hg, hh, r⟩
  · exact .inl h2
  · subst hv
    have hlt : g < w.heap.size := Blk.lt (w := w) (t := e) (cs := cur) hh
    exact .inr ⟨g, cap, cur, rfl, hg, (hc.block g hlt (hS g (by simp [Value.ownBlock]))).trans hh, r⟩

/-! A list of records, each of s cells, laid flat. -/
section
variable {α : Type} {enc : α → List Value} {s : Nat}
theorem flat_len (he : ∀ x, (enc x).length = s) : ∀ l : List α, (l.flatMap enc).length = l.length * s
  | [] => by simp
  | x :: l => by rw [List.flatMap_cons, List.length_append, he, flat_len he l, List.length_cons, Nat.add_mul, Nat.one_mul, Nat.add_comm]
theorem flat_at (he : ∀ x, (enc x).length = s) : ∀ (l : List α) (k j : Nat), j < s → (l.flatMap enc)[k * s + j]? = l[k]?.bind (fun x => (enc x)[j]?)
  | [], k, j, hj => by simp
  | x :: l, 0, j, hj => by
    rw [List.flatMap_cons, Nat.zero_mul, Nat.zero_add, List.getElem?_append_left (by rw [he]; exact hj)]
    rfl
  | x :: l, k + 1, j, hj => by
    rw [List.flatMap_cons, List.getElem?_append_right (by rw [he, Nat.add_mul]; omega), he, show (k + 1) * s + j - s = k * s + j by rw [Nat.add_mul]; omega, flat_at he l k j hj]
    rfl
theorem flat_take (he : ∀ x, (enc x).length = s) : ∀ (l : List α) (k : Nat), (l.flatMap enc).take (k * s) = (l.take k).flatMap enc
  | [], k => by simp
  | x :: l, 0 => by simp
  | x :: l, k + 1 => by
    rw [List.flatMap_cons, List.take_append, he, List.take_of_length_le (by rw [he, Nat.add_mul]; omega), show (k + 1) * s - s = k * s by rw [Nat.add_mul]; omega, flat_take he l k]
    simp
theorem flat_drop (he : ∀ x, (enc x).length = s) : ∀ (l : List α) (k : Nat), (l.flatMap enc).drop (k * s) = (l.drop k).flatMap enc
  | [], k => by simp
  | x :: l, 0 => by simp
  | x :: l, k + 1 => by
    rw [List.flatMap_cons, List.drop_append, he, List.drop_eq_nil_of_le (by rw [he, Nat.add_mul]; omega), show (k + 1) * s - s = k * s by rw [Nat.add_mul]; omega, flat_drop he l k]
    simp
theorem flat_set (he : ∀ x, (enc x).length = s) : ∀ (l : List α) (k j : Nat) (x y : α) (u : Value), j < s → l[k]? = some x → enc y = (enc x).set j u → (l.flatMap enc).set (k * s + j) u = (l.set k y).flatMap enc
  | [], k, j, x, y, u, hj, h, e => by simp at h
  | z :: l, 0, j, x, y, u, hj, h, e => by
    simp only [List.getElem?_cons_zero, Option.some.injEq] at h
    subst h
    rw [List.flatMap_cons, Nat.zero_mul, Nat.zero_add, List.set_append_left _ _ (by rw [he]; exact hj), List.set_cons_zero, List.flatMap_cons, e]
  | z :: l, k + 1, j, x, y, u, hj, h, e => by
    rw [List.getElem?_cons_succ] at h
    rw [List.flatMap_cons, List.set_append_right _ _ (by rw [he, Nat.add_mul]; omega), he, show (k + 1) * s + j - s = k * s + j by rw [Nat.add_mul]; omega,
      flat_set he l k j x y u hj h e, List.set_cons_succ, List.flatMap_cons]
theorem flat_snoc (l : List α) (x : α) : l.flatMap enc ++ enc x = (l ++ [x]).flatMap enc := by simp
theorem flat_one (h1 : ∀ x, ∀ u ∈ enc x, u.oneCell' = true) (l : List α) : ∀ u ∈ l.flatMap enc, u.oneCell' = true := by
  intro u hu
  obtain ⟨x, _, hx⟩ := List.mem_flatMap.1 hu
  exact h1 x u hx
end

/-- A slice of records, from its cells. -/
theorem Sl.of_cells {α : Type} {enc : α → List Value} {size : Nat} (he : ∀ x, (enc x).length = size) {w : World} {B b o c : Nat} {l : List α} (hs : 0 < size) (hB : B ≤ b) (hc : l.length ≤ c)
    (h : ∀ i x, l[i]? = some x → ∀ j u, (enc x)[j]? = some u → w.cell? ⟨b, o + (i * size + j), none⟩ = some u) : Sl w B size (.slice (some ⟨b, o, none⟩) l.length c) l.length (l.flatMap enc) := by
  refine ⟨flat_len he l, _, c, rfl, hc, fun hn => ⟨b, o, rfl, hB, fun q u hu => ?_⟩⟩
  have hq : q / size * size + q % size = q := by rw [Nat.mul_comm]; exact Nat.div_add_mod q size
  have hm : q % size < size := Nat.mod_lt _ hs
  rw [← hq, flat_at he l _ _ hm] at hu
  cases hx : l[q / size]? with
  | none => rw [hx] at hu; cases hu
  | some x =>
    rw [hx] at hu
    have := h _ x hx _ u hu
    rw [hq] at this
    exact this
/-- The cells of a record in a slice of records. -/
theorem Sl.rec {α : Type} {enc : α → List Value} {size : Nat} (he : ∀ x, (enc x).length = size) (hs : 0 < size) {w : World} {B : Nat} {v : Value} {l : List α} (h : Sl w B size v l.length (l.flatMap enc)) {i : Nat} {x : α} (hi : l[i]? = some x) :
    ∃ b o c, v = .slice (some ⟨b, o, none⟩) l.length c ∧ B ≤ b ∧ l.length ≤ c ∧ ∀ j, j < size → w.cell? ⟨b, o + (i * size + j), none⟩ = (enc x)[j]? := by
  have hl : i < l.length := (List.getElem?_eq_some_iff.1 hi).1
  obtain ⟨b, o, c, hv, hb, hcap, hx⟩ := Sl.at_ h hl hs
  refine ⟨b, o, c, hv, hb, hcap, fun j hj => ?_⟩
  rw [hx j hj, flat_at he l i j hj, hi]
  rfl
end Go.Proofs.YtldgdpekhjignaaGreat
