/-
  PLAIN: the connection table of a backend: entries, each with a number. No condition.
-/
import Derived.Test.YtgbdbeaflilmlaaFlowOut
set_option linter.unusedVariables false
set_option linter.unusedSimpArgs false
namespace Go.Proofs.Ytgbdbeaflilmlaa
open Go.RowKit Go.Maps

/-- An entry. -/
structure En where
  fl : Fl
  kind : Int
  first : Int
  floor : Int
  passed : Int
  til : Int
  st : Int
  cf : Int
  co : Int
  cn : Int
  cs : Int
  cg : Int
  cm : Int
deriving DecidableEq, Inhabited
@[reducible] def arrN (e : En) : Array Value := #[.int .u8 e.fl.src.a0, .int .u8 e.fl.src.a1, .int .u8 e.fl.src.a2, .int .u8 e.fl.src.a3, .int .u8 e.fl.src.a4, .int .u8 e.fl.src.a5, .int .u8 e.fl.src.a6, .int .u8 e.fl.src.a7, .int .u8 e.fl.src.a8, .int .u8 e.fl.src.a9, .int .u8 e.fl.src.a10, .int .u8 e.fl.src.a11, .int .u8 e.fl.src.a12, .int .u8 e.fl.src.a13, .int .u8 e.fl.src.a14, .int .u8 e.fl.src.a15, .int .i64 e.fl.sport, .int .u8 e.fl.dst.a0, .int .u8 e.fl.dst.a1, .int .u8 e.fl.dst.a2, .int .u8 e.fl.dst.a3, .int .u8 e.fl.dst.a4, .int .u8 e.fl.dst.a5, .int .u8 e.fl.dst.a6, .int .u8 e.fl.dst.a7, .int .u8 e.fl.dst.a8, .int .u8 e.fl.dst.a9, .int .u8 e.fl.dst.a10, .int .u8 e.fl.dst.a11, .int .u8 e.fl.dst.a12, .int .u8 e.fl.dst.a13, .int .u8 e.fl.dst.a14, .int .u8 e.fl.dst.a15, .int .i64 e.fl.dport, .int .i64 e.kind, .int .u32 e.first, .int .i64 e.floor, .int .i64 e.passed, .int .i64 e.til, .int .i64 e.st, .int .u32 e.cf, .int .u32 e.co, .int .u32 e.cn, .int .u32 e.cs, .int .i64 e.cg, .int .u32 e.cm]
@[reducible] def arrN0 : Array Value := #[.int .u8 0, .int .u8 0, .int .u8 0, .int .u8 0, .int .u8 0, .int .u8 0, .int .u8 0, .int .u8 0, .int .u8 0, .int .u8 0, .int .u8 0, .int .u8 0, .int .u8 0, .int .u8 0, .int .u8 0, .int .u8 0, .int .i64 0, .int .u8 0, .int .u8 0, .int .u8 0, .int .u8 0, .int .u8 0, .int .u8 0, .int .u8 0, .int .u8 0, .int .u8 0, .int .u8 0, .int .u8 0, .int .u8 0, .int .u8 0, .int .u8 0, .int .u8 0, .int .u8 0, .int .i64 0, .int .i64 0, .int .u32 0, .int .i64 0, .int .i64 0, .int .i64 0, .int .i64 0, .int .u32 0, .int .u32 0, .int .u32 0, .int .u32 0, .int .i64 0, .int .u32 0]
def restN (e : En) : List Value := [.int .i64 e.kind, .int .u32 e.first, .int .i64 e.floor, .int .i64 e.passed, .int .i64 e.til, .int .i64 e.st, .int .u32 e.cf, .int .u32 e.co, .int .u32 e.cn, .int .u32 e.cs, .int .i64 e.cg, .int .u32 e.cm]
def encN (e : En) : List Value := encF e.fl ++ restN e
theorem encN_len (e : En) : (encN e).length = 46 := rfl
theorem arrN_list (e : En) : (arrN e).toList = encN e := rfl
theorem encN_one (e : En) : ∀ u ∈ encN e, u.oneCell' = true := by
  intro u hu
  rcases List.mem_append.1 hu with hu | hu
  · exact encF_one _ u hu
  · simp only [restN, List.mem_cons, List.not_mem_nil, or_false] at hu
    rcases hu with rfl | rfl | rfl | rfl | rfl | rfl | rfl | rfl | rfl | rfl | rfl | rfl <;> rfl
theorem arrN_one (e : En) : (arrN e).toList.all (·.oneCell') = true := rfl
theorem infN {e : En} : (Try.prog.info? 96).map (·.size) = some (arrN e).size := by
  show _ = some 46
  kernel_rfl
/-- The flow among an entry's cells. -/
theorem rgN_fl {w : World} {b o : Nat} {e : En} (h : w.rangeAt b o (arrN e).toList) : w.rangeAt b o (arrF e.fl).toList := fun j u hu => by
  have hj : j < 34 := (List.getElem?_eq_some_iff.1 hu).1
  refine h j u ?_
  rw [arrN_list]
  unfold encN
  rw [List.getElem?_append_left (by rw [encF_len]; exact hj)]
  exact hu
def eN0 : En := ⟨⟨⟨0, 0, 0, 0, 0, 0, 0, 0, 0, 0, 0, 0, 0, 0, 0, 0⟩, 0, ⟨0, 0, 0, 0, 0, 0, 0, 0, 0, 0, 0, 0, 0, 0, 0, 0⟩, 0⟩, 0, 0, 0, 0, 0, 0, 0, 0, 0, 0, 0, 0⟩
theorem arrN_zero : arrN eN0 = arrN0 := rfl

/-- The table: its room, its tick, the last number, its entries with their numbers. -/
structure TC where
  n : Int
  now : Int
  last : Int
  l : List (En × Int)
abbrev flC (p : En × Int) : Fl := p.1.fl
def getC (c : TC) (f : Fl) : Option (En × Int) := c.l.find? fun p => decide (flC p = f)
def dropL (l : List (En × Int)) (f : Fl) : List (En × Int) := l.filter fun p => !decide (flC p = f)
def dropC (c : TC) (f : Fl) : TC := { c with l := dropL c.l f }
def hasC (c : TC) (f : Fl) : Bool := (getC c f).isSome
def putC (c : TC) (e : En) : TC × Bool :=
  if e.kind ≠ 1 ∧ e.kind ≠ 2 then (c, false) else if hasC c e.fl = false ∧ c.n ≤ c.l.length then (c, false) else (⟨c.n, c.now, c.last + 1, dropL c.l e.fl ++ [(e, c.last + 1)]⟩, true)
def tickC (c : TC) : TC := ⟨c.n, c.now + 1, c.last, c.l.filter fun p => decide (c.now + 1 < p.1.til)⟩
def goneC (c : TC) : List Fl := (c.l.filter fun p => !decide (c.now + 1 < p.1.til)).map flC
/-- What holds of a table behind K calls. -/
structure CI (K : Nat) (c : TC) : Prop where
  nd : (c.l.map flC).Nodup
  no : (c.l.map (·.2)).Nodup
  lo : ∀ p ∈ c.l, 1 ≤ p.2 ∧ p.2 ≤ c.last
  ok : ∀ p ∈ c.l, okF (flC p)
  len : (c.l.length : Int) ≤ c.n
  la : 0 ≤ c.last ∧ c.last ≤ K
  nw : 0 ≤ c.now ∧ c.now ≤ K
  n1 : 1 ≤ c.n ∧ c.n ≤ 64
theorem getC_some {c : TC} {f : Fl} {p : En × Int} (h : getC c f = some p) : p ∈ c.l ∧ flC p = f := ⟨List.mem_of_find?_eq_some h, by have := List.find?_some h; simpa using this⟩
theorem getC_none {c : TC} {f : Fl} (h : getC c f = none) : ∀ p ∈ c.l, flC p ≠ f := fun p hp => by
  have := List.find?_eq_none.1 h p hp
  simpa using this
theorem find_nodup {α β : Type} [DecidableEq β] {g : α → β} : ∀ {l : List α}, (l.map g).Nodup → ∀ {x : α}, x ∈ l → ∀ {b : β}, g x = b → l.find? (fun y => decide (g y = b)) = some x
  | [], _, x, hx, _, _ => by simp at hx
  | a :: l, hn, x, hx, b, hb => by
    rw [List.map_cons, List.nodup_cons] at hn
    rw [List.find?_cons]
    by_cases ha : g a = b
    · rw [decide_eq_true ha]
      rcases List.mem_cons.1 hx with rfl | hx
      · rfl
      · exact absurd (List.mem_map.2 ⟨x, hx, hb.trans ha.symm⟩) hn.1
    · rw [decide_eq_false ha]
      rcases List.mem_cons.1 hx with rfl | hx
      · exact absurd hb ha
      · exact find_nodup hn.2 hx hb
theorem CI.get {K : Nat} {c : TC} (h : CI K c) {p : En × Int} (hp : p ∈ c.l) : getC c (flC p) = some p := find_nodup h.nd hp rfl
theorem CI.same {K : Nat} {c : TC} (h : CI K c) {p q : En × Int} (hp : p ∈ c.l) (hq : q ∈ c.l) (e : flC p = flC q) : p = q := by
  have h1 := h.get hp
  rw [e, h.get hq] at h1
  injection h1 with h1; exact h1.symm
theorem CI.mono {K K' : Nat} {c : TC} (h : CI K c) (hK : K ≤ K') : CI K' c := ⟨h.nd, h.no, h.lo, h.ok, h.len, by have := h.la; omega, by have := h.nw; omega, h.n1⟩
theorem mem_dropL {l : List (En × Int)} {f : Fl} {p : En × Int} : p ∈ dropL l f ↔ p ∈ l ∧ flC p ≠ f := by simp [dropL]
theorem drop_none {c : TC} {f : Fl} (h : getC c f = none) : dropC c f = c := by
  unfold dropC dropL
  rw [List.filter_eq_self.2 (fun p hp => by simpa using getC_none h p hp)]
theorem CI.filter {K : Nat} {c : TC} (h : CI K c) (P : En × Int → Bool) : CI K { c with l := c.l.filter P } where
  nd := h.nd.sublist ((List.filter_sublist).map _)
  no := h.no.sublist ((List.filter_sublist).map _)
  lo := fun p hp => h.lo p (List.mem_filter.1 hp).1
  ok := fun p hp => h.ok p (List.mem_filter.1 hp).1
  len := by have := List.length_filter_le P c.l; have := h.len; simp only; omega
  la := h.la
  nw := h.nw
  n1 := h.n1
theorem CI.drop {K : Nat} {c : TC} (h : CI K c) (f : Fl) : CI K (dropC c f) := h.filter _
theorem CI.tick {K : Nat} {c : TC} (h : CI K c) : CI (K + 1) (tickC c) := by
  have := (h.filter fun p => decide (c.now + 1 < p.1.til)).mono (Nat.le_succ K)
  exact ⟨this.nd, this.no, this.lo, this.ok, this.len, this.la, by have := h.nw; simp only [tickC]; omega, this.n1⟩
/-- An entry dropped is one less. -/
theorem drop_len {l : List (En × Int)} (hn : (l.map flC).Nodup) (f : Fl) : (dropL l f).length = if (l.find? fun p => decide (flC p = f)).isSome then l.length - 1 else l.length := by
  induction l with
  | nil => rfl
  | cons a l ih =>
    rw [List.map_cons, List.nodup_cons] at hn
    unfold dropL at *
    rw [List.filter_cons, List.find?_cons]
    by_cases ha : flC a = f
    · rw [decide_eq_true ha]
      have : l.filter (fun p => !decide (flC p = f)) = l := List.filter_eq_self.2 (fun p hp => by
        have : flC p ≠ f := fun e => hn.1 (List.mem_map.2 ⟨p, hp, e.trans ha.symm⟩)
        simpa using this)
      simp [this]
    · rw [decide_eq_false ha]
      have := ih hn.2
      simp only [Bool.not_false, if_true, List.length_cons]
      rw [this]
      split
      · next hh =>
        cases l with
        | nil => simp at hh
        | cons b l => simp
      · rfl
theorem CI.put {K : Nat} {c : TC} (h : CI K c) {e : En} (he : okF e.fl) (hr : hasC c e.fl = true ∨ (c.l.length : Int) < c.n) : CI (K + 1) ⟨c.n, c.now, c.last + 1, dropL c.l e.fl ++ [(e, c.last + 1)]⟩ := by
  have hd := h.drop e.fl
  refine ⟨?_, ?_, fun p hp => ?_, fun p hp => ?_, ?_, by have := h.la; simp only; omega, by have := h.nw; simp only; omega, h.n1⟩
  · simp only [List.map_append]
    refine List.nodup_append.2 ⟨hd.nd, by simp, fun a ha b hb e' => ?_⟩
    simp [flC] at hb
    obtain ⟨p, hp, rfl⟩ := List.mem_map.1 ha
    exact (mem_dropL.1 hp).2 (e'.trans hb)
  · simp only [List.map_append]
    refine List.nodup_append.2 ⟨hd.no, by simp, fun a ha b hb e' => ?_⟩
    simp at hb
    obtain ⟨p, hp, rfl⟩ := List.mem_map.1 ha
    have := (h.lo p (mem_dropL.1 hp).1).2
    omega
  · simp only at hp ⊢
    rcases List.mem_append.1 hp with hp | hp
    · have := h.lo p (mem_dropL.1 hp).1; omega
    · simp at hp; subst hp; have := h.la; simp only; omega
  · rcases List.mem_append.1 hp with hp | hp
    · exact h.ok p (mem_dropL.1 hp).1
    · simp at hp; subst hp; exact he
  · simp only [List.length_append, List.length_singleton]
    rw [drop_len h.nd]
    have hl := h.len
    rcases hr with hr | hr
    · unfold hasC getC at hr
      rw [if_pos hr]
      have : 0 < c.l.length := by
        rw [Option.isSome_iff_exists] at hr
        obtain ⟨p, hp⟩ := hr
        exact List.length_pos_of_mem (List.mem_of_find?_eq_some hp)
      omega
    · split <;> omega
/-! What the maps hold. -/
def mE (l : List (En × Int)) : Fl → Option Value := fun f => (l.find? fun p => decide (flC p = f)).map fun p => .agg (arrN p.1)
def mN (l : List (En × Int)) : Fl → Option Value := fun f => (l.find? fun p => decide (flC p = f)).map fun p => .int .i64 p.2
def mF (l : List (En × Int)) : Int → Option Value := fun n => (l.find? fun p => decide (p.2 = n)).map fun p => p.1.fl.v
theorem find_filter {α β : Type} [DecidableEq β] (g : α → β) (b x : β) (P : α → Bool) (hP : ∀ a, P a = !decide (g a = b)) : ∀ l : List α, (l.filter P).find? (fun a => decide (g a = x)) = if x = b then none else l.find? fun a => decide (g a = x)
  | [] => by simp
  | a :: l => by
    have ih := find_filter g b x P hP l
    rw [List.filter_cons, hP a]
    by_cases ha : g a = b
    · rw [decide_eq_true ha]
      simp only [Bool.not_true, Bool.false_eq_true, if_false]
      rw [ih]
      by_cases hx : x = b
      · rw [if_pos hx, if_pos hx]
      · rw [if_neg hx, if_neg hx, List.find?_cons, decide_eq_false (fun e => hx (e.symm.trans ha))]
    · rw [decide_eq_false ha]
      simp only [Bool.not_false, if_true]
      rw [List.find?_cons, List.find?_cons, ih]
      by_cases hx : x = b
      · rw [if_pos hx, if_pos hx, decide_eq_false (fun e => ha (e.trans hx))]
      · rw [if_neg hx, if_neg hx]
theorem mE_drop (l : List (En × Int)) (f : Fl) : mE (dropL l f) = fun g => if g = f then none else mE l g := by
  funext g
  unfold mE dropL
  rw [find_filter flC f g _ (fun _ => rfl)]
  split <;> rfl
theorem mN_drop (l : List (En × Int)) (f : Fl) : mN (dropL l f) = fun g => if g = f then none else mN l g := by
  funext g
  unfold mN dropL
  rw [find_filter flC f g _ (fun _ => rfl)]
  split <;> rfl
theorem drop_no {K : Nat} {c : TC} (h : CI K c) {p : En × Int} (hp : p ∈ c.l) : dropL c.l (flC p) = c.l.filter fun q => !decide (q.2 = p.2) := by
  unfold dropL
  refine List.filter_congr fun q hq => ?_
  congr 1
  by_cases e : flC q = flC p
  · have := h.same hq hp e; subst this; simp
  · have : q.2 ≠ p.2 := fun e2 => e (by
      have h1 := find_nodup h.no hq (b := p.2) e2
      rw [find_nodup h.no hp (b := p.2) rfl] at h1
      injection h1 with h1; rw [h1])
    simp [e, this]
theorem mF_drop {K : Nat} {c : TC} (h : CI K c) {p : En × Int} (hp : p ∈ c.l) : mF (dropL c.l (flC p)) = fun n => if n = p.2 then none else mF c.l n := by
  funext n
  rw [drop_no h hp]
  unfold mF
  rw [find_filter (fun q : En × Int => q.2) p.2 n _ (fun _ => rfl)]
  split <;> rfl
theorem find_snoc {α β : Type} [DecidableEq β] (g : α → β) (l : List α) (a : α) (hn : ∀ y ∈ l, g y ≠ g a) (x : β) : (l ++ [a]).find? (fun y => decide (g y = x)) = if x = g a then some a else l.find? fun y => decide (g y = x) := by
  rw [List.find?_append]
  by_cases hx : x = g a
  · rw [if_pos hx]
    have : l.find? (fun y => decide (g y = x)) = none := by
      rw [List.find?_eq_none]
      intro y hy; simpa using fun e => hn y hy (e.trans hx)
    rw [this]; simp [hx]
  · rw [if_neg hx]
    have : ([a] : List α).find? (fun y => decide (g y = x)) = none := by simp [show ¬ g a = x from fun e => hx e.symm]
    rw [this]; simp
theorem mE_put {c : TC} {e : En} (no : Int) : mE (dropL c.l e.fl ++ [(e, no)]) = fun g => if g = e.fl then some (.agg (arrN e)) else mE (dropL c.l e.fl) g := by
  funext g
  unfold mE
  rw [find_snoc flC _ (e, no) (fun y hy => (mem_dropL.1 hy).2)]
  split <;> rfl
theorem mN_put {c : TC} {e : En} (no : Int) : mN (dropL c.l e.fl ++ [(e, no)]) = fun g => if g = e.fl then some (.int .i64 no) else mN (dropL c.l e.fl) g := by
  funext g
  unfold mN
  rw [find_snoc flC _ (e, no) (fun y hy => (mem_dropL.1 hy).2)]
  split <;> rfl
theorem mF_put {K : Nat} {c : TC} (h : CI K c) {e : En} : mF (dropL c.l e.fl ++ [(e, c.last + 1)]) = fun n => if n = c.last + 1 then some e.fl.v else mF (dropL c.l e.fl) n := by
  funext n
  unfold mF
  rw [find_snoc (fun q : En × Int => q.2) _ (e, c.last + 1) (fun y hy e' => by have := (h.lo y (mem_dropL.1 hy).1).2; simp only at e'; omega)]
  split <;> rfl
end Go.Proofs.Ytgbdbeaflilmlaa
