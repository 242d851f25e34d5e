/-
  PLAIN: the steps of a text. MEMORY: rows of steps, each with its bytes. No condition.
-/
import Derived.Test.YtljgemknccodeaaDoorScL
set_option linter.unusedVariables false
set_option linter.unusedSimpArgs false
namespace Go.Proofs.YtljgemknccodeaaDoor
open Go.RowKit

/-- The steps of lines; or the line that is none. -/
def readR : Nat → List Bs → Sum Nat (List St)
  | _, [] => .inr []
  | i, p :: r => if p = [] then readR (i + 1) r else match lineP p with
    | none => .inl (i + 1)
    | some s => match readR (i + 1) r with
      | .inl n => .inl n
      | .inr l => .inr (s :: l)
def readP (t : Bs) : Sum Nat (List St) := readR 0 (spl 10 t)
/-- What comes of steps that were read, and of the rest. -/
def comb (L : List St) : Sum Nat (List St) → Sum Nat (List St)
  | .inl n => .inl n
  | .inr l => .inr (L ++ l)
theorem comb_nil (x : Sum Nat (List St)) : comb [] x = x := by cases x <;> rfl
theorem read_cut (i : Nat) (t : Bs) : readR i (spl 10 t) = readR i ((cutP t).1 :: spl 10 (cutP t).2) := by
  unfold cutP Lib.cut
  rcases Lib.index_spec t [10] with ⟨h1, _⟩ | ⟨j, h1, _⟩
  · rw [if_neg (by omega), spl_miss h1]
    show readR i [t] = readR i (t :: spl 10 [])
    simp only [spl, readR, if_true]
  · rw [if_pos (by omega), spl_hit h1, h1]
    simp
theorem cut_len {t : Bs} (h : t ≠ []) : (cutP t).2.length < t.length := by
  have hp : 0 < t.length := List.length_pos_iff.2 h
  unfold cutP Lib.cut
  rcases Lib.index_spec t [10] with ⟨h1, _⟩ | ⟨j, h1, _⟩
  · rw [if_neg (by omega)]; simpa using hp
  · rw [if_pos (by omega), h1]
    simp
    omega
theorem cut_len1 (t : Bs) : (cutP t).1.length ≤ t.length := by
  unfold cutP Lib.cut
  split
  · simp; omega
  · simp
theorem comb_skip {L : List St} {i : Nat} {r : List Bs} : comb L (readR i ([] :: r)) = comb L (readR (i + 1) r) := by simp [readR]
theorem comb_bad {L : List St} {i : Nat} {p : Bs} {r : List Bs} (hp : p ≠ []) (h : lineP p = none) : comb L (readR i (p :: r)) = .inl (i + 1) := by
  rw [readR, if_neg hp, h]
  rfl
theorem comb_next {L : List St} {i : Nat} {p : Bs} {r : List Bs} {s : St} (hp : p ≠ []) (h : lineP p = some s) : comb L (readR i (p :: r)) = comb (L ++ [s]) (readR (i + 1) r) := by
  rw [readR, if_neg hp, h]
  simp only
  cases readR (i + 1) r with
  | inl n => rfl
  | inr l => simp [comb]
/-! Rows of steps. -/
abbrev SV : Type := St × Value
@[reducible] def encT (x : SV) : List Value := [.int .i64 x.1.kind, .int .i64 x.1.n, .int .i64 x.1.m, .int .i64 x.1.k, x.2]
def blkOf : Value → List Nat
  | .slice (some a) _ _ => [a.block]
  | _ => []
theorem encT_len (x : SV) : (encT x).length = 5 := rfl
def SlT (w : World) (B : Nat) (v : Value) (es : List SV) : Prop := Sl w B 5 v es.length (es.flatMap encT)
def OwT (T : TypeId) (w : World) (B : Nat) (v : Value) (es : List SV) : Prop := w.ownsRow B T 5 v es.length (es.flatMap encT)
/-- The bytes of steps: none lies in a block of the list F. -/
def StsR (w : World) (F : List Nat) (es : List SV) : Prop := ∀ x ∈ es, SlY w 0 x.2 x.1.b ∧ (0 < x.1.b.length → ∀ y ∈ blkOf x.2, y ∉ F ∧ y < w.heap.size)
theorem Sl.far {w w' : World} {B size n : Nat} {v : Value} {xs : List Value} {F : List Nat} (h : Sl w B size v n xs) (hc : Chg F w w') (hF : 0 < n → ∀ y ∈ blkOf v, y ∉ F) : Sl w' B size v n xs := by
  obtain ⟨hl, A, c, rfl, hcap, hx⟩ := h
  refine ⟨hl, A, c, rfl, hcap, fun hn => ?_⟩
  obtain ⟨b, o, rfl, hB, hcell⟩ := hx hn
  exact ⟨b, o, rfl, hB, fun j u hu => hc.cell (hcell j u hu) (hF hn b (by simp [blkOf]))⟩
theorem StsR.chg {w w' : World} {F : List Nat} {es : List SV} (h : StsR w F es) (hc : Chg F w w') : StsR w' F es := fun x hx =>
  ⟨Sl.far (h x hx).1 hc (fun hn y hy => ((h x hx).2 hn y hy).1), fun hn y hy => ⟨((h x hx).2 hn y hy).1, Nat.lt_of_lt_of_le ((h x hx).2 hn y hy).2 hc.size⟩⟩
theorem StsR.chg0 {w w' : World} {F : List Nat} {es : List SV} (h : StsR w F es) (hc : Chg [] w w') : StsR w' F es := h.chg (hc.more (by simp))
theorem StsR.other {w : World} {F G : List Nat} {es : List SV} (h : StsR w F es) (hG : ∀ y ∈ G, y ∈ F ∨ w.heap.size ≤ y) : StsR w G es := fun x hx =>
  ⟨(h x hx).1, fun hn y hy => ⟨fun hyG => by
    rcases hG y hyG with h1 | h1
    · exact ((h x hx).2 hn y hy).1 h1
    · have := ((h x hx).2 hn y hy).2; omega, ((h x hx).2 hn y hy).2⟩⟩
theorem StsR.snoc {w : World} {F : List Nat} {es : List SV} (h : StsR w F es) {x : SV} (hx : SlY w 0 x.2 x.1.b) (h2 : 0 < x.1.b.length → ∀ y ∈ blkOf x.2, y ∉ F ∧ y < w.heap.size) : StsR w F (es ++ [x]) := fun z hz => by
  rcases List.mem_append.1 hz with hz | hz
  · exact h z hz
  · rw [List.mem_singleton] at hz
    subst hz
    exact ⟨hx, h2⟩
/-- The block of bytes that came behind a world is none of its blocks. -/
theorem SlY.fresh {w : World} {B : Nat} {v : Value} {l : Bs} (h : SlY w B v l) (hl : 0 < l.length) : ∀ y ∈ blkOf v, B ≤ y ∧ y < w.heap.size := by
  obtain ⟨_, A, c, rfl, _, hx⟩ := h
  obtain ⟨b, o, rfl, hB, hcell⟩ := hx hl
  intro y hy
  simp [blkOf] at hy
  subst hy
  refine ⟨hB, ?_⟩
  obtain ⟨u, hu⟩ : ∃ u, (l.map yv)[0]? = some u := ⟨_, List.getElem?_eq_getElem (by simpa using hl)⟩
  exact World.block_lt_of_cell? w _ (hcell 0 u hu)
theorem encT_one (x : SV) (h : x.2.oneCell' = true) : ∀ u ∈ encT x, u.oneCell' = true := by
  intro u hu
  simp only [List.mem_cons, List.mem_nil_iff, or_false] at hu
  rcases hu with rfl | rfl | rfl | rfl | rfl
  · rfl
  · rfl
  · rfl
  · rfl
  · exact h
theorem owT_snoc {T : TypeId} {w : World} {B : Nat} {v : Value} {es : List SV} {x : SV} (h : w.ownsRow B T 5 v (es.length + 1) (es.flatMap encT ++ encT x)) : OwT T w B v (es ++ [x]) := by
  unfold OwT
  rw [List.length_append, List.flatMap_append]
  simpa using h
theorem one_t {W : World} {g : Nat} {t : TypeId} {x : SV} (h : Blk W g t (arrSt x.1 x.2)) : Sl W 0 5 (.slice (some ⟨g, 0, none⟩) 1 1) 1 (encT x) :=
  ⟨rfl, _, 1, rfl, Nat.le_refl _, fun _ => ⟨g, 0, rfl, Nat.zero_le _, fun j u hu => by rw [Nat.zero_add, h.cell]; simpa using hu⟩⟩
theorem elT : El Tryd.prog 23 32 (.agg #[.int .i64 0, .int .i64 0, .int .i64 0, .int .i64 0, .slice none 0 0]) 5 56 := ⟨Tryd.underlying23, by kernel_rfl, rfl, by omega⟩
theorem elT46 : El Tryd.prog 27 35 (.agg #[.int .i64 0, .int .i64 0, .int .i64 0, .int .i64 0, .slice none 0 0]) 5 56 := ⟨Tryd.underlying27, by kernel_rfl, rfl, by omega⟩
/-- What the reading of a text is told as. -/
def ReadR (t : Bs) (w w' : World) (e : Ending) : Prop := ∃ v n er es, e = .returned (.tuple #[v, .int .i64 n, .int .i64 er]) ∧ ((er = 0 ∧ n = 0 ∧ readP t = .inr (es.map (·.1))) ∨ (er = 14 ∧ (∃ m : Nat, n = m ∧ readP t = .inl m) ∧ es = [])) ∧ SlT w' 0 v es ∧ StsR w' [] es ∧ Chg [] w w'
end Go.Proofs.YtljgemknccodeaaDoor
