/-
  PLAIN: flows, what they read as as keys, and '==' of two. No condition.
-/
import Derived.Test.YtldgdpekhjignaaGreatLess
set_option linter.unusedVariables false
set_option linter.unusedSimpArgs false
namespace Go.Proofs.YtldgdpekhjignaaGreat
open Go.RowKit Go.Maps Go.WideMaps Go.WideShapes

/-- A flow. -/
structure Fl where
  src : Ad
  sport : Int
  dst : Ad
  dport : Int
deriving DecidableEq, Inhabited
@[reducible] def Fl.v (f : Fl) : Value := .agg #[.int .u8 f.src.a0, .int .u8 f.src.a1, .int .u8 f.src.a2, .int .u8 f.src.a3, .int .u8 f.src.a4, .int .u8 f.src.a5, .int .u8 f.src.a6, .int .u8 f.src.a7, .int .u8 f.src.a8, .int .u8 f.src.a9, .int .u8 f.src.a10, .int .u8 f.src.a11, .int .u8 f.src.a12, .int .u8 f.src.a13, .int .u8 f.src.a14, .int .u8 f.src.a15, .int .i64 f.sport, .int .u8 f.dst.a0, .int .u8 f.dst.a1, .int .u8 f.dst.a2, .int .u8 f.dst.a3, .int .u8 f.dst.a4, .int .u8 f.dst.a5, .int .u8 f.dst.a6, .int .u8 f.dst.a7, .int .u8 f.dst.a8, .int .u8 f.dst.a9, .int .u8 f.dst.a10, .int .u8 f.dst.a11, .int .u8 f.dst.a12, .int .u8 f.dst.a13, .int .u8 f.dst.a14, .int .u8 f.dst.a15, .int .i64 f.dport]
@[reducible] def arrF (f : Fl) : Array Value := #[.int .u8 f.src.a0, .int .u8 f.src.a1, .int .u8 f.src.a2, .int .u8 f.src.a3, .int .u8 f.src.a4, .int .u8 f.src.a5, .int .u8 f.src.a6, .int .u8 f.src.a7, .int .u8 f.src.a8, .int .u8 f.src.a9, .int .u8 f.src.a10, .int .u8 f.src.a11, .int .u8 f.src.a12, .int .u8 f.src.a13, .int .u8 f.src.a14, .int .u8 f.src.a15, .int .i64 f.sport, .int .u8 f.dst.a0, .int .u8 f.dst.a1, .int .u8 f.dst.a2, .int .u8 f.dst.a3, .int .u8 f.dst.a4, .int .u8 f.dst.a5, .int .u8 f.dst.a6, .int .u8 f.dst.a7, .int .u8 f.dst.a8, .int .u8 f.dst.a9, .int .u8 f.dst.a10, .int .u8 f.dst.a11, .int .u8 f.dst.a12, .int .u8 f.dst.a13, .int .u8 f.dst.a14, .int .u8 f.dst.a15, .int .i64 f.dport]
def okF (f : Fl) : Prop := okA f.src ∧ (Lit.int .i64 f.sport).wf = true ∧ okA f.dst ∧ (Lit.int .i64 f.dport).wf = true
def encF (f : Fl) : List Value := encA f.src ++ (.int .i64 f.sport :: (encA f.dst ++ [.int .i64 f.dport]))
theorem encF_len (f : Fl) : (encF f).length = 34 := rfl
theorem Fl.v_eq (f : Fl) : f.v = .agg (encF f).toArray := rfl
theorem encF_one (f : Fl) : ∀ u ∈ encF f, u.oneCell' = true := by
  intro u hu
  simp only [encF, List.mem_append, List.mem_cons, encA, List.mem_map, List.not_mem_nil, or_false] at hu
  rcases hu with ⟨x, _, rfl⟩ | rfl | ⟨x, _, rfl⟩ | rfl <;> rfl
theorem Fl.v_inj {f g : Fl} (h : f.v = g.v) : f = g := by
  obtain ⟨A, p, B, q⟩ := f
  obtain ⟨C, r, D, s⟩ := g
  cases A; cases B; cases C; cases D
  simpa [Fl.v, and_assoc] using h
def keyF (f : Fl) : Lit := .string (keyBytes (litsA f.src ++ (.int .i64 f.sport :: (litsA f.dst ++ [.int .i64 f.dport]))))
theorem typesF : ∃ d, Tryz.prog.types.size + 1 = d + 3 := typesTwo
set_option maxRecDepth 100000 in
theorem key_fl {f : Fl} (h : okF f) : keyOf Tryz.prog 38 f.v = some (keyF f) := by
  have hcA : Tryz.prog.cellsOf 36 = 16 := by kernel_rfl
  have hcI : Tryz.prog.cellsOf 3 = 1 := by kernel_rfl
  have hcF : Tryz.prog.cellsOf 38 = 34 := by kernel_rfl
  have hkF : Tryz.prog.keyType 38 = true := by kernel_rfl
  obtain ⟨d, hd⟩ := typesTwo
  unfold keyOf
  simp only [Tryz.underlying38]
  rw [if_pos (by simp [hkF, Value.formed, Tryz.underlying38, hcF]), hd]
  have e : f.v.cells.toList = encF f := rfl
  rw [e]
  unfold Program.keyLits
  simp only [Tryz.underlying38]
  rw [if_pos ⟨by rw [hcF]; rfl, by simp⟩]
  have g0 : ((encF f).drop 0).take 16 = encA f.src := rfl
  have g1 : ((encF f).drop 16).take 1 = [.int .i64 f.sport] := rfl
  have g2 : ((encF f).drop 17).take 16 = encA f.dst := rfl
  have g3 : ((encF f).drop 33).take 1 = [.int .i64 f.dport] := rfl
  have k0 := keyLits_ad (d := d) h.1
  have k1 := keyLits_int (d := d + 1) h.2.1
  have k2 := keyLits_ad (d := d) h.2.2.1
  have k3 := keyLits_int (d := d + 1) h.2.2.2
  simp only [List.mapM_cons, List.mapM_nil, hcA, hcI, g0, g1, g2, g3]
  rw [show d + 2 = d + 1 + 1 from rfl] at *
  rw [k0, k1, k2, k3]
  simp [keyF]
theorem lawFl : KeyLaw Tryz.prog 38 := deep_law_laid laidOutV (m := 4) (by omega) (of_decide_eq_true (by kernel_rfl)) (by kernel_rfl) (by kernel_rfl)
theorem lawF : Keyed Tryz.prog 38 := Keyed.of_law lawFl
theorem keyF_inj {f g : Fl} (hf : okF f) (hg : okF g) (h : keyF f = keyF g) : f = g := Fl.v_inj (lawFl.inj (key_fl hf) (h ▸ key_fl hg))
/-- '==' of two flows. -/
theorem eq_fl (w : World) {f g : Fl} (hf : okF f) (hg : okF g) : (Op.equalIn 10000 38 f.v g.v).run Tryz.prog w = .ok (decide (f = g)) w := by
  obtain ⟨r, hr, hi⟩ := run_equal_deep w (m := 4) (by omega) (k := 38) (by kernel_rfl) (by kernel_rfl) (key_fl hf) (key_fl hg)
  have e : r = decide (f = g) := by
    by_cases h : f = g
    · rw [decide_eq_true h]; exact hi.2 (by rw [h])
    · rw [decide_eq_false h]
      cases r with
      | false => rfl
      | true => exact absurd (keyF_inj hf hg (hi.1 rfl)) h
  rw [← e]; exact hr
theorem infF {f : Fl} : (Tryz.prog.info? 38).map (·.size) = some (arrF f).size := by
  show _ = some 34
  kernel_rfl
set_option maxRecDepth 100000 in
theorem key_fl_inv {key : Value} {kl : Lit} (h : keyOf Tryz.prog 38 key = some kl) : ∃ f : Fl, okF f ∧ key = f.v ∧ kl = keyF f := by
  have hcA : Tryz.prog.cellsOf 36 = 16 := by kernel_rfl
  have hcI : Tryz.prog.cellsOf 3 = 1 := by kernel_rfl
  have hcF : Tryz.prog.cellsOf 38 = 34 := by kernel_rfl
  obtain ⟨d, hd⟩ := typesTwo
  have h0 := h
  unfold keyOf at h
  simp only [Tryz.underlying38] at h
  split at h
  · next hf =>
    have hform : ∃ cs : Array Value, key = .agg cs ∧ cs.size = 34 := by
      rw [Bool.and_eq_true] at hf
      have := hf.2
      cases key <;> simp [Value.formed, Tryz.underlying38, hcF] at this
      exact ⟨_, rfl, this⟩
    obtain ⟨cs, rfl, hsz⟩ := hform
    have hcs : (Value.agg cs).cells.toList = cs.toList := rfl
    rw [hcs, hd] at h
    have hl : cs.toList.length = 34 := by simpa using hsz
    unfold Program.keyLits at h
    simp only [Tryz.underlying38] at h
    rw [if_pos ⟨by rw [hcF, hl], by simp⟩] at h
    simp only [List.mapM_cons, List.mapM_nil, hcA, hcI] at h
    cases k0 : Tryz.prog.keyLits (d + 2) 36 ((cs.toList.drop 0).take 16) with
    | none => rw [k0] at h; simp at h
    | some l0 =>
      cases k1 : Tryz.prog.keyLits (d + 2) 3 ((cs.toList.drop 16).take 1) with
      | none => rw [k0, k1] at h; simp at h
      | some l1 =>
        cases k2 : Tryz.prog.keyLits (d + 2) 36 ((cs.toList.drop 17).take 16) with
        | none => rw [k0, k1, k2] at h; simp at h
        | some l2 =>
          cases k3 : Tryz.prog.keyLits (d + 2) 3 ((cs.toList.drop 33).take 1) with
          | none => rw [k0, k1, k2, k3] at h; simp at h
          | some l3 =>
            obtain ⟨A, hA, okA'⟩ := keyLits_ad_inv k0 (by simp [hl])
            obtain ⟨B, hB, okB'⟩ := keyLits_ad_inv k2 (by simp [hl])
            have h1 : (cs.toList.drop 16).take 1 = [cs.toList[16]'(by omega)] := by
              rw [List.drop_eq_getElem_cons (by omega)]; rfl
            have h3 : (cs.toList.drop 33).take 1 = [cs.toList[33]'(by omega)] := by
              rw [List.drop_eq_getElem_cons (by omega)]; rfl
            rw [h1] at k1
            rw [h3] at k3
            obtain ⟨p, hp, hw⟩ := keyLits_int_inv Tryz.underlying3 k1
            obtain ⟨q, hq, hw2⟩ := keyLits_int_inv Tryz.underlying3 k3
            have hkey : Value.agg cs = (⟨A, p, B, q⟩ : Fl).v := by
              rw [Fl.v_eq]
              congr 1
              apply Array.ext'
              show cs.toList = encA A ++ (.int .i64 p :: (encA B ++ [.int .i64 q]))
              have e1 : cs.toList = (cs.toList.drop 0).take 16 ++ ((cs.toList.drop 16).take 1 ++ ((cs.toList.drop 17).take 16 ++ (cs.toList.drop 33).take 1)) := by
                rw [List.take_of_length_le (l := cs.toList.drop 33) (by simp [hl])]
                have a1 : (cs.toList.drop 17).take 16 ++ cs.toList.drop 33 = cs.toList.drop 17 := by
                  have := List.take_append_drop 16 (cs.toList.drop 17)
                  rwa [List.drop_drop] at this
                rw [a1]
                have a2 : (cs.toList.drop 16).take 1 ++ cs.toList.drop 17 = cs.toList.drop 16 := by
                  have := List.take_append_drop 1 (cs.toList.drop 16)
                  rwa [List.drop_drop] at this
                rw [a2, List.drop_zero, List.take_append_drop]
              rw [e1, hA, hB, h1, h3, hp, hq]
              simp
            have hok : okF ⟨A, p, B, q⟩ := ⟨okA', hw, okB', hw2⟩
            refine ⟨⟨A, p, B, q⟩, hok, hkey, ?_⟩
            have h2 := key_fl hok
            rw [← hkey, h0] at h2
            injection h2
  · cases h
/-- Flows as keys. -/
def KF : KV Tryz.prog 38 Fl where
  lit := keyF
  ok := okF
  key f _ := by simp [keyF, WideAt.IsKeyLit]
  inj a b ha hb h := keyF_inj ha hb h
  val := Fl.v
  law := lawF
  isk f hf := key_fl hf
  inv v l h := key_fl_inv h
end Go.Proofs.YtldgdpekhjignaaGreat
