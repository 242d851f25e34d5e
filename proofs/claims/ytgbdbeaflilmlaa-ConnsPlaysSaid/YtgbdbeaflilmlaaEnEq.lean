/-
  '==' of two entries. Condition: each number is one of its kind.
-/
import Derived.Test.YtgbdbeaflilmlaaOpen30
set_option linter.unusedVariables false
set_option linter.unusedSimpArgs false
namespace Go.Proofs.Ytgbdbeaflilmlaa
open Go.RowKit Go.Maps Go.WideMaps Go.WideShapes

theorem keyLits_u32 {d : Nat} {x : Int} (h : (Lit.int .u32 x).wf = true) : Try.prog.keyLits (d + 1) 92 [.int .u32 x] = some [.int .u32 x] := by
  simp [Program.keyLits, Try.underlying92, h]
def litsF (f : Fl) : List Lit := litsA f.src ++ (.int .i64 f.sport :: (litsA f.dst ++ [.int .i64 f.dport]))
set_option maxRecDepth 100000 in
theorem keyLits_fl {d : Nat} {f : Fl} (h : okF f) : Try.prog.keyLits (d + 3) 73 (encF f) = some (litsF f) := by
  have hcA : Try.prog.cellsOf 71 = 16 := by kernel_rfl
  have hcI : Try.prog.cellsOf 3 = 1 := by kernel_rfl
  have hcF : Try.prog.cellsOf 73 = 34 := by kernel_rfl
  unfold Program.keyLits
  simp only [Try.underlying73]
  rw [if_pos ⟨by rw [hcF]; rfl, by simp⟩]
  have g0 : ((encF f).drop 0).take 16 = encA f.src := rfl
  have g1 : ((encF f).drop 16).take 1 = [.int .i64 f.sport] := rfl
  have g2 : ((encF f).drop 17).take 16 = encA f.dst := rfl
  have g3 : ((encF f).drop 33).take 1 = [.int .i64 f.dport] := rfl
  have k0 := keyLits_ad (d := d) h.1
  have k1 := keyLits_int (d := d + 1) h.2.1
  have k2 := keyLits_ad (d := d) h.2.2.1
  have k3 := keyLits_int (d := d + 1) h.2.2.2
  simp only [List.mapM_cons, List.mapM_nil, hcA, hcI, g0, g1, g2, g3]
  rw [show d + 2 = d + 1 + 1 from rfl] at *
  rw [k0, k1, k2, k3]
  simp [litsF]
theorem typesFour : ∃ d, Try.prog.types.size + 1 = d + 4 := ⟨Try.prog.types.size - 3, by have : 3 ≤ Try.prog.types.size := of_decide_eq_true (by kernel_rfl); omega⟩
def cellsC (e : En) : List Value := [.int .i64 e.st, .int .u32 e.cf, .int .u32 e.co, .int .u32 e.cn, .int .u32 e.cs, .int .i64 e.cg, .int .u32 e.cm]
def litsC (e : En) : List Lit := [.int .i64 e.st, .int .u32 e.cf, .int .u32 e.co, .int .u32 e.cn, .int .u32 e.cs, .int .i64 e.cg, .int .u32 e.cm]
def keyE (e : En) : Lit := .string (keyBytes (litsF e.fl ++ (.int .i64 e.kind :: .int .u32 e.first :: .int .i64 e.floor :: .int .i64 e.passed :: .int .i64 e.til :: litsC e)))
theorem arrN_inj {e f : En} (h : Value.agg (arrN e) = .agg (arrN f)) : e = f := by
  obtain ⟨⟨A, p, B, q⟩, _, _, _, _, _, _, _, _, _, _, _, _⟩ := e
  obtain ⟨⟨C, r, D, s⟩, _, _, _, _, _, _, _, _, _, _, _, _⟩ := f
  cases A; cases B; cases C; cases D
  simpa [arrN, and_assoc] using h
set_option maxRecDepth 100000 in
theorem keyLits_cn {d : Nat} {e : En} (h : okN e) : Try.prog.keyLits (d + 2) 94 (cellsC e) = some (litsC e) := by
  have hcI : Try.prog.cellsOf 3 = 1 := by kernel_rfl
  have hcU : Try.prog.cellsOf 92 = 1 := by kernel_rfl
  have hcC : Try.prog.cellsOf 94 = 7 := by kernel_rfl
  unfold Program.keyLits
  simp only [Try.underlying94]
  rw [if_pos ⟨by rw [hcC]; rfl, by simp⟩]
  have g0 : ((cellsC e).drop 0).take 1 = [.int .i64 e.st] := rfl
  have g1 : ((cellsC e).drop 1).take 1 = [.int .u32 e.cf] := rfl
  have g2 : ((cellsC e).drop 2).take 1 = [.int .u32 e.co] := rfl
  have g3 : ((cellsC e).drop 3).take 1 = [.int .u32 e.cn] := rfl
  have g4 : ((cellsC e).drop 4).take 1 = [.int .u32 e.cs] := rfl
  have g5 : ((cellsC e).drop 5).take 1 = [.int .i64 e.cg] := rfl
  have g6 : ((cellsC e).drop 6).take 1 = [.int .u32 e.cm] := rfl
  simp only [List.mapM_cons, List.mapM_nil, hcU, hcI, g0, g1, g2, g3, g4, g5, g6]
  rw [keyLits_int (d := d) h.st, keyLits_u32 (d := d) h.cf, keyLits_u32 (d := d) h.co, keyLits_u32 (d := d) h.cn, keyLits_u32 (d := d) h.cs, keyLits_int (d := d) h.cg, keyLits_u32 (d := d) h.cm]
  simp [litsC]
set_option maxRecDepth 100000 in
theorem key_en {e : En} (h : okN e) : keyOf Try.prog 96 (.agg (arrN e)) = some (keyE e) := by
  have hcF : Try.prog.cellsOf 73 = 34 := by kernel_rfl
  have hcI : Try.prog.cellsOf 3 = 1 := by kernel_rfl
  have hcU : Try.prog.cellsOf 92 = 1 := by kernel_rfl
  have hcC : Try.prog.cellsOf 94 = 7 := by kernel_rfl
  have hcE : Try.prog.cellsOf 96 = 46 := by kernel_rfl
  have hkE : Try.prog.keyType 96 = true := by kernel_rfl
  obtain ⟨d, hd⟩ := typesFour
  unfold keyOf
  simp only [Try.underlying96]
  rw [if_pos (by simp [hkE, Value.formed, Try.underlying96, hcE]), hd]
  have e1 : (Value.agg (arrN e)).cells.toList = encN e := rfl
  rw [e1]
  unfold Program.keyLits
  simp only [Try.underlying96]
  rw [if_pos ⟨by rw [hcE]; rfl, by simp⟩]
  have g0 : ((encN e).drop 0).take 34 = encF e.fl := rfl
  have g1 : ((encN e).drop 34).take 1 = [.int .i64 e.kind] := rfl
  have g2 : ((encN e).drop 35).take 1 = [.int .u32 e.first] := rfl
  have g3 : ((encN e).drop 36).take 1 = [.int .i64 e.floor] := rfl
  have g4 : ((encN e).drop 37).take 1 = [.int .i64 e.passed] := rfl
  have g5 : ((encN e).drop 38).take 1 = [.int .i64 e.til] := rfl
  have g6 : ((encN e).drop 39).take 7 = cellsC e := rfl
  simp only [List.mapM_cons, List.mapM_nil, hcF, hcU, hcI, hcC, g0, g1, g2, g3, g4, g5, g6]
  rw [keyLits_fl (d := d) h.fl, keyLits_int (d := d + 2) h.kind, keyLits_u32 (d := d + 2) h.first, keyLits_int (d := d + 2) h.floor, keyLits_int (d := d + 2) h.passed, keyLits_int (d := d + 2) h.til, keyLits_cn (d := d + 1) h]
  simp [keyE]
theorem lawEn : KeyLaw Try.prog 96 := deep_law_laid laidOutV (m := 5) (by omega) (of_decide_eq_true (by kernel_rfl)) (by kernel_rfl) (by kernel_rfl)
/-- '==' of two entries. -/
theorem eq_en (w : World) {e f : En} (he : okN e) (hf : okN f) : (Op.equalIn 10000 96 (.agg (arrN e)) (.agg (arrN f))).run Try.prog w = .ok (decide (e = f)) w := by
  obtain ⟨r, hr, hi⟩ := run_equal_deep w (m := 5) (by omega) (k := 96) (by kernel_rfl) (by kernel_rfl) (key_en he) (key_en hf)
  have e1 : r = decide (e = f) := by
    by_cases h : e = f
    · rw [decide_eq_true h]; exact hi.2 (by rw [h])
    · rw [decide_eq_false h]
      cases r with
      | false => rfl
      | true =>
        have h2 := hi.1 rfl
        exact absurd (arrN_inj (lawEn.inj (key_en he) (by rw [h2]; exact key_en hf))) h
  rw [← e1]; exact hr
set_option maxRecDepth 100000 in
theorem keyLits_cn2 {d : Nat} {e : En} (h : okN e) : Try.prog.keyLits (d + 2) 113 (cellsC e) = some (litsC e) := by
  have hcI : Try.prog.cellsOf 3 = 1 := by kernel_rfl
  have hcU : Try.prog.cellsOf 92 = 1 := by kernel_rfl
  have hcC : Try.prog.cellsOf 113 = 7 := by kernel_rfl
  unfold Program.keyLits
  simp only [Try.underlying113]
  rw [if_pos ⟨by rw [hcC]; rfl, by simp⟩]
  have g0 : ((cellsC e).drop 0).take 1 = [.int .i64 e.st] := rfl
  have g1 : ((cellsC e).drop 1).take 1 = [.int .u32 e.cf] := rfl
  have g2 : ((cellsC e).drop 2).take 1 = [.int .u32 e.co] := rfl
  have g3 : ((cellsC e).drop 3).take 1 = [.int .u32 e.cn] := rfl
  have g4 : ((cellsC e).drop 4).take 1 = [.int .u32 e.cs] := rfl
  have g5 : ((cellsC e).drop 5).take 1 = [.int .i64 e.cg] := rfl
  have g6 : ((cellsC e).drop 6).take 1 = [.int .u32 e.cm] := rfl
  simp only [List.mapM_cons, List.mapM_nil, hcU, hcI, g0, g1, g2, g3, g4, g5, g6]
  rw [keyLits_int (d := d) h.st, keyLits_u32 (d := d) h.cf, keyLits_u32 (d := d) h.co, keyLits_u32 (d := d) h.cn, keyLits_u32 (d := d) h.cs, keyLits_int (d := d) h.cg, keyLits_u32 (d := d) h.cm]
  simp [litsC]
set_option maxRecDepth 100000 in
theorem key_en2 {e : En} (h : okN e) : keyOf Try.prog 115 (.agg (arrN e)) = some (keyE e) := by
  have hcF : Try.prog.cellsOf 73 = 34 := by kernel_rfl
  have hcI : Try.prog.cellsOf 3 = 1 := by kernel_rfl
  have hcU : Try.prog.cellsOf 92 = 1 := by kernel_rfl
  have hcC : Try.prog.cellsOf 113 = 7 := by kernel_rfl
  have hcE : Try.prog.cellsOf 115 = 46 := by kernel_rfl
  have hkE : Try.prog.keyType 115 = true := by kernel_rfl
  obtain ⟨d, hd⟩ := typesFour
  unfold keyOf
  simp only [Try.underlying115]
  rw [if_pos (by simp [hkE, Value.formed, Try.underlying115, hcE]), hd]
  have e1 : (Value.agg (arrN e)).cells.toList = encN e := rfl
  rw [e1]
  unfold Program.keyLits
  simp only [Try.underlying115]
  rw [if_pos ⟨by rw [hcE]; rfl, by simp⟩]
  have g0 : ((encN e).drop 0).take 34 = encF e.fl := rfl
  have g1 : ((encN e).drop 34).take 1 = [.int .i64 e.kind] := rfl
  have g2 : ((encN e).drop 35).take 1 = [.int .u32 e.first] := rfl
  have g3 : ((encN e).drop 36).take 1 = [.int .i64 e.floor] := rfl
  have g4 : ((encN e).drop 37).take 1 = [.int .i64 e.passed] := rfl
  have g5 : ((encN e).drop 38).take 1 = [.int .i64 e.til] := rfl
  have g6 : ((encN e).drop 39).take 7 = cellsC e := rfl
  simp only [List.mapM_cons, List.mapM_nil, hcF, hcU, hcI, hcC, g0, g1, g2, g3, g4, g5, g6]
  rw [keyLits_fl (d := d) h.fl, keyLits_int (d := d + 2) h.kind, keyLits_u32 (d := d + 2) h.first, keyLits_int (d := d + 2) h.floor, keyLits_int (d := d + 2) h.passed, keyLits_int (d := d + 2) h.til, keyLits_cn2 (d := d + 1) h]
  simp [keyE]
theorem lawEn2 : KeyLaw Try.prog 115 := deep_law_laid laidOutV (m := 5) (by omega) (of_decide_eq_true (by kernel_rfl)) (by kernel_rfl) (by kernel_rfl)
/-- '==' of two entries. -/
theorem eq_en2 (w : World) {e f : En} (he : okN e) (hf : okN f) : (Op.equalIn 10000 115 (.agg (arrN e)) (.agg (arrN f))).run Try.prog w = .ok (decide (e = f)) w := by
  obtain ⟨r, hr, hi⟩ := run_equal_deep w (m := 5) (by omega) (k := 115) (by kernel_rfl) (by kernel_rfl) (key_en2 he) (key_en2 hf)
  have e1 : r = decide (e = f) := by
    by_cases h : e = f
    · rw [decide_eq_true h]; exact hi.2 (by rw [h])
    · rw [decide_eq_false h]
      cases r with
      | false => rfl
      | true =>
        have h2 := hi.1 rfl
        exact absurd (arrN_inj (lawEn2.inj (key_en2 he) (by rw [h2]; exact key_en2 hf))) h
  rw [← e1]; exact hr
end Go.Proofs.Ytgbdbeaflilmlaa
