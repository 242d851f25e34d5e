/-
  WALKS: members by their nodes, in package maglev. Condition: members that can be.
-/
import Derived.Test.YtecblclpchndiaaGreatMagN
import Derived.Test.YtecblclpchndiaaGreatShelfB
import Derived.Test.YtecblclpchndiaaGreatSortK
import Derived.Shelf.SlSortCmp.NoneTotal
set_option linter.unusedVariables false
set_option linter.unusedSimpArgs false
namespace Go.Proofs.YtecblclpchndiaaGreat
open Go.RowKit Go.Sort Go.Proofs Go.Lib Go.Shelf

/-- '==' of a slice against nil. -/
theorem run_eql_slice_nil {P : Program} {t e : TypeId} (hu : P.underlying t = some (.slice e)) (w : World) (A : Option Addr) (n c : Nat) :
    (binOp .eql t (.slice A n c) (.slice none 0 0)).run P w = .ok (.bool A.isNone) w := by
  have h : ∀ d : Nat, (Op.equalIn (d + 1) t (.slice A n c) (.slice none 0 0)).run P w = .ok A.isNone w := fun d => by
    cases A <;> simp [Op.equalIn, run_underlying hu]
  simp only [binOp]
  simp [Op.equal, Op.maxDepth, h 9999]
theorem elM : El Tryz.prog 42 78 (.agg #[.int .i64 0, .int .i64 0]) 2 16 := ⟨Tryz.underlying42, by kernel_rfl, rfl, by omega⟩
def OwM (w : World) (B : Nat) (v : Value) (l : List Mb) : Prop := w.ownsRow B 78 2 v l.length (l.flatMap encM)
theorem flatM_one (l : List Mb) : ∀ u ∈ l.flatMap encM, u.oneCell' = true := flat_one encM_one l
/-- A member of which an int holds the number. -/
abbrev PMb : Type := { x : Mb // 1 ≤ x.node ∧ x.node ≤ 65535 }
instance : Inhabited PMb := ⟨⟨⟨1, 0⟩, by decide⟩⟩
def encPM (x : PMb) : List Value := encM x.1
theorem encPM_len (x : PMb) : (encPM x).length = 2 := rfl
def cfPM (x y : PMb) : Int := x.1.node - y.1.node

set_option maxHeartbeats 400000 in
theorem cmpM (x y : PMb) (W : World) : Calls Tryz.prog 91 #[.agg (encPM x).toArray, .agg (encPM y).toArray] W fun e w' => e = .returned (.int .i64 (cfPM x y)) ∧ ∃ q os', w' = grow (W.drewN q) os' := by
  obtain ⟨⟨xn, xw⟩, hx⟩ := x
  obtain ⟨⟨yn, yw⟩, hy⟩ := y
  simp only at hx hy
  obtain ⟨hx1, hx2⟩ := hx
  obtain ⟨hy1, hy2⟩ := hy
  have hw1 : IntKind.i64.wrap (xn - yn) = xn - yn := by rw [IntKind.wrap_i64]; omega
  simp only [encPM, encM, cfPM]
  clear hx1 hx2 hy1 hy2
  go_enter Tryz.func91, Tryz.ntmps91
  go_wp2
  go_ret
  exact ⟨rfl, 0, _, by rw [alloc_eq_grow, alloc_eq_grow, grow_grow]; rfl⟩
theorem ltPM (x y : PMb) : ltOf cfPM x y = decide (x.1.node < y.1.node) := by
  unfold ltOf cfPM
  by_cases h : x.1.node < y.1.node
  · simp [h]; omega
  · simp [h]; omega
theorem swoPM : SWO (ltOf cfPM) where
  irrefl x := by rw [ltPM]; simp
  trans x y z h1 h2 := by rw [ltPM] at *; simp at *; omega
  ntrans x y z h1 h2 := by rw [ltPM] at *; simp at *; omega

/-- By their nodes. -/
def SrtM (l : List Mb) : Prop := (nodesM l).Pairwise (· < ·)
theorem srtM_one : ∀ {l l' : List Mb}, SrtM l → SrtM l' → l.Perm l' → l = l'
  | [], l', _, _, hp => (List.nil_perm.1 hp).symm
  | x :: l, [], _, _, hp => absurd hp.length_eq (by simp)
  | x :: l, y :: l', h1, h2, hp => by
    unfold SrtM nodesM at h1 h2
    rw [List.map_cons, List.pairwise_cons] at h1 h2
    have hxy : x = y := by
      have hx : x ∈ y :: l' := hp.mem_iff.1 (List.mem_cons_self ..)
      have hy : y ∈ x :: l := hp.mem_iff.2 (List.mem_cons_self ..)
      rcases List.mem_cons.1 hx with e | hx
      · exact e
      · rcases List.mem_cons.1 hy with e | hy
        · exact e.symm
        · have a := h2.1 x.node (List.mem_map.2 ⟨x, hx, rfl⟩)
          have b := h1.1 y.node (List.mem_map.2 ⟨y, hy, rfl⟩)
          omega
    subst hxy
    rw [srtM_one h1.2 h2.2 ((List.perm_cons x).1 hp)]
theorem sortM_any {w : World} {base : Nat} {v : Value} {L : List Mb} (hown : OwM w base v L) (hpos : ∀ r ∈ L, 1 ≤ r.node ∧ r.node ≤ 65535) (hnd : (nodesM L).Nodup) (hlen : L.length ≤ 1000) :
    Calls Tryz.prog 90 #[v, .func (.func 91) #[] #[]] w fun e w' => e = .returned (.tuple #[]) ∧ ∃ L', L'.Perm L ∧ SrtM L' ∧ SlM w' base v L' ∧ Chg v.ownBlock.toList w w' := by
  have eg : ∀ args w, (callFunc 91 args).run Tryz.prog w = .ok (.enter 91 args) w := enters_of Tryz.func91 (by kernel_rfl) rfl
  rcases hown.2 with ⟨rfl, h0⟩ | ⟨g, cap, cur, rfl, hbase, hb, h1, h2, h3, h4⟩
  · obtain rfl : L = [] := List.eq_nil_of_length_eq_zero h0
    have hcon := AnyF.slices_SortFunc_none Tryz.sortMb none 0 (.func (.func 91) #[] #[]) w
    refine hcon.mono ?_
    rintro e w' ⟨rfl, rfl⟩
    exact ⟨rfl, [], List.Perm.refl _, by simp [SrtM, nodesM], Sl.nil _ _ _, Chg.refl _ _⟩
  · obtain ⟨d, hd⟩ : ∃ d : List PMb, d.map (·.1) = L := by
      refine ⟨L.attach.map fun r => ⟨r.1, hpos r.1 r.2⟩, ?_⟩
      rw [List.map_map]
      simp [Function.comp_def]
    have hdl : d.length = L.length := by rw [← hd, List.length_map]
    have hfl : L.flatMap encM = d.flatMap encPM := by rw [← hd, List.flatMap_map]; rfl
    have hH : HoldsK encPM 2 w g 0 d.toArray := holdsK_own encPM_len (by omega) hb (by rw [hdl, ← hfl]; exact h4)
    have hgl : g < w.heap.size := (Array.getElem?_eq_some_iff.1 hb).1
    have hcon := AnyQ.slices_SortFunc Tryz.sortMb 2 Tryz.isAgg78 Tryz.sizeOf78 encPM encPM_len (fun x => encM_one x.1) cfPM swoPM 91 #[] g 0 cap d.toArray w eg
      (fun _ _ _ _ x y => cmpM x y _) hH hgl (by simp; omega)
    have hsz : d.toArray.size = L.length := by simp [hdl]
    rw [hsz] at hcon
    refine Calls.mono hcon ?_
    rintro e w' ⟨rfl, d', n, os, hp, hs, rfl⟩
    rw [← hsz] at hp hs
    obtain ⟨e1, e2, e3⟩ := sorted_of hp hs
    have e2' : d'.toList.Perm d := by simpa using e2
    have hH' := holdsK_sortWorldK encPM 2 w g 0 n d.toArray d' os hgl hH e1
    have hperm : (d'.toList.map (·.1)).Perm L := by rw [← hd]; exact e2'.map _
    refine ⟨rfl, d'.toList.map (·.1), hperm, ?_, ?_, chg_sortK _ _⟩
    · have hnd' : (nodesM (d'.toList.map (·.1))).Nodup := (hperm.map Mb.node).nodup_iff.2 hnd
      unfold SrtM nodesM at *
      rw [List.map_map] at hnd' ⊢
      have hp1 := List.pairwise_map.1 hnd'
      rw [List.pairwise_map]
      exact (e3.and hp1).imp fun {a b} ⟨h1, h2⟩ => by
        rw [ltPM] at h1
        simp at h1 h2 ⊢
        omega
    · have hl' : (d'.toList.map (·.1)).length = L.length := hperm.length_eq
      have := sl_of_holdsK encPM_len (by omega) hH' hbase (by omega : d'.size ≤ cap)
      unfold SlM
      rw [hl', List.flatMap_map]
      have hs' : d'.size = L.length := by omega
      rw [hs'] at this
      exact this

set_option maxRecDepth 100000 in
set_option maxHeartbeats 1000000 in
theorem cloneM_any {w : World} {B : Nat} {v : Value} {l : List Mb} (h : SlM w B v l) (hl : l.length ≤ 1000) :
    Calls Tryz.prog 89 #[v] w fun e w' => ∃ v', e = .returned v' ∧ OwM w' w.heap.size v' l ∧ Chg [] w w' := by
  obtain ⟨A, c, rfl⟩ := Sl.form h
  cases A with
  | none =>
    have h0 : l = [] := by
      obtain ⟨hl', A', c', hv, hcap, hx⟩ := h
      rcases Nat.eq_zero_or_pos l.length with e | e
      · exact List.eq_nil_of_length_eq_zero e
      · obtain ⟨b, o, hA, _⟩ := hx e
        simp only [Value.slice.injEq] at hv
        rw [← hv.1] at hA
        cases hA
    subst h0
    clear h
    have he := fun w => run_eql_slice_nil (P := Tryz.prog) Tryz.underlying42 w none 0 c
    simp only [Option.isNone_none, List.length_nil] at he ⊢
    go_enter Tryz.func89, Tryz.ntmps89
    go_wp2_with fail
    go_ret
    exact ⟨_, rfl, World.ownsRow_nil .., Chg.refl _ _⟩
  | some ad =>
    have he := fun w => run_eql_slice_nil (P := Tryz.prog) Tryz.underlying42 w (some ad) l.length c
    simp only [Option.isNone_some] at he
    have hA := (Chg.refl [] w).alloc (.cells #[] 78)
    have hown := own_lit (base := w.heap.size) w 78 2 0 #[] (Nat.le_refl _) (by simp [maxLen]) rfl
    have hs : Sl (w.alloc (.cells #[] 78)) B 2 (.slice (some ad) l.length c) l.length (l.flatMap encM) := h.chg0 hA
    have HI := Lib.hid (And.intro hA (And.intro hown hs))
    have HL := Lib.hid (own_lt hown)
    clear h hA hown hs
    have HB1 := Lib.hid (flatM_one l)
    have HO : Hid (∀ (w' : World) v', w'.ownsRow w.heap.size 78 2 v' (0 + l.length) ((#[] : Array Value).toList ++ l.flatMap encM) → OwM w' w.heap.size v' l) := Lib.hid fun w' v' h => by
      unfold OwM
      simpa using h
    go_enter Tryz.func89, Tryz.ntmps89
    go_wp2_with (first
      | (at_builtin; refine wpList_app elM rfl (.tmp 5) (.tmp 6) rfl w.heap.size rfl HI.out.2.1 rfl HI.out.2.2 HB1.out (by unfold maxLen; omega) (by omega) (by simp) ?_; intro v1 w1 hown1 hc1 hb1)
      | fail)
    go_ret
    exact ⟨_, rfl, HO.out _ _ hown1, HI.out.1.trans' hc1 (fun x hx => .inr (HL.out x hx).1)⟩

set_option maxRecDepth 100000 in
set_option maxHeartbeats 1000000 in
theorem byNode_any {w : World} {B : Nat} {v : Value} {l : List Mb} (h : SlM w B v l) (hok : OkM l) :
    Calls Tryz.prog 77 #[v] w fun e w' => ∃ v' L, e = .returned v' ∧ L.Perm l ∧ SrtM L ∧ SlM w' w.heap.size v' L ∧ Chg [] w w' := by
  have hlen := hok.len
  have HF := Lib.hid (cloneM_any h (by omega))
  have HS := Lib.hid (fun W base v (ho : OwM W base v l) => sortM_any ho (fun r hr => by have := hok.ok r hr; omega) hok.nd (by omega))
  clear h hok
  go_enter Tryz.func77, Tryz.ntmps77
  go_wp2_with fail
  refine HF.out.mono ?_
  rintro e w1 ⟨v1, rfl, hown, hc1⟩
  have F2 := Lib.hid (HS.out _ _ _ hown)
  have HL := Lib.hid (own_lt hown)
  clear HF HS hown
  go_wp2_with fail
  refine F2.out.mono ?_
  rintro e w2 ⟨rfl, L, hp, hs, hsl, hc2⟩
  go_wp2_with fail
  go_ret
  exact ⟨_, L, rfl, hp, hs, hsl, hc1.trans' hc2 (fun x hx => .inr (HL.out x hx).1)⟩
end Go.Proofs.YtecblclpchndiaaGreat
