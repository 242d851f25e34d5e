/-
  THE FRAME OF A ROW THAT LISTS PACKAGE-LEVEL VARIABLES (the scripts' rows: seven of them): what they give a walk (Gl), and a world that holds them. After the kit's worked text of the joined row over fport.
-/
import Derived.Test.YtljgemknccodeaaDoorFrame
import Derived.Test.YtljgemknccodeaaDoorScG
import Derived.Deep.DeepHandedRow
import Derived.Deep.DeepWitnessRowRef
import Derived.Lib.LaidIn
import Derived.Lib.LaidTab
import Derived.Stop.LaidErr
import Derived.Shelf.Vars
import Derived.Lib.LaidU8
import GoSem.PinnedTables
set_option linter.unusedVariables false
set_option linter.unusedSimpArgs false
namespace Go.Proofs.YtljgemknccodeaaDoor
open Go.ChangeShapes Go.WideShapes Go.ChangeAt Go.RowKit Go.Lib

theorem star46 : "*" ++ "errors.errorString" = "*errors.errorString" := by decide
theorem rowErr (u : TypeId) (h : Tryd.prog.typeName? 3 u = some "*errors.errorString") : u = 124 :=
  typeName_ptr_named (nm := "errors.errorString") (by rw [star46]; kernel_rfl) (by kernel_rfl) (by decide) u (by rw [star46]; exact h)
abbrev laid46 : List (String × DataW Unit) := Rows.scriptReadsRow.laid
/-- A world that holds them: the settled one with two blocks more. -/
noncomputable def laidWorld (os : Os) : World :=
  let N := (World.settled Tryd.prog os).heap.size
  let w0 := World.holding Tryd.prog os ⟨#[.cells #[.string ⟨#[105, 110, 118, 97, 108, 105, 100, 32, 115, 121, 110, 116, 97, 120]⟩] 126, .cells #[.string ⟨#[118, 97, 108, 117, 101, 32, 111, 117, 116, 32, 111, 102, 32, 114, 97, 110, 103, 101]⟩] 126], #[], []⟩
  let put (h : Array Obj) (g : Nat) (cs : Array Value) : Array Obj := h.modify g fun
    | .cells _ t frozen => .cells cs t frozen
    | o => o
  let h0 := put (put w0.heap 1 #[.iface 124 (.pointer (some ⟨N, 0, none⟩))]) 2 #[.iface 124 (.pointer (some ⟨N + 1, 0, none⟩))]
  let h1 := put h0 3 (Lib.pow10Tab.map fun z => Value.int .u64 z).toArray
  let h2 := put h1 4 (Go.Pinned.utf8FirstZ.map fun (z : Nat) => Value.int .u8 z).toArray
  let h3 := put h2 5 ((List.range 16).flatMap fun i => [Value.int .u8 (Lib.accLo i), Value.int .u8 (Lib.accHi i)]).toArray
  let h4 := put h3 6 (([0, 1, 28, 2, 29, 14, 24, 3, 30, 22, 20, 15, 25, 17, 4, 8, 31, 27, 13, 23, 21, 19, 16, 7, 26, 12, 18, 6, 11, 5, 10, 9] : List Nat).map fun (z : Nat) => Value.int .u8 z).toArray
  let h5 := put h4 7 (([0, 1, 56, 2, 57, 49, 28, 3, 61, 58, 42, 50, 38, 29, 17, 4, 62, 47, 59, 36, 45, 43, 51, 22, 53, 39, 33, 30, 24, 18, 12, 5, 63, 55, 48, 27, 60, 41, 37, 16, 46, 35, 44, 21, 52, 32, 23, 11, 54, 26, 40, 15, 34, 20, 31, 10, 25, 14, 19, 9, 13, 8, 7, 6] : List Nat).map fun (z : Nat) => Value.int .u8 z).toArray
  { w0 with heap := h5 }
noncomputable abbrev N46 : Nat := (World.settled Tryd.prog default).heap.size
set_option maxRecDepth 1000000 in
theorem laid_in (os : Os) (args : Array Value) : LaidIn Tryd.prog ((laidWorld os).forCall (fun _ _ => 0) ⟨#[], args, []⟩).memory laid46 [1, 2, 3, 4, 5, 6, 7, N46, N46 + 1] :=
  LaidIn.of_run [1, 2, 3, 4, 5, 6, 7, N46, N46 + 1] 8 (by kernel_rfl) (by kernel_rfl) (by kernel_rfl) (by kernel_rfl)
theorem laid_met (os : Os) (args : Array Value) : laidMet Tryd.prog laid46 ((laidWorld os).forCall (fun _ _ => 0) ⟨#[], args, []⟩).memory := (laid_in os args).met
/-- What the listed variables, and the world's shape, give a walk. -/
theorem gl_of {W : World} (h : laidMetH Tryd.prog laid46 W) (hsh : W.ShapedOpen Tryd.prog) : Gl W := by
  have hL : laidMet Tryd.prog laid46 W := h
  have h2 : laidMet Tryd.prog (laid46.drop 2) W := hL.tail.tail
  have h4 : laidMet Tryd.prog (laid46.drop 4) W := hL.tail.tail.tail.tail
  have e2 : laid46.drop 2 = ("internal/strconv.uint64pow10", tabData .u64 pow10Tab) :: laid46.drop 3 := by kernel_rfl
  rw [e2] at h2
  obtain ⟨a2, t2, hv2, _⟩ := laid_sentinel (g := 2) h4 (by kernel_rfl) (by kernel_rfl) Tryd.underlying71 rowErr Tryd.underlying124 Tryd.underlying126 rfl rfl Tryd.underlying9 (by kernel_rfl) (by kernel_rfl)
  obtain ⟨a1, t1, hv1, _⟩ := laid_sentinel (g := 1) h4.tail (by kernel_rfl) (by kernel_rfl) Tryd.underlying71 rowErr Tryd.underlying124 Tryd.underlying126 rfl rfl Tryd.underlying9 (by kernel_rfl) (by kernel_rfl)
  refine ⟨cell_of_shapedOpen_int (zero := #[.int .i64 0]) hsh (of_decide_eq_true (by kernel_rfl)) (by kernel_rfl) rfl (by kernel_rfl) (by kernel_rfl) Tryd.underlying3, ⟨_, _, World.var?_cell (P := Tryd.prog) (by kernel_rfl) hv1 0⟩, ⟨_, _, World.var?_cell (P := Tryd.prog) (by kernel_rfl) hv2 0⟩, ?_⟩
  exact tabIs_of_head (g := 3) (by kernel_rfl) (by kernel_rfl) Tryd.underlying115 Tryd.underlying82 (by kernel_rfl) (by kernel_rfl) h2
end Go.Proofs.YtljgemknccodeaaDoor
