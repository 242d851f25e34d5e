/-
  No cell of these rows narrows 'for every input' (looked for: loops, veiled, ifaces, maps, wideKeys, modest, calm, conditions, laid).
  DERIVED. THE GIVEN ROWS OF THIS SEAT. 8 by the template 'for every input the law returns true; each argument reads behind the call as it read before'; 0 by the template 'total and deterministic' (their statements: YtgbdbeaflilmlaaTotals.lean).
  GIVEN WITH THE SEED: the statements are not yours to turn. If you find one false, say at which input.
  Laid BY PROGRAM, IN A SANDBOX (cutbox-rows.mjs): the forced cells as the released guide's own fill.sh prints them over the translation 65057593fd9a7c62… (all of the seat's roots in one cut). By AI agents, Wed Nov 11 2026. No macro, syntax, notation, axiom, sorry.
-/
import Derived.Test.YtgbdbeaflilmlaaChecked
import GoSem.Claim
import GoSem.ClaimJoined
import GoSem.ClaimMapViews
import Derived.JoinedTies
import Derived.KernelRfl
namespace Go.Proofs.Ytgbdbeaflilmlaa
/- THE CELL 'sum', in the pinned program and in every row, IS THE sha256 OF THE DUMP (.gsa) THAT YtgbdbeaflilmlaaProg.lean LOADS. Nothing in Lean hashes anything: it is a label: what it is worth is what the hold of that sum in a sandbox is worth. -/
noncomputable def Try.pinned : Pinned := { name := "ytgbdbeaflilmlaa", sum := "65057593fd9a7c62d01e0fa6022719f7dce5ee4d7887d42acf09e27e81ff1bf8", checked := Try.checked }
namespace Rows
def none {H : Type} : Left H := { results := [], args := [] }

/-- 'harrierlaw36.HealthStays': WHATEVER THE INPUT: true; the input reads as it did. -/
def healthStaysSpec : ChangeSpec := { name := "healthStays", fn := fun _ => fun
  | [d1, d2, d3] => { results := [.lit (.bool true)], args := [d1, d2, d3] }
  | _ => none }
def healthStaysRow : OpenClaim := { program := "ytgbdbeaflilmlaa", sum := "65057593fd9a7c62d01e0fa6022719f7dce5ee4d7887d42acf09e27e81ff1bf8", func := "harrier/harrierlaw36.HealthStays", spec := "healthStays", unfollowed := true, recurses := true, plainKeys := false, apart := false }
def HealthStaysSaid : Prop := healthStaysRow.holds Try.pinned (OpenSpec.ofChange healthStaysSpec)

/-- ITS FALSE NEIGHBOUR: 'it returns false'. Refute it at one input. -/
def healthStaysWrong : ChangeSpec := { name := "healthStays", fn := fun _ => fun
  | [d1, d2, d3] => { results := [.lit (.bool false)], args := [d1, d2, d3] }
  | _ => none }
def HealthStaysWrongFalsely : Prop := healthStaysRow.holds Try.pinned (OpenSpec.ofChange healthStaysWrong)

/-- 'harrierlaw36.HealthPlays': WHATEVER THE INPUT: true; the input reads as it did. -/
def healthPlaysSpec : ChangeSpec := { name := "healthPlays", fn := fun _ => fun
  | [d] => { results := [.lit (.bool true)], args := [d] }
  | _ => none }
def healthPlaysRow : OpenClaim := { program := "ytgbdbeaflilmlaa", sum := "65057593fd9a7c62d01e0fa6022719f7dce5ee4d7887d42acf09e27e81ff1bf8", func := "harrier/harrierlaw36.HealthPlays", spec := "healthPlays", unfollowed := true, recurses := true, plainKeys := false, apart := false }
def HealthPlaysSaid : Prop := healthPlaysRow.holds Try.pinned (OpenSpec.ofChange healthPlaysSpec)

/-- ITS FALSE NEIGHBOUR: 'it returns false'. Refute it at one input. -/
def healthPlaysWrong : ChangeSpec := { name := "healthPlays", fn := fun _ => fun
  | [d] => { results := [.lit (.bool false)], args := [d] }
  | _ => none }
def HealthPlaysWrongFalsely : Prop := healthPlaysRow.holds Try.pinned (OpenSpec.ofChange healthPlaysWrong)

/-- 'harrierlaw36.HealthNil': WHATEVER THE INPUT: true; the input reads as it did. -/
def healthNilSpec : ChangeSpec := { name := "healthNil", fn := fun _ => fun
  | [d1, d2] => { results := [.lit (.bool true)], args := [d1, d2] }
  | _ => none }
def healthNilRow : OpenClaim := { program := "ytgbdbeaflilmlaa", sum := "65057593fd9a7c62d01e0fa6022719f7dce5ee4d7887d42acf09e27e81ff1bf8", func := "harrier/harrierlaw36.HealthNil", spec := "healthNil", unfollowed := true, recurses := true, plainKeys := false, apart := false }
def HealthNilSaid : Prop := healthNilRow.holds Try.pinned (OpenSpec.ofChange healthNilSpec)

/-- ITS FALSE NEIGHBOUR: 'it returns false'. Refute it at one input. -/
def healthNilWrong : ChangeSpec := { name := "healthNil", fn := fun _ => fun
  | [d1, d2] => { results := [.lit (.bool false)], args := [d1, d2] }
  | _ => none }
def HealthNilWrongFalsely : Prop := healthNilRow.holds Try.pinned (OpenSpec.ofChange healthNilWrong)

/-- 'harrierlaw44.ModelPlays': WHATEVER THE INPUT: true; the input reads as it did. -/
def modelPlaysSpec : ChangeSpec := { name := "modelPlays", fn := fun _ => fun
  | [d] => { results := [.lit (.bool true)], args := [d] }
  | _ => none }
def modelPlaysRow : OpenClaim := { program := "ytgbdbeaflilmlaa", sum := "65057593fd9a7c62d01e0fa6022719f7dce5ee4d7887d42acf09e27e81ff1bf8", func := "harrier/harrierlaw44.ModelPlays", spec := "modelPlays", inPlace := ["slices.overlaps[int]"], unfollowed := true, recurses := true, plainKeys := false, apart := false }
def ModelPlaysSaid : Prop := modelPlaysRow.holds Try.pinned (OpenSpec.ofChange modelPlaysSpec)

/-- ITS FALSE NEIGHBOUR: 'it returns false'. Refute it at one input. -/
def modelPlaysWrong : ChangeSpec := { name := "modelPlays", fn := fun _ => fun
  | [d] => { results := [.lit (.bool false)], args := [d] }
  | _ => none }
def ModelPlaysWrongFalsely : Prop := modelPlaysRow.holds Try.pinned (OpenSpec.ofChange modelPlaysWrong)

/-- 'harrierlaw44.ModelNil': WHATEVER THE INPUT: true; the input reads as it did. -/
def modelNilSpec : ChangeSpec := { name := "modelNil", fn := fun _ => fun
  | [d] => { results := [.lit (.bool true)], args := [d] }
  | _ => none }
def modelNilRow : OpenClaim := { program := "ytgbdbeaflilmlaa", sum := "65057593fd9a7c62d01e0fa6022719f7dce5ee4d7887d42acf09e27e81ff1bf8", func := "harrier/harrierlaw44.ModelNil", spec := "modelNil", inPlace := ["slices.overlaps[int]"], unfollowed := true, recurses := true, plainKeys := false, apart := false }
def ModelNilSaid : Prop := modelNilRow.holds Try.pinned (OpenSpec.ofChange modelNilSpec)

/-- ITS FALSE NEIGHBOUR: 'it returns false'. Refute it at one input. -/
def modelNilWrong : ChangeSpec := { name := "modelNil", fn := fun _ => fun
  | [d] => { results := [.lit (.bool false)], args := [d] }
  | _ => none }
def ModelNilWrongFalsely : Prop := modelNilRow.holds Try.pinned (OpenSpec.ofChange modelNilWrong)

/-- 'harrierlaw30.ConnsStays': WHATEVER THE INPUT: true; the input reads as it did. -/
def connsStaysSpec : ChangeSpec := { name := "connsStays", fn := fun _ => fun
  | [d1, d2, d3] => { results := [.lit (.bool true)], args := [d1, d2, d3] }
  | _ => none }
def connsStaysRow : OpenClaim := { program := "ytgbdbeaflilmlaa", sum := "65057593fd9a7c62d01e0fa6022719f7dce5ee4d7887d42acf09e27e81ff1bf8", func := "harrier/harrierlaw30.ConnsStays", spec := "connsStays", unfollowed := true, recurses := true, plainKeys := false, apart := false }
def ConnsStaysSaid : Prop := connsStaysRow.holds Try.pinned (OpenSpec.ofChange connsStaysSpec)

/-- ITS FALSE NEIGHBOUR: 'it returns false'. Refute it at one input. -/
def connsStaysWrong : ChangeSpec := { name := "connsStays", fn := fun _ => fun
  | [d1, d2, d3] => { results := [.lit (.bool false)], args := [d1, d2, d3] }
  | _ => none }
def ConnsStaysWrongFalsely : Prop := connsStaysRow.holds Try.pinned (OpenSpec.ofChange connsStaysWrong)

/-- 'harrierlaw30.ConnsPlays': WHATEVER THE INPUT: true; the input reads as it did. -/
def connsPlaysSpec : ChangeSpec := { name := "connsPlays", fn := fun _ => fun
  | [d1, d2] => { results := [.lit (.bool true)], args := [d1, d2] }
  | _ => none }
def connsPlaysRow : OpenClaim := { program := "ytgbdbeaflilmlaa", sum := "65057593fd9a7c62d01e0fa6022719f7dce5ee4d7887d42acf09e27e81ff1bf8", func := "harrier/harrierlaw30.ConnsPlays", spec := "connsPlays", unfollowed := true, recurses := true, plainKeys := false, apart := false }
def ConnsPlaysSaid : Prop := connsPlaysRow.holds Try.pinned (OpenSpec.ofChange connsPlaysSpec)

/-- ITS FALSE NEIGHBOUR: 'it returns false'. Refute it at one input. -/
def connsPlaysWrong : ChangeSpec := { name := "connsPlays", fn := fun _ => fun
  | [d1, d2] => { results := [.lit (.bool false)], args := [d1, d2] }
  | _ => none }
def ConnsPlaysWrongFalsely : Prop := connsPlaysRow.holds Try.pinned (OpenSpec.ofChange connsPlaysWrong)

/-- 'harrierlaw30.ConnsNil': WHATEVER THE INPUT: true; the input reads as it did. -/
def connsNilSpec : ChangeSpec := { name := "connsNil", fn := fun _ => fun
  | [d] => { results := [.lit (.bool true)], args := [d] }
  | _ => none }
def connsNilRow : OpenClaim := { program := "ytgbdbeaflilmlaa", sum := "65057593fd9a7c62d01e0fa6022719f7dce5ee4d7887d42acf09e27e81ff1bf8", func := "harrier/harrierlaw30.ConnsNil", spec := "connsNil", unfollowed := true, recurses := true, plainKeys := false, apart := false }
def ConnsNilSaid : Prop := connsNilRow.holds Try.pinned (OpenSpec.ofChange connsNilSpec)

/-- ITS FALSE NEIGHBOUR: 'it returns false'. Refute it at one input. -/
def connsNilWrong : ChangeSpec := { name := "connsNil", fn := fun _ => fun
  | [d] => { results := [.lit (.bool false)], args := [d] }
  | _ => none }
def ConnsNilWrongFalsely : Prop := connsNilRow.holds Try.pinned (OpenSpec.ofChange connsNilWrong)

/- THE SECOND FORM. 'bulk': how many values and letters a reading holds, each counted each time it is reached (what is shared counts as often as it is met; a slice's spare places count too). A statement '..UptoSaid' is the law's where the arguments, and the package variables that the reading takes, are together of bulk at most 1048576: NARROWER than '..Said'. Prove '..Said' where nothing that the law and all that it calls make is longer than what came in: it says more and counts as full. Else prove '..UptoSaid'. A law counts once. -/
mutual
def uptoBulk {H : Type} : DataW H → Nat
  | .lit (.string bytes) => bytes.length + 1
  | .lit _ => 1
  | .nil => 1
  | .ptr d => uptoBulk d + 1
  | .slice elems spare => uptoBulkAll elems + uptoBulkAll spare + 1
  | .agg parts => uptoBulkAll parts + 1
  | .iface _ d => uptoBulk d + 1
  | .map entries => uptoBulkEntries entries + 1
  | .held _ => 1
def uptoBulkAll {H : Type} : List (DataW H) → Nat
  | [] => 0
  | d :: r => uptoBulk d + uptoBulkAll r
def uptoBulkEntries {H : Type} : List (Lit × DataW H) → Nat
  | [] => 0
  | x :: r => uptoBulkEntry x + uptoBulkEntries r
def uptoBulkEntry {H : Type} : Lit × DataW H → Nat
  | (.string bytes, d) => bytes.length + uptoBulk d + 1
  | (_, d) => uptoBulk d + 1
 end
def uptoSmall : (H : Type) → List (DataW H) → Bool := fun _ ds => decide (uptoBulkAll ds ≤ 1048576)
def OpenSpec.upto (s : _root_.Go.ChangeSpec) : _root_.Go.OpenSpec := { _root_.Go.OpenSpec.ofChange s with cond := some uptoSmall }

/-- 'harrierlaw36.HealthStays', WHERE WHAT IT READS IS OF BULK AT MOST 1048576: true; the input reads as it did. -/
def healthStaysUptoRow : OpenClaim := { program := "ytgbdbeaflilmlaa", sum := "65057593fd9a7c62d01e0fa6022719f7dce5ee4d7887d42acf09e27e81ff1bf8", func := "harrier/harrierlaw36.HealthStays", spec := "healthStays", unfollowed := true, recurses := true, plainKeys := false, apart := false, narrowed := true }
def HealthStaysUptoSaid : Prop := healthStaysUptoRow.holds Try.pinned (OpenSpec.upto healthStaysSpec)

/-- 'harrierlaw36.HealthPlays', WHERE WHAT IT READS IS OF BULK AT MOST 1048576: true; the input reads as it did. -/
def healthPlaysUptoRow : OpenClaim := { program := "ytgbdbeaflilmlaa", sum := "65057593fd9a7c62d01e0fa6022719f7dce5ee4d7887d42acf09e27e81ff1bf8", func := "harrier/harrierlaw36.HealthPlays", spec := "healthPlays", unfollowed := true, recurses := true, plainKeys := false, apart := false, narrowed := true }
def HealthPlaysUptoSaid : Prop := healthPlaysUptoRow.holds Try.pinned (OpenSpec.upto healthPlaysSpec)

/-- 'harrierlaw36.HealthNil', WHERE WHAT IT READS IS OF BULK AT MOST 1048576: true; the input reads as it did. -/
def healthNilUptoRow : OpenClaim := { program := "ytgbdbeaflilmlaa", sum := "65057593fd9a7c62d01e0fa6022719f7dce5ee4d7887d42acf09e27e81ff1bf8", func := "harrier/harrierlaw36.HealthNil", spec := "healthNil", unfollowed := true, recurses := true, plainKeys := false, apart := false, narrowed := true }
def HealthNilUptoSaid : Prop := healthNilUptoRow.holds Try.pinned (OpenSpec.upto healthNilSpec)

/-- 'harrierlaw44.ModelPlays', WHERE WHAT IT READS IS OF BULK AT MOST 1048576: true; the input reads as it did. -/
def modelPlaysUptoRow : OpenClaim := { program := "ytgbdbeaflilmlaa", sum := "65057593fd9a7c62d01e0fa6022719f7dce5ee4d7887d42acf09e27e81ff1bf8", func := "harrier/harrierlaw44.ModelPlays", spec := "modelPlays", inPlace := ["slices.overlaps[int]"], unfollowed := true, recurses := true, plainKeys := false, apart := false, narrowed := true }
def ModelPlaysUptoSaid : Prop := modelPlaysUptoRow.holds Try.pinned (OpenSpec.upto modelPlaysSpec)

/-- 'harrierlaw44.ModelNil', WHERE WHAT IT READS IS OF BULK AT MOST 1048576: true; the input reads as it did. -/
def modelNilUptoRow : OpenClaim := { program := "ytgbdbeaflilmlaa", sum := "65057593fd9a7c62d01e0fa6022719f7dce5ee4d7887d42acf09e27e81ff1bf8", func := "harrier/harrierlaw44.ModelNil", spec := "modelNil", inPlace := ["slices.overlaps[int]"], unfollowed := true, recurses := true, plainKeys := false, apart := false, narrowed := true }
def ModelNilUptoSaid : Prop := modelNilUptoRow.holds Try.pinned (OpenSpec.upto modelNilSpec)

/-- 'harrierlaw30.ConnsStays', WHERE WHAT IT READS IS OF BULK AT MOST 1048576: true; the input reads as it did. -/
def connsStaysUptoRow : OpenClaim := { program := "ytgbdbeaflilmlaa", sum := "65057593fd9a7c62d01e0fa6022719f7dce5ee4d7887d42acf09e27e81ff1bf8", func := "harrier/harrierlaw30.ConnsStays", spec := "connsStays", unfollowed := true, recurses := true, plainKeys := false, apart := false, narrowed := true }
def ConnsStaysUptoSaid : Prop := connsStaysUptoRow.holds Try.pinned (OpenSpec.upto connsStaysSpec)

/-- 'harrierlaw30.ConnsPlays', WHERE WHAT IT READS IS OF BULK AT MOST 1048576: true; the input reads as it did. -/
def connsPlaysUptoRow : OpenClaim := { program := "ytgbdbeaflilmlaa", sum := "65057593fd9a7c62d01e0fa6022719f7dce5ee4d7887d42acf09e27e81ff1bf8", func := "harrier/harrierlaw30.ConnsPlays", spec := "connsPlays", unfollowed := true, recurses := true, plainKeys := false, apart := false, narrowed := true }
def ConnsPlaysUptoSaid : Prop := connsPlaysUptoRow.holds Try.pinned (OpenSpec.upto connsPlaysSpec)

/-- 'harrierlaw30.ConnsNil', WHERE WHAT IT READS IS OF BULK AT MOST 1048576: true; the input reads as it did. -/
def connsNilUptoRow : OpenClaim := { program := "ytgbdbeaflilmlaa", sum := "65057593fd9a7c62d01e0fa6022719f7dce5ee4d7887d42acf09e27e81ff1bf8", func := "harrier/harrierlaw30.ConnsNil", spec := "connsNil", unfollowed := true, recurses := true, plainKeys := false, apart := false, narrowed := true }
def ConnsNilUptoSaid : Prop := connsNilUptoRow.holds Try.pinned (OpenSpec.upto connsNilSpec)

end Rows
end Go.Proofs.Ytgbdbeaflilmlaa
