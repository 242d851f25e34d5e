/-
  No cell of these rows narrows 'for every input' (looked for: loops, veiled, ifaces, maps, wideKeys, modest, calm, conditions, laid).
  DERIVED. THE GIVEN ROWS OF THIS SEAT. 5 by the template 'for every input the law returns true; each argument reads behind the call as it read before'; 0 by the template 'total and deterministic' (their statements: YtecblclpchndiaaTotals.lean).
  GIVEN WITH THE SEED: the statements are not yours to turn. If you find one false, say at which input.
  Laid BY PROGRAM, IN A SANDBOX (cutbox-rows.mjs): the forced cells as the released guide's own fill.sh prints them over the translation 4c70d89603ad0e02… (all of the seat's roots in one cut). By AI agents, Wed Nov 11 2026. No macro, syntax, notation, axiom, sorry.
-/
import Derived.Test.YtecblclpchndiaaChecked
import GoSem.Claim
import GoSem.ClaimJoined
import GoSem.ClaimMapViews
import Derived.JoinedTies
import Derived.KernelRfl
namespace Go.Proofs.Ytecblclpchndiaa
/- THE CELL 'sum', in the pinned program and in every row, IS THE sha256 OF THE DUMP (.gsa) THAT YtecblclpchndiaaProg.lean LOADS. Nothing in Lean hashes anything: it is a label: what it is worth is what the hold of that sum in a sandbox is worth. -/
noncomputable def Try.pinned : Pinned := { name := "ytecblclpchndiaa", sum := "4c70d89603ad0e0208c5344d287b4ec2c9cd8c3084aeb903da5d86946615133b", checked := Try.checked }
namespace Rows
def none {H : Type} : Left H := { results := [], args := [] }

/-- 'harrierlaw17.MaglevBuilds': WHATEVER THE INPUT: true; the input reads as it did. -/
def maglevBuildsSpec : ChangeSpec := { name := "maglevBuilds", fn := fun _ => fun
  | [d1, d2, d3] => { results := [.lit (.bool true)], args := [d1, d2, d3] }
  | _ => none }
def maglevBuildsRow : OpenClaim := { program := "ytecblclpchndiaa", sum := "4c70d89603ad0e0208c5344d287b4ec2c9cd8c3084aeb903da5d86946615133b", func := "harrier/harrierlaw17.MaglevBuilds", spec := "maglevBuilds", unfollowed := true, recurses := true, apart := false }
def MaglevBuildsSaid : Prop := maglevBuildsRow.holds Try.pinned (OpenSpec.ofChange maglevBuildsSpec)

/-- ITS FALSE NEIGHBOUR: 'it returns false'. Refute it at one input. -/
def maglevBuildsWrong : ChangeSpec := { name := "maglevBuilds", fn := fun _ => fun
  | [d1, d2, d3] => { results := [.lit (.bool false)], args := [d1, d2, d3] }
  | _ => none }
def MaglevBuildsWrongFalsely : Prop := maglevBuildsRow.holds Try.pinned (OpenSpec.ofChange maglevBuildsWrong)

/-- 'harrierlaw17.MaglevOrder': WHATEVER THE INPUT: true; the input reads as it did. -/
def maglevOrderSpec : ChangeSpec := { name := "maglevOrder", fn := fun _ => fun
  | [d1, d2, d3] => { results := [.lit (.bool true)], args := [d1, d2, d3] }
  | _ => none }
def maglevOrderRow : OpenClaim := { program := "ytecblclpchndiaa", sum := "4c70d89603ad0e0208c5344d287b4ec2c9cd8c3084aeb903da5d86946615133b", func := "harrier/harrierlaw17.MaglevOrder", spec := "maglevOrder", unfollowed := true, recurses := true, apart := false }
def MaglevOrderSaid : Prop := maglevOrderRow.holds Try.pinned (OpenSpec.ofChange maglevOrderSpec)

/-- ITS FALSE NEIGHBOUR: 'it returns false'. Refute it at one input. -/
def maglevOrderWrong : ChangeSpec := { name := "maglevOrder", fn := fun _ => fun
  | [d1, d2, d3] => { results := [.lit (.bool false)], args := [d1, d2, d3] }
  | _ => none }
def MaglevOrderWrongFalsely : Prop := maglevOrderRow.holds Try.pinned (OpenSpec.ofChange maglevOrderWrong)

/-- 'harrierlaw17.MaglevTells': WHATEVER THE INPUT: true; the input reads as it did. -/
def maglevTellsSpec : ChangeSpec := { name := "maglevTells", fn := fun _ => fun
  | [d1, d2, d3] => { results := [.lit (.bool true)], args := [d1, d2, d3] }
  | _ => none }
def maglevTellsRow : OpenClaim := { program := "ytecblclpchndiaa", sum := "4c70d89603ad0e0208c5344d287b4ec2c9cd8c3084aeb903da5d86946615133b", func := "harrier/harrierlaw17.MaglevTells", spec := "maglevTells", unfollowed := true, recurses := true, apart := false }
def MaglevTellsSaid : Prop := maglevTellsRow.holds Try.pinned (OpenSpec.ofChange maglevTellsSpec)

/-- ITS FALSE NEIGHBOUR: 'it returns false'. Refute it at one input. -/
def maglevTellsWrong : ChangeSpec := { name := "maglevTells", fn := fun _ => fun
  | [d1, d2, d3] => { results := [.lit (.bool false)], args := [d1, d2, d3] }
  | _ => none }
def MaglevTellsWrongFalsely : Prop := maglevTellsRow.holds Try.pinned (OpenSpec.ofChange maglevTellsWrong)

/-- 'harrierlaw17.MaglevShares': WHATEVER THE INPUT: true; the input reads as it did. -/
def maglevSharesSpec : ChangeSpec := { name := "maglevShares", fn := fun _ => fun
  | [d1, d2, d3] => { results := [.lit (.bool true)], args := [d1, d2, d3] }
  | _ => none }
def maglevSharesRow : OpenClaim := { program := "ytecblclpchndiaa", sum := "4c70d89603ad0e0208c5344d287b4ec2c9cd8c3084aeb903da5d86946615133b", func := "harrier/harrierlaw17.MaglevShares", spec := "maglevShares", unfollowed := true, recurses := true, apart := false }
def MaglevSharesSaid : Prop := maglevSharesRow.holds Try.pinned (OpenSpec.ofChange maglevSharesSpec)

/-- ITS FALSE NEIGHBOUR: 'it returns false'. Refute it at one input. -/
def maglevSharesWrong : ChangeSpec := { name := "maglevShares", fn := fun _ => fun
  | [d1, d2, d3] => { results := [.lit (.bool false)], args := [d1, d2, d3] }
  | _ => none }
def MaglevSharesWrongFalsely : Prop := maglevSharesRow.holds Try.pinned (OpenSpec.ofChange maglevSharesWrong)

/-- 'harrierlaw35.PoolNil': WHATEVER THE INPUT: true; the input reads as it did. -/
def poolNilSpec : ChangeSpec := { name := "poolNil", fn := fun _ => fun
  | [d1, d2] => { results := [.lit (.bool true)], args := [d1, d2] }
  | _ => none }
def poolNilRow : OpenClaim := { program := "ytecblclpchndiaa", sum := "4c70d89603ad0e0208c5344d287b4ec2c9cd8c3084aeb903da5d86946615133b", func := "harrier/harrierlaw35.PoolNil", spec := "poolNil", inPlace := ["slices.overlaps[harrier/pool.Backend]"], unfollowed := true, recurses := true, apart := false }
def PoolNilSaid : Prop := poolNilRow.holds Try.pinned (OpenSpec.ofChange poolNilSpec)

/-- ITS FALSE NEIGHBOUR: 'it returns false'. Refute it at one input. -/
def poolNilWrong : ChangeSpec := { name := "poolNil", fn := fun _ => fun
  | [d1, d2] => { results := [.lit (.bool false)], args := [d1, d2] }
  | _ => none }
def PoolNilWrongFalsely : Prop := poolNilRow.holds Try.pinned (OpenSpec.ofChange poolNilWrong)

/- THE SECOND FORM. 'bulk': how many values and letters a reading holds, each counted each time it is reached (what is shared counts as often as it is met; a slice's spare places count too). A statement '..UptoSaid' is the law's where the arguments, and the package variables that the reading takes, are together of bulk at most 1048576: NARROWER than '..Said'. Prove '..Said' where nothing that the law and all that it calls make is longer than what came in: it says more and counts as full. Else prove '..UptoSaid'. A law counts once. -/
mutual
def uptoBulk {H : Type} : DataW H → Nat
  | .lit (.string bytes) => bytes.length + 1
  | .lit _ => 1
  | .nil => 1
  | .ptr d => uptoBulk d + 1
  | .slice elems spare => uptoBulkAll elems + uptoBulkAll spare + 1
  | .agg parts => uptoBulkAll parts + 1
  | .iface _ d => uptoBulk d + 1
  | .map entries => uptoBulkEntries entries + 1
  | .held _ => 1
def uptoBulkAll {H : Type} : List (DataW H) → Nat
  | [] => 0
  | d :: r => uptoBulk d + uptoBulkAll r
def uptoBulkEntries {H : Type} : List (Lit × DataW H) → Nat
  | [] => 0
  | x :: r => uptoBulkEntry x + uptoBulkEntries r
def uptoBulkEntry {H : Type} : Lit × DataW H → Nat
  | (.string bytes, d) => bytes.length + uptoBulk d + 1
  | (_, d) => uptoBulk d + 1
 end
def uptoSmall : (H : Type) → List (DataW H) → Bool := fun _ ds => decide (uptoBulkAll ds ≤ 1048576)
def OpenSpec.upto (s : _root_.Go.ChangeSpec) : _root_.Go.OpenSpec := { _root_.Go.OpenSpec.ofChange s with cond := some uptoSmall }

/-- 'harrierlaw17.MaglevBuilds', WHERE WHAT IT READS IS OF BULK AT MOST 1048576: true; the input reads as it did. -/
def maglevBuildsUptoRow : OpenClaim := { program := "ytecblclpchndiaa", sum := "4c70d89603ad0e0208c5344d287b4ec2c9cd8c3084aeb903da5d86946615133b", func := "harrier/harrierlaw17.MaglevBuilds", spec := "maglevBuilds", unfollowed := true, recurses := true, apart := false, narrowed := true }
def MaglevBuildsUptoSaid : Prop := maglevBuildsUptoRow.holds Try.pinned (OpenSpec.upto maglevBuildsSpec)

/-- 'harrierlaw17.MaglevOrder', WHERE WHAT IT READS IS OF BULK AT MOST 1048576: true; the input reads as it did. -/
def maglevOrderUptoRow : OpenClaim := { program := "ytecblclpchndiaa", sum := "4c70d89603ad0e0208c5344d287b4ec2c9cd8c3084aeb903da5d86946615133b", func := "harrier/harrierlaw17.MaglevOrder", spec := "maglevOrder", unfollowed := true, recurses := true, apart := false, narrowed := true }
def MaglevOrderUptoSaid : Prop := maglevOrderUptoRow.holds Try.pinned (OpenSpec.upto maglevOrderSpec)

/-- 'harrierlaw17.MaglevTells', WHERE WHAT IT READS IS OF BULK AT MOST 1048576: true; the input reads as it did. -/
def maglevTellsUptoRow : OpenClaim := { program := "ytecblclpchndiaa", sum := "4c70d89603ad0e0208c5344d287b4ec2c9cd8c3084aeb903da5d86946615133b", func := "harrier/harrierlaw17.MaglevTells", spec := "maglevTells", unfollowed := true, recurses := true, apart := false, narrowed := true }
def MaglevTellsUptoSaid : Prop := maglevTellsUptoRow.holds Try.pinned (OpenSpec.upto maglevTellsSpec)

/-- 'harrierlaw17.MaglevShares', WHERE WHAT IT READS IS OF BULK AT MOST 1048576: true; the input reads as it did. -/
def maglevSharesUptoRow : OpenClaim := { program := "ytecblclpchndiaa", sum := "4c70d89603ad0e0208c5344d287b4ec2c9cd8c3084aeb903da5d86946615133b", func := "harrier/harrierlaw17.MaglevShares", spec := "maglevShares", unfollowed := true, recurses := true, apart := false, narrowed := true }
def MaglevSharesUptoSaid : Prop := maglevSharesUptoRow.holds Try.pinned (OpenSpec.upto maglevSharesSpec)

/-- 'harrierlaw35.PoolNil', WHERE WHAT IT READS IS OF BULK AT MOST 1048576: true; the input reads as it did. -/
def poolNilUptoRow : OpenClaim := { program := "ytecblclpchndiaa", sum := "4c70d89603ad0e0208c5344d287b4ec2c9cd8c3084aeb903da5d86946615133b", func := "harrier/harrierlaw35.PoolNil", spec := "poolNil", inPlace := ["slices.overlaps[harrier/pool.Backend]"], unfollowed := true, recurses := true, apart := false, narrowed := true }
def PoolNilUptoSaid : Prop := poolNilUptoRow.holds Try.pinned (OpenSpec.upto poolNilSpec)

end Rows
end Go.Proofs.Ytecblclpchndiaa
