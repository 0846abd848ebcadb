/-
  No cell of these rows narrows 'for every input' (looked for: loops, veiled, ifaces, maps, wideKeys, modest, calm, conditions, laid).
  DERIVED. THE GIVEN ROWS OF THIS SEAT. 11 by the template 'for every input the law returns true; each argument reads behind the call as it read before'; 0 by the template 'total and deterministic' (their statements: YtccgoaljeeghcaaTotals.lean).
  GIVEN WITH THE SEED: the statements are not yours to turn. If you find one false, say at which input.
  Laid BY PROGRAM, IN A SANDBOX (cutbox-rows.mjs): the forced cells as the released guide's own fill.sh prints them over the translation a36df8aae4f21918… (all of the seat's roots in one cut). By AI agents, Wed Nov 11 2026. No macro, syntax, notation, axiom, sorry.
-/
import Derived.Test.YtccgoaljeeghcaaChecked
import GoSem.Claim
import GoSem.ClaimJoined
import GoSem.ClaimMapViews
import Derived.JoinedTies
import Derived.KernelRfl
namespace Go.Proofs.Ytccgoaljeeghcaa
/- THE CELL 'sum', in the pinned program and in every row, IS THE sha256 OF THE DUMP (.gsa) THAT YtccgoaljeeghcaaProg.lean LOADS. Nothing in Lean hashes anything: it is a label: what it is worth is what the hold of that sum in a sandbox is worth. -/
noncomputable def Try.pinned : Pinned := { name := "ytccgoaljeeghcaa", sum := "a36df8aae4f2191872cfeea509a8884fdd7c8bcdbb2d1ca0e63c2b64492b1a7b", checked := Try.checked }
namespace Rows
def none {H : Type} : Left H := { results := [], args := [] }

/-- 'laws.FnExactDead': WHATEVER THE INPUT: true; the input reads as it did. -/
def fnExactDeadSpec : ChangeSpec := { name := "fnExactDead", fn := fun _ => fun
  | [d1, d2, d3] => { results := [.lit (.bool true)], args := [d1, d2, d3] }
  | _ => none }
def fnExactDeadRow : OpenClaim := { program := "ytccgoaljeeghcaa", sum := "a36df8aae4f2191872cfeea509a8884fdd7c8bcdbb2d1ca0e63c2b64492b1a7b", func := "loop.example/g00761/laws.FnExactDead", spec := "fnExactDead", unfollowed := true, recurses := true, apart := false }
def FnExactDeadSaid : Prop := fnExactDeadRow.holds Try.pinned (OpenSpec.ofChange fnExactDeadSpec)

/-- ITS FALSE NEIGHBOUR: 'it returns false'. Refute it at one input. -/
def fnExactDeadWrong : ChangeSpec := { name := "fnExactDead", fn := fun _ => fun
  | [d1, d2, d3] => { results := [.lit (.bool false)], args := [d1, d2, d3] }
  | _ => none }
def FnExactDeadWrongFalsely : Prop := fnExactDeadRow.holds Try.pinned (OpenSpec.ofChange fnExactDeadWrong)

/-- 'laws.FnExactShowHost': WHATEVER THE INPUT: true; the input reads as it did. -/
def fnExactShowHostSpec : ChangeSpec := { name := "fnExactShowHost", fn := fun _ => fun
  | [d] => { results := [.lit (.bool true)], args := [d] }
  | _ => none }
def fnExactShowHostRow : OpenClaim := { program := "ytccgoaljeeghcaa", sum := "a36df8aae4f2191872cfeea509a8884fdd7c8bcdbb2d1ca0e63c2b64492b1a7b", func := "loop.example/g00761/laws.FnExactShowHost", spec := "fnExactShowHost", apart := false }
def FnExactShowHostSaid : Prop := fnExactShowHostRow.holds Try.pinned (OpenSpec.ofChange fnExactShowHostSpec)

/-- ITS FALSE NEIGHBOUR: 'it returns false'. Refute it at one input. -/
def fnExactShowHostWrong : ChangeSpec := { name := "fnExactShowHost", fn := fun _ => fun
  | [d] => { results := [.lit (.bool false)], args := [d] }
  | _ => none }
def FnExactShowHostWrongFalsely : Prop := fnExactShowHostRow.holds Try.pinned (OpenSpec.ofChange fnExactShowHostWrong)

/-- 'laws.FnExactNewPool': WHATEVER THE INPUT: true; the input reads as it did. -/
def fnExactNewPoolSpec : ChangeSpec := { name := "fnExactNewPool", fn := fun _ => fun
  | [] => { results := [.lit (.bool true)], args := [] }
  | _ => none }
def fnExactNewPoolRow : OpenClaim := { program := "ytccgoaljeeghcaa", sum := "a36df8aae4f2191872cfeea509a8884fdd7c8bcdbb2d1ca0e63c2b64492b1a7b", func := "loop.example/g00761/laws.FnExactNewPool", spec := "fnExactNewPool", apart := false }
def FnExactNewPoolSaid : Prop := fnExactNewPoolRow.holds Try.pinned (OpenSpec.ofChange fnExactNewPoolSpec)

/-- ITS FALSE NEIGHBOUR: 'it returns false'. Refute it at one input. -/
def fnExactNewPoolWrong : ChangeSpec := { name := "fnExactNewPool", fn := fun _ => fun
  | [] => { results := [.lit (.bool false)], args := [] }
  | _ => none }
def FnExactNewPoolWrongFalsely : Prop := fnExactNewPoolRow.holds Try.pinned (OpenSpec.ofChange fnExactNewPoolWrong)

/-- 'laws.FnExactShowFrees': WHATEVER THE INPUT: true; the input reads as it did. -/
def fnExactShowFreesSpec : ChangeSpec := { name := "fnExactShowFrees", fn := fun _ => fun
  | [d] => { results := [.lit (.bool true)], args := [d] }
  | _ => none }
def fnExactShowFreesRow : OpenClaim := { program := "ytccgoaljeeghcaa", sum := "a36df8aae4f2191872cfeea509a8884fdd7c8bcdbb2d1ca0e63c2b64492b1a7b", func := "loop.example/g00761/laws.FnExactShowFrees", spec := "fnExactShowFrees", unfollowed := true, recurses := true, apart := false }
def FnExactShowFreesSaid : Prop := fnExactShowFreesRow.holds Try.pinned (OpenSpec.ofChange fnExactShowFreesSpec)

/-- ITS FALSE NEIGHBOUR: 'it returns false'. Refute it at one input. -/
def fnExactShowFreesWrong : ChangeSpec := { name := "fnExactShowFrees", fn := fun _ => fun
  | [d] => { results := [.lit (.bool false)], args := [d] }
  | _ => none }
def FnExactShowFreesWrongFalsely : Prop := fnExactShowFreesRow.holds Try.pinned (OpenSpec.ofChange fnExactShowFreesWrong)

/-- 'laws.FnExactModelOk': WHATEVER THE INPUT: true; the input reads as it did. -/
def fnExactModelOkSpec : ChangeSpec := { name := "fnExactModelOk", fn := fun _ => fun
  | [d] => { results := [.lit (.bool true)], args := [d] }
  | _ => none }
def fnExactModelOkRow : OpenClaim := { program := "ytccgoaljeeghcaa", sum := "a36df8aae4f2191872cfeea509a8884fdd7c8bcdbb2d1ca0e63c2b64492b1a7b", func := "loop.example/g00761/laws.FnExactModelOk", spec := "fnExactModelOk", unfollowed := true, recurses := true, apart := false }
def FnExactModelOkSaid : Prop := fnExactModelOkRow.holds Try.pinned (OpenSpec.ofChange fnExactModelOkSpec)

/-- ITS FALSE NEIGHBOUR: 'it returns false'. Refute it at one input. -/
def fnExactModelOkWrong : ChangeSpec := { name := "fnExactModelOk", fn := fun _ => fun
  | [d] => { results := [.lit (.bool false)], args := [d] }
  | _ => none }
def FnExactModelOkWrongFalsely : Prop := fnExactModelOkRow.holds Try.pinned (OpenSpec.ofChange fnExactModelOkWrong)

/-- 'laws.FnExactPxNew': WHATEVER THE INPUT: true; the input reads as it did. -/
def fnExactPxNewSpec : ChangeSpec := { name := "fnExactPxNew", fn := fun _ => fun
  | [] => { results := [.lit (.bool true)], args := [] }
  | _ => none }
def fnExactPxNewRow : OpenClaim := { program := "ytccgoaljeeghcaa", sum := "a36df8aae4f2191872cfeea509a8884fdd7c8bcdbb2d1ca0e63c2b64492b1a7b", func := "loop.example/g00761/laws.FnExactPxNew", spec := "fnExactPxNew", apart := false }
def FnExactPxNewSaid : Prop := fnExactPxNewRow.holds Try.pinned (OpenSpec.ofChange fnExactPxNewSpec)

/-- ITS FALSE NEIGHBOUR: 'it returns false'. Refute it at one input. -/
def fnExactPxNewWrong : ChangeSpec := { name := "fnExactPxNew", fn := fun _ => fun
  | [] => { results := [.lit (.bool false)], args := [] }
  | _ => none }
def FnExactPxNewWrongFalsely : Prop := fnExactPxNewRow.holds Try.pinned (OpenSpec.ofChange fnExactPxNewWrong)

/-- 'laws.FnExactReadOf': WHATEVER THE INPUT: true; the input reads as it did. -/
def fnExactReadOfSpec : ChangeSpec := { name := "fnExactReadOf", fn := fun _ => fun
  | [d1, d2, d3] => { results := [.lit (.bool true)], args := [d1, d2, d3] }
  | _ => none }
def fnExactReadOfRow : OpenClaim := { program := "ytccgoaljeeghcaa", sum := "a36df8aae4f2191872cfeea509a8884fdd7c8bcdbb2d1ca0e63c2b64492b1a7b", func := "loop.example/g00761/laws.FnExactReadOf", spec := "fnExactReadOf", unfollowed := true, recurses := true, apart := false }
def FnExactReadOfSaid : Prop := fnExactReadOfRow.holds Try.pinned (OpenSpec.ofChange fnExactReadOfSpec)

/-- ITS FALSE NEIGHBOUR: 'it returns false'. Refute it at one input. -/
def fnExactReadOfWrong : ChangeSpec := { name := "fnExactReadOf", fn := fun _ => fun
  | [d1, d2, d3] => { results := [.lit (.bool false)], args := [d1, d2, d3] }
  | _ => none }
def FnExactReadOfWrongFalsely : Prop := fnExactReadOfRow.holds Try.pinned (OpenSpec.ofChange fnExactReadOfWrong)

/-- 'laws.FnExactPxOk': WHATEVER THE INPUT: true; the input reads as it did. -/
def fnExactPxOkSpec : ChangeSpec := { name := "fnExactPxOk", fn := fun _ => fun
  | [d] => { results := [.lit (.bool true)], args := [d] }
  | _ => none }
def fnExactPxOkRow : OpenClaim := { program := "ytccgoaljeeghcaa", sum := "a36df8aae4f2191872cfeea509a8884fdd7c8bcdbb2d1ca0e63c2b64492b1a7b", func := "loop.example/g00761/laws.FnExactPxOk", spec := "fnExactPxOk", apart := false }
def FnExactPxOkSaid : Prop := fnExactPxOkRow.holds Try.pinned (OpenSpec.ofChange fnExactPxOkSpec)

/-- ITS FALSE NEIGHBOUR: 'it returns false'. Refute it at one input. -/
def fnExactPxOkWrong : ChangeSpec := { name := "fnExactPxOk", fn := fun _ => fun
  | [d] => { results := [.lit (.bool false)], args := [d] }
  | _ => none }
def FnExactPxOkWrongFalsely : Prop := fnExactPxOkRow.holds Try.pinned (OpenSpec.ofChange fnExactPxOkWrong)

/-- 'laws.FnExactDiskOk': WHATEVER THE INPUT: true; the input reads as it did. -/
def fnExactDiskOkSpec : ChangeSpec := { name := "fnExactDiskOk", fn := fun _ => fun
  | [d] => { results := [.lit (.bool true)], args := [d] }
  | _ => none }
def fnExactDiskOkRow : OpenClaim := { program := "ytccgoaljeeghcaa", sum := "a36df8aae4f2191872cfeea509a8884fdd7c8bcdbb2d1ca0e63c2b64492b1a7b", func := "loop.example/g00761/laws.FnExactDiskOk", spec := "fnExactDiskOk", unfollowed := true, recurses := true, apart := false }
def FnExactDiskOkSaid : Prop := fnExactDiskOkRow.holds Try.pinned (OpenSpec.ofChange fnExactDiskOkSpec)

/-- ITS FALSE NEIGHBOUR: 'it returns false'. Refute it at one input. -/
def fnExactDiskOkWrong : ChangeSpec := { name := "fnExactDiskOk", fn := fun _ => fun
  | [d] => { results := [.lit (.bool false)], args := [d] }
  | _ => none }
def FnExactDiskOkWrongFalsely : Prop := fnExactDiskOkRow.holds Try.pinned (OpenSpec.ofChange fnExactDiskOkWrong)

/-- 'laws.FnExactShowGroup': WHATEVER THE INPUT: true; the input reads as it did. -/
def fnExactShowGroupSpec : ChangeSpec := { name := "fnExactShowGroup", fn := fun _ => fun
  | [d] => { results := [.lit (.bool true)], args := [d] }
  | _ => none }
def fnExactShowGroupRow : OpenClaim := { program := "ytccgoaljeeghcaa", sum := "a36df8aae4f2191872cfeea509a8884fdd7c8bcdbb2d1ca0e63c2b64492b1a7b", func := "loop.example/g00761/laws.FnExactShowGroup", spec := "fnExactShowGroup", unfollowed := true, recurses := true, apart := false }
def FnExactShowGroupSaid : Prop := fnExactShowGroupRow.holds Try.pinned (OpenSpec.ofChange fnExactShowGroupSpec)

/-- ITS FALSE NEIGHBOUR: 'it returns false'. Refute it at one input. -/
def fnExactShowGroupWrong : ChangeSpec := { name := "fnExactShowGroup", fn := fun _ => fun
  | [d] => { results := [.lit (.bool false)], args := [d] }
  | _ => none }
def FnExactShowGroupWrongFalsely : Prop := fnExactShowGroupRow.holds Try.pinned (OpenSpec.ofChange fnExactShowGroupWrong)

/-- 'laws.FnExactReadHost': WHATEVER THE INPUT: true; the input reads as it did. -/
def fnExactReadHostSpec : ChangeSpec := { name := "fnExactReadHost", fn := fun _ => fun
  | [d] => { results := [.lit (.bool true)], args := [d] }
  | _ => none }
def fnExactReadHostRow : OpenClaim := { program := "ytccgoaljeeghcaa", sum := "a36df8aae4f2191872cfeea509a8884fdd7c8bcdbb2d1ca0e63c2b64492b1a7b", func := "loop.example/g00761/laws.FnExactReadHost", spec := "fnExactReadHost", apart := false }
def FnExactReadHostSaid : Prop := fnExactReadHostRow.holds Try.pinned (OpenSpec.ofChange fnExactReadHostSpec)

/-- ITS FALSE NEIGHBOUR: 'it returns false'. Refute it at one input. -/
def fnExactReadHostWrong : ChangeSpec := { name := "fnExactReadHost", fn := fun _ => fun
  | [d] => { results := [.lit (.bool false)], args := [d] }
  | _ => none }
def FnExactReadHostWrongFalsely : Prop := fnExactReadHostRow.holds Try.pinned (OpenSpec.ofChange fnExactReadHostWrong)

/- THE SECOND FORM. 'bulk': how many values and letters a reading holds, each counted each time it is reached (what is shared counts as often as it is met; a slice's spare places count too). A statement '..UptoSaid' is the law's where the arguments, and the package variables that the reading takes, are together of bulk at most 1048576: NARROWER than '..Said'. Prove '..Said' where nothing that the law and all that it calls make is longer than what came in: it says more and counts as full. Else prove '..UptoSaid'. A law counts once. -/
mutual
def uptoBulk {H : Type} : DataW H → Nat
  | .lit (.string bytes) => bytes.length + 1
  | .lit _ => 1
  | .nil => 1
  | .ptr d => uptoBulk d + 1
  | .slice elems spare => uptoBulkAll elems + uptoBulkAll spare + 1
  | .agg parts => uptoBulkAll parts + 1
  | .iface _ d => uptoBulk d + 1
  | .map entries => uptoBulkEntries entries + 1
  | .held _ => 1
def uptoBulkAll {H : Type} : List (DataW H) → Nat
  | [] => 0
  | d :: r => uptoBulk d + uptoBulkAll r
def uptoBulkEntries {H : Type} : List (Lit × DataW H) → Nat
  | [] => 0
  | x :: r => uptoBulkEntry x + uptoBulkEntries r
def uptoBulkEntry {H : Type} : Lit × DataW H → Nat
  | (.string bytes, d) => bytes.length + uptoBulk d + 1
  | (_, d) => uptoBulk d + 1
 end
def uptoSmall : (H : Type) → List (DataW H) → Bool := fun _ ds => decide (uptoBulkAll ds ≤ 1048576)
def OpenSpec.upto (s : _root_.Go.ChangeSpec) : _root_.Go.OpenSpec := { _root_.Go.OpenSpec.ofChange s with cond := some uptoSmall }

/-- 'laws.FnExactDead', WHERE WHAT IT READS IS OF BULK AT MOST 1048576: true; the input reads as it did. -/
def fnExactDeadUptoRow : OpenClaim := { program := "ytccgoaljeeghcaa", sum := "a36df8aae4f2191872cfeea509a8884fdd7c8bcdbb2d1ca0e63c2b64492b1a7b", func := "loop.example/g00761/laws.FnExactDead", spec := "fnExactDead", unfollowed := true, recurses := true, apart := false, narrowed := true }
def FnExactDeadUptoSaid : Prop := fnExactDeadUptoRow.holds Try.pinned (OpenSpec.upto fnExactDeadSpec)

/-- 'laws.FnExactShowHost', WHERE WHAT IT READS IS OF BULK AT MOST 1048576: true; the input reads as it did. -/
def fnExactShowHostUptoRow : OpenClaim := { program := "ytccgoaljeeghcaa", sum := "a36df8aae4f2191872cfeea509a8884fdd7c8bcdbb2d1ca0e63c2b64492b1a7b", func := "loop.example/g00761/laws.FnExactShowHost", spec := "fnExactShowHost", apart := false, narrowed := true }
def FnExactShowHostUptoSaid : Prop := fnExactShowHostUptoRow.holds Try.pinned (OpenSpec.upto fnExactShowHostSpec)

/-- 'laws.FnExactNewPool', WHERE WHAT IT READS IS OF BULK AT MOST 1048576: true; the input reads as it did. -/
def fnExactNewPoolUptoRow : OpenClaim := { program := "ytccgoaljeeghcaa", sum := "a36df8aae4f2191872cfeea509a8884fdd7c8bcdbb2d1ca0e63c2b64492b1a7b", func := "loop.example/g00761/laws.FnExactNewPool", spec := "fnExactNewPool", apart := false, narrowed := true }
def FnExactNewPoolUptoSaid : Prop := fnExactNewPoolUptoRow.holds Try.pinned (OpenSpec.upto fnExactNewPoolSpec)

/-- 'laws.FnExactShowFrees', WHERE WHAT IT READS IS OF BULK AT MOST 1048576: true; the input reads as it did. -/
def fnExactShowFreesUptoRow : OpenClaim := { program := "ytccgoaljeeghcaa", sum := "a36df8aae4f2191872cfeea509a8884fdd7c8bcdbb2d1ca0e63c2b64492b1a7b", func := "loop.example/g00761/laws.FnExactShowFrees", spec := "fnExactShowFrees", unfollowed := true, recurses := true, apart := false, narrowed := true }
def FnExactShowFreesUptoSaid : Prop := fnExactShowFreesUptoRow.holds Try.pinned (OpenSpec.upto fnExactShowFreesSpec)

/-- 'laws.FnExactModelOk', WHERE WHAT IT READS IS OF BULK AT MOST 1048576: true; the input reads as it did. -/
def fnExactModelOkUptoRow : OpenClaim := { program := "ytccgoaljeeghcaa", sum := "a36df8aae4f2191872cfeea509a8884fdd7c8bcdbb2d1ca0e63c2b64492b1a7b", func := "loop.example/g00761/laws.FnExactModelOk", spec := "fnExactModelOk", unfollowed := true, recurses := true, apart := false, narrowed := true }
def FnExactModelOkUptoSaid : Prop := fnExactModelOkUptoRow.holds Try.pinned (OpenSpec.upto fnExactModelOkSpec)

/-- 'laws.FnExactPxNew', WHERE WHAT IT READS IS OF BULK AT MOST 1048576: true; the input reads as it did. -/
def fnExactPxNewUptoRow : OpenClaim := { program := "ytccgoaljeeghcaa", sum := "a36df8aae4f2191872cfeea509a8884fdd7c8bcdbb2d1ca0e63c2b64492b1a7b", func := "loop.example/g00761/laws.FnExactPxNew", spec := "fnExactPxNew", apart := false, narrowed := true }
def FnExactPxNewUptoSaid : Prop := fnExactPxNewUptoRow.holds Try.pinned (OpenSpec.upto fnExactPxNewSpec)

/-- 'laws.FnExactReadOf', WHERE WHAT IT READS IS OF BULK AT MOST 1048576: true; the input reads as it did. -/
def fnExactReadOfUptoRow : OpenClaim := { program := "ytccgoaljeeghcaa", sum := "a36df8aae4f2191872cfeea509a8884fdd7c8bcdbb2d1ca0e63c2b64492b1a7b", func := "loop.example/g00761/laws.FnExactReadOf", spec := "fnExactReadOf", unfollowed := true, recurses := true, apart := false, narrowed := true }
def FnExactReadOfUptoSaid : Prop := fnExactReadOfUptoRow.holds Try.pinned (OpenSpec.upto fnExactReadOfSpec)

/-- 'laws.FnExactPxOk', WHERE WHAT IT READS IS OF BULK AT MOST 1048576: true; the input reads as it did. -/
def fnExactPxOkUptoRow : OpenClaim := { program := "ytccgoaljeeghcaa", sum := "a36df8aae4f2191872cfeea509a8884fdd7c8bcdbb2d1ca0e63c2b64492b1a7b", func := "loop.example/g00761/laws.FnExactPxOk", spec := "fnExactPxOk", apart := false, narrowed := true }
def FnExactPxOkUptoSaid : Prop := fnExactPxOkUptoRow.holds Try.pinned (OpenSpec.upto fnExactPxOkSpec)

/-- 'laws.FnExactDiskOk', WHERE WHAT IT READS IS OF BULK AT MOST 1048576: true; the input reads as it did. -/
def fnExactDiskOkUptoRow : OpenClaim := { program := "ytccgoaljeeghcaa", sum := "a36df8aae4f2191872cfeea509a8884fdd7c8bcdbb2d1ca0e63c2b64492b1a7b", func := "loop.example/g00761/laws.FnExactDiskOk", spec := "fnExactDiskOk", unfollowed := true, recurses := true, apart := false, narrowed := true }
def FnExactDiskOkUptoSaid : Prop := fnExactDiskOkUptoRow.holds Try.pinned (OpenSpec.upto fnExactDiskOkSpec)

/-- 'laws.FnExactShowGroup', WHERE WHAT IT READS IS OF BULK AT MOST 1048576: true; the input reads as it did. -/
def fnExactShowGroupUptoRow : OpenClaim := { program := "ytccgoaljeeghcaa", sum := "a36df8aae4f2191872cfeea509a8884fdd7c8bcdbb2d1ca0e63c2b64492b1a7b", func := "loop.example/g00761/laws.FnExactShowGroup", spec := "fnExactShowGroup", unfollowed := true, recurses := true, apart := false, narrowed := true }
def FnExactShowGroupUptoSaid : Prop := fnExactShowGroupUptoRow.holds Try.pinned (OpenSpec.upto fnExactShowGroupSpec)

/-- 'laws.FnExactReadHost', WHERE WHAT IT READS IS OF BULK AT MOST 1048576: true; the input reads as it did. -/
def fnExactReadHostUptoRow : OpenClaim := { program := "ytccgoaljeeghcaa", sum := "a36df8aae4f2191872cfeea509a8884fdd7c8bcdbb2d1ca0e63c2b64492b1a7b", func := "loop.example/g00761/laws.FnExactReadHost", spec := "fnExactReadHost", apart := false, narrowed := true }
def FnExactReadHostUptoSaid : Prop := fnExactReadHostUptoRow.holds Try.pinned (OpenSpec.upto fnExactReadHostSpec)

end Rows
end Go.Proofs.Ytccgoaljeeghcaa
