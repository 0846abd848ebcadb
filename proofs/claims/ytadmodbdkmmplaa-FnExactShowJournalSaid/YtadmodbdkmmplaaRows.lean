/-
  No cell of these rows narrows 'for every input' (looked for: loops, veiled, ifaces, maps, wideKeys, modest, calm, conditions, laid).
  DERIVED. THE GIVEN ROWS OF THIS SEAT. 12 by the template 'for every input the law returns true; each argument reads behind the call as it read before'; 0 by the template 'total and deterministic' (their statements: YtadmodbdkmmplaaTotals.lean).
  GIVEN WITH THE SEED: the statements are not yours to turn. If you find one false, say at which input.
  Laid BY PROGRAM, IN A SANDBOX (cutbox-rows.mjs): the forced cells as the released guide's own fill.sh prints them over the translation 9ec72653a36a969b… (all of the seat's roots in one cut). By AI agents, Wed Nov 11 2026. No macro, syntax, notation, axiom, sorry.
-/
import Derived.Test.YtadmodbdkmmplaaChecked
import GoSem.Claim
import GoSem.ClaimJoined
import GoSem.ClaimMapViews
import Derived.JoinedTies
import Derived.KernelRfl
namespace Go.Proofs.Ytadmodbdkmmplaa
/- THE CELL 'sum', in the pinned program and in every row, IS THE sha256 OF THE DUMP (.gsa) THAT YtadmodbdkmmplaaProg.lean LOADS. Nothing in Lean hashes anything: it is a label: what it is worth is what the hold of that sum in a sandbox is worth. -/
noncomputable def Try.pinned : Pinned := { name := "ytadmodbdkmmplaa", sum := "9ec72653a36a969b7d09ca0e04191cd73a0a18c448ffbcae093886b81d89ef5c", checked := Try.checked }
namespace Rows
def none {H : Type} : Left H := { results := [], args := [] }

/-- 'laws.FnExactNewDisk': WHATEVER THE INPUT: true; the input reads as it did. -/
def fnExactNewDiskSpec : ChangeSpec := { name := "fnExactNewDisk", fn := fun _ => fun
  | [d] => { results := [.lit (.bool true)], args := [d] }
  | _ => none }
def fnExactNewDiskRow : OpenClaim := { program := "ytadmodbdkmmplaa", sum := "9ec72653a36a969b7d09ca0e04191cd73a0a18c448ffbcae093886b81d89ef5c", func := "loop.example/g00761/laws.FnExactNewDisk", spec := "fnExactNewDisk", apart := false }
def FnExactNewDiskSaid : Prop := fnExactNewDiskRow.holds Try.pinned (OpenSpec.ofChange fnExactNewDiskSpec)

/-- ITS FALSE NEIGHBOUR: 'it returns false'. Refute it at one input. -/
def fnExactNewDiskWrong : ChangeSpec := { name := "fnExactNewDisk", fn := fun _ => fun
  | [d] => { results := [.lit (.bool false)], args := [d] }
  | _ => none }
def FnExactNewDiskWrongFalsely : Prop := fnExactNewDiskRow.holds Try.pinned (OpenSpec.ofChange fnExactNewDiskWrong)

/-- 'laws.FnExactAlike': WHATEVER THE INPUT: true; the input reads as it did. -/
def fnExactAlikeSpec : ChangeSpec := { name := "fnExactAlike", fn := fun _ => fun
  | [d1, d2] => { results := [.lit (.bool true)], args := [d1, d2] }
  | _ => none }
def fnExactAlikeRow : OpenClaim := { program := "ytadmodbdkmmplaa", sum := "9ec72653a36a969b7d09ca0e04191cd73a0a18c448ffbcae093886b81d89ef5c", func := "loop.example/g00761/laws.FnExactAlike", spec := "fnExactAlike", unfollowed := true, recurses := true, apart := false }
def FnExactAlikeSaid : Prop := fnExactAlikeRow.holds Try.pinned (OpenSpec.ofChange fnExactAlikeSpec)

/-- ITS FALSE NEIGHBOUR: 'it returns false'. Refute it at one input. -/
def fnExactAlikeWrong : ChangeSpec := { name := "fnExactAlike", fn := fun _ => fun
  | [d1, d2] => { results := [.lit (.bool false)], args := [d1, d2] }
  | _ => none }
def FnExactAlikeWrongFalsely : Prop := fnExactAlikeRow.holds Try.pinned (OpenSpec.ofChange fnExactAlikeWrong)

/-- 'laws.FnExactShowVol': WHATEVER THE INPUT: true; the input reads as it did. -/
def fnExactShowVolSpec : ChangeSpec := { name := "fnExactShowVol", fn := fun _ => fun
  | [d] => { results := [.lit (.bool true)], args := [d] }
  | _ => none }
def fnExactShowVolRow : OpenClaim := { program := "ytadmodbdkmmplaa", sum := "9ec72653a36a969b7d09ca0e04191cd73a0a18c448ffbcae093886b81d89ef5c", func := "loop.example/g00761/laws.FnExactShowVol", spec := "fnExactShowVol", unfollowed := true, recurses := true, apart := false }
def FnExactShowVolSaid : Prop := fnExactShowVolRow.holds Try.pinned (OpenSpec.ofChange fnExactShowVolSpec)

/-- ITS FALSE NEIGHBOUR: 'it returns false'. Refute it at one input. -/
def fnExactShowVolWrong : ChangeSpec := { name := "fnExactShowVol", fn := fun _ => fun
  | [d] => { results := [.lit (.bool false)], args := [d] }
  | _ => none }
def FnExactShowVolWrongFalsely : Prop := fnExactShowVolRow.holds Try.pinned (OpenSpec.ofChange fnExactShowVolWrong)

/-- 'laws.FnExactPeek': WHATEVER THE INPUT: true; the input reads as it did. -/
def fnExactPeekSpec : ChangeSpec := { name := "fnExactPeek", fn := fun _ => fun
  | [d1, d2, d3] => { results := [.lit (.bool true)], args := [d1, d2, d3] }
  | _ => none }
def fnExactPeekRow : OpenClaim := { program := "ytadmodbdkmmplaa", sum := "9ec72653a36a969b7d09ca0e04191cd73a0a18c448ffbcae093886b81d89ef5c", func := "loop.example/g00761/laws.FnExactPeek", spec := "fnExactPeek", unfollowed := true, recurses := true, apart := false }
def FnExactPeekSaid : Prop := fnExactPeekRow.holds Try.pinned (OpenSpec.ofChange fnExactPeekSpec)

/-- ITS FALSE NEIGHBOUR: 'it returns false'. Refute it at one input. -/
def fnExactPeekWrong : ChangeSpec := { name := "fnExactPeek", fn := fun _ => fun
  | [d1, d2, d3] => { results := [.lit (.bool false)], args := [d1, d2, d3] }
  | _ => none }
def FnExactPeekWrongFalsely : Prop := fnExactPeekRow.holds Try.pinned (OpenSpec.ofChange fnExactPeekWrong)

/-- 'laws.FnExactShowPool': WHATEVER THE INPUT: true; the input reads as it did. -/
def fnExactShowPoolSpec : ChangeSpec := { name := "fnExactShowPool", fn := fun _ => fun
  | [d] => { results := [.lit (.bool true)], args := [d] }
  | _ => none }
def fnExactShowPoolRow : OpenClaim := { program := "ytadmodbdkmmplaa", sum := "9ec72653a36a969b7d09ca0e04191cd73a0a18c448ffbcae093886b81d89ef5c", func := "loop.example/g00761/laws.FnExactShowPool", spec := "fnExactShowPool", unfollowed := true, recurses := true, apart := false }
def FnExactShowPoolSaid : Prop := fnExactShowPoolRow.holds Try.pinned (OpenSpec.ofChange fnExactShowPoolSpec)

/-- ITS FALSE NEIGHBOUR: 'it returns false'. Refute it at one input. -/
def fnExactShowPoolWrong : ChangeSpec := { name := "fnExactShowPool", fn := fun _ => fun
  | [d] => { results := [.lit (.bool false)], args := [d] }
  | _ => none }
def FnExactShowPoolWrongFalsely : Prop := fnExactShowPoolRow.holds Try.pinned (OpenSpec.ofChange fnExactShowPoolWrong)

/-- 'laws.FnExactReadFrees': WHATEVER THE INPUT: true; the input reads as it did. -/
def fnExactReadFreesSpec : ChangeSpec := { name := "fnExactReadFrees", fn := fun _ => fun
  | [d] => { results := [.lit (.bool true)], args := [d] }
  | _ => none }
def fnExactReadFreesRow : OpenClaim := { program := "ytadmodbdkmmplaa", sum := "9ec72653a36a969b7d09ca0e04191cd73a0a18c448ffbcae093886b81d89ef5c", func := "loop.example/g00761/laws.FnExactReadFrees", spec := "fnExactReadFrees", unfollowed := true, recurses := true, apart := false }
def FnExactReadFreesSaid : Prop := fnExactReadFreesRow.holds Try.pinned (OpenSpec.ofChange fnExactReadFreesSpec)

/-- ITS FALSE NEIGHBOUR: 'it returns false'. Refute it at one input. -/
def fnExactReadFreesWrong : ChangeSpec := { name := "fnExactReadFrees", fn := fun _ => fun
  | [d] => { results := [.lit (.bool false)], args := [d] }
  | _ => none }
def FnExactReadFreesWrongFalsely : Prop := fnExactReadFreesRow.holds Try.pinned (OpenSpec.ofChange fnExactReadFreesWrong)

/-- 'laws.FnExactShowJournal': WHATEVER THE INPUT: true; the input reads as it did. -/
def fnExactShowJournalSpec : ChangeSpec := { name := "fnExactShowJournal", fn := fun _ => fun
  | [d] => { results := [.lit (.bool true)], args := [d] }
  | _ => none }
def fnExactShowJournalRow : OpenClaim := { program := "ytadmodbdkmmplaa", sum := "9ec72653a36a969b7d09ca0e04191cd73a0a18c448ffbcae093886b81d89ef5c", func := "loop.example/g00761/laws.FnExactShowJournal", spec := "fnExactShowJournal", apart := false }
def FnExactShowJournalSaid : Prop := fnExactShowJournalRow.holds Try.pinned (OpenSpec.ofChange fnExactShowJournalSpec)

/-- ITS FALSE NEIGHBOUR: 'it returns false'. Refute it at one input. -/
def fnExactShowJournalWrong : ChangeSpec := { name := "fnExactShowJournal", fn := fun _ => fun
  | [d] => { results := [.lit (.bool false)], args := [d] }
  | _ => none }
def FnExactShowJournalWrongFalsely : Prop := fnExactShowJournalRow.holds Try.pinned (OpenSpec.ofChange fnExactShowJournalWrong)

/-- 'laws.FnExactViewOk': WHATEVER THE INPUT: true; the input reads as it did. -/
def fnExactViewOkSpec : ChangeSpec := { name := "fnExactViewOk", fn := fun _ => fun
  | [d] => { results := [.lit (.bool true)], args := [d] }
  | _ => none }
def fnExactViewOkRow : OpenClaim := { program := "ytadmodbdkmmplaa", sum := "9ec72653a36a969b7d09ca0e04191cd73a0a18c448ffbcae093886b81d89ef5c", func := "loop.example/g00761/laws.FnExactViewOk", spec := "fnExactViewOk", unfollowed := true, recurses := true, apart := false }
def FnExactViewOkSaid : Prop := fnExactViewOkRow.holds Try.pinned (OpenSpec.ofChange fnExactViewOkSpec)

/-- ITS FALSE NEIGHBOUR: 'it returns false'. Refute it at one input. -/
def fnExactViewOkWrong : ChangeSpec := { name := "fnExactViewOk", fn := fun _ => fun
  | [d] => { results := [.lit (.bool false)], args := [d] }
  | _ => none }
def FnExactViewOkWrongFalsely : Prop := fnExactViewOkRow.holds Try.pinned (OpenSpec.ofChange fnExactViewOkWrong)

/-- 'laws.FnExactReadGroup': WHATEVER THE INPUT: true; the input reads as it did. -/
def fnExactReadGroupSpec : ChangeSpec := { name := "fnExactReadGroup", fn := fun _ => fun
  | [d] => { results := [.lit (.bool true)], args := [d] }
  | _ => none }
def fnExactReadGroupRow : OpenClaim := { program := "ytadmodbdkmmplaa", sum := "9ec72653a36a969b7d09ca0e04191cd73a0a18c448ffbcae093886b81d89ef5c", func := "loop.example/g00761/laws.FnExactReadGroup", spec := "fnExactReadGroup", unfollowed := true, recurses := true, apart := false }
def FnExactReadGroupSaid : Prop := fnExactReadGroupRow.holds Try.pinned (OpenSpec.ofChange fnExactReadGroupSpec)

/-- ITS FALSE NEIGHBOUR: 'it returns false'. Refute it at one input. -/
def fnExactReadGroupWrong : ChangeSpec := { name := "fnExactReadGroup", fn := fun _ => fun
  | [d] => { results := [.lit (.bool false)], args := [d] }
  | _ => none }
def FnExactReadGroupWrongFalsely : Prop := fnExactReadGroupRow.holds Try.pinned (OpenSpec.ofChange fnExactReadGroupWrong)

/-- 'laws.FnExactHostOk': WHATEVER THE INPUT: true; the input reads as it did. -/
def fnExactHostOkSpec : ChangeSpec := { name := "fnExactHostOk", fn := fun _ => fun
  | [d] => { results := [.lit (.bool true)], args := [d] }
  | _ => none }
def fnExactHostOkRow : OpenClaim := { program := "ytadmodbdkmmplaa", sum := "9ec72653a36a969b7d09ca0e04191cd73a0a18c448ffbcae093886b81d89ef5c", func := "loop.example/g00761/laws.FnExactHostOk", spec := "fnExactHostOk", apart := false }
def FnExactHostOkSaid : Prop := fnExactHostOkRow.holds Try.pinned (OpenSpec.ofChange fnExactHostOkSpec)

/-- ITS FALSE NEIGHBOUR: 'it returns false'. Refute it at one input. -/
def fnExactHostOkWrong : ChangeSpec := { name := "fnExactHostOk", fn := fun _ => fun
  | [d] => { results := [.lit (.bool false)], args := [d] }
  | _ => none }
def FnExactHostOkWrongFalsely : Prop := fnExactHostOkRow.holds Try.pinned (OpenSpec.ofChange fnExactHostOkWrong)

/-- 'laws.FnExactReadVol': WHATEVER THE INPUT: true; the input reads as it did. -/
def fnExactReadVolSpec : ChangeSpec := { name := "fnExactReadVol", fn := fun _ => fun
  | [d] => { results := [.lit (.bool true)], args := [d] }
  | _ => none }
def fnExactReadVolRow : OpenClaim := { program := "ytadmodbdkmmplaa", sum := "9ec72653a36a969b7d09ca0e04191cd73a0a18c448ffbcae093886b81d89ef5c", func := "loop.example/g00761/laws.FnExactReadVol", spec := "fnExactReadVol", unfollowed := true, recurses := true, apart := false }
def FnExactReadVolSaid : Prop := fnExactReadVolRow.holds Try.pinned (OpenSpec.ofChange fnExactReadVolSpec)

/-- ITS FALSE NEIGHBOUR: 'it returns false'. Refute it at one input. -/
def fnExactReadVolWrong : ChangeSpec := { name := "fnExactReadVol", fn := fun _ => fun
  | [d] => { results := [.lit (.bool false)], args := [d] }
  | _ => none }
def FnExactReadVolWrongFalsely : Prop := fnExactReadVolRow.holds Try.pinned (OpenSpec.ofChange fnExactReadVolWrong)

/-- 'laws.FnExactDiff': WHATEVER THE INPUT: true; the input reads as it did. -/
def fnExactDiffSpec : ChangeSpec := { name := "fnExactDiff", fn := fun _ => fun
  | [d1, d2] => { results := [.lit (.bool true)], args := [d1, d2] }
  | _ => none }
def fnExactDiffRow : OpenClaim := { program := "ytadmodbdkmmplaa", sum := "9ec72653a36a969b7d09ca0e04191cd73a0a18c448ffbcae093886b81d89ef5c", func := "loop.example/g00761/laws.FnExactDiff", spec := "fnExactDiff", unfollowed := true, recurses := true, apart := false }
def FnExactDiffSaid : Prop := fnExactDiffRow.holds Try.pinned (OpenSpec.ofChange fnExactDiffSpec)

/-- ITS FALSE NEIGHBOUR: 'it returns false'. Refute it at one input. -/
def fnExactDiffWrong : ChangeSpec := { name := "fnExactDiff", fn := fun _ => fun
  | [d1, d2] => { results := [.lit (.bool false)], args := [d1, d2] }
  | _ => none }
def FnExactDiffWrongFalsely : Prop := fnExactDiffRow.holds Try.pinned (OpenSpec.ofChange fnExactDiffWrong)

/- THE SECOND FORM. 'bulk': how many values and letters a reading holds, each counted each time it is reached (what is shared counts as often as it is met; a slice's spare places count too). A statement '..UptoSaid' is the law's where the arguments, and the package variables that the reading takes, are together of bulk at most 1048576: NARROWER than '..Said'. Prove '..Said' where nothing that the law and all that it calls make is longer than what came in: it says more and counts as full. Else prove '..UptoSaid'. A law counts once. -/
mutual
def uptoBulk {H : Type} : DataW H → Nat
  | .lit (.string bytes) => bytes.length + 1
  | .lit _ => 1
  | .nil => 1
  | .ptr d => uptoBulk d + 1
  | .slice elems spare => uptoBulkAll elems + uptoBulkAll spare + 1
  | .agg parts => uptoBulkAll parts + 1
  | .iface _ d => uptoBulk d + 1
  | .map entries => uptoBulkEntries entries + 1
  | .held _ => 1
def uptoBulkAll {H : Type} : List (DataW H) → Nat
  | [] => 0
  | d :: r => uptoBulk d + uptoBulkAll r
def uptoBulkEntries {H : Type} : List (Lit × DataW H) → Nat
  | [] => 0
  | x :: r => uptoBulkEntry x + uptoBulkEntries r
def uptoBulkEntry {H : Type} : Lit × DataW H → Nat
  | (.string bytes, d) => bytes.length + uptoBulk d + 1
  | (_, d) => uptoBulk d + 1
 end
def uptoSmall : (H : Type) → List (DataW H) → Bool := fun _ ds => decide (uptoBulkAll ds ≤ 1048576)
def OpenSpec.upto (s : _root_.Go.ChangeSpec) : _root_.Go.OpenSpec := { _root_.Go.OpenSpec.ofChange s with cond := some uptoSmall }

/-- 'laws.FnExactNewDisk', WHERE WHAT IT READS IS OF BULK AT MOST 1048576: true; the input reads as it did. -/
def fnExactNewDiskUptoRow : OpenClaim := { program := "ytadmodbdkmmplaa", sum := "9ec72653a36a969b7d09ca0e04191cd73a0a18c448ffbcae093886b81d89ef5c", func := "loop.example/g00761/laws.FnExactNewDisk", spec := "fnExactNewDisk", apart := false, narrowed := true }
def FnExactNewDiskUptoSaid : Prop := fnExactNewDiskUptoRow.holds Try.pinned (OpenSpec.upto fnExactNewDiskSpec)

/-- 'laws.FnExactAlike', WHERE WHAT IT READS IS OF BULK AT MOST 1048576: true; the input reads as it did. -/
def fnExactAlikeUptoRow : OpenClaim := { program := "ytadmodbdkmmplaa", sum := "9ec72653a36a969b7d09ca0e04191cd73a0a18c448ffbcae093886b81d89ef5c", func := "loop.example/g00761/laws.FnExactAlike", spec := "fnExactAlike", unfollowed := true, recurses := true, apart := false, narrowed := true }
def FnExactAlikeUptoSaid : Prop := fnExactAlikeUptoRow.holds Try.pinned (OpenSpec.upto fnExactAlikeSpec)

/-- 'laws.FnExactShowVol', WHERE WHAT IT READS IS OF BULK AT MOST 1048576: true; the input reads as it did. -/
def fnExactShowVolUptoRow : OpenClaim := { program := "ytadmodbdkmmplaa", sum := "9ec72653a36a969b7d09ca0e04191cd73a0a18c448ffbcae093886b81d89ef5c", func := "loop.example/g00761/laws.FnExactShowVol", spec := "fnExactShowVol", unfollowed := true, recurses := true, apart := false, narrowed := true }
def FnExactShowVolUptoSaid : Prop := fnExactShowVolUptoRow.holds Try.pinned (OpenSpec.upto fnExactShowVolSpec)

/-- 'laws.FnExactPeek', WHERE WHAT IT READS IS OF BULK AT MOST 1048576: true; the input reads as it did. -/
def fnExactPeekUptoRow : OpenClaim := { program := "ytadmodbdkmmplaa", sum := "9ec72653a36a969b7d09ca0e04191cd73a0a18c448ffbcae093886b81d89ef5c", func := "loop.example/g00761/laws.FnExactPeek", spec := "fnExactPeek", unfollowed := true, recurses := true, apart := false, narrowed := true }
def FnExactPeekUptoSaid : Prop := fnExactPeekUptoRow.holds Try.pinned (OpenSpec.upto fnExactPeekSpec)

/-- 'laws.FnExactShowPool', WHERE WHAT IT READS IS OF BULK AT MOST 1048576: true; the input reads as it did. -/
def fnExactShowPoolUptoRow : OpenClaim := { program := "ytadmodbdkmmplaa", sum := "9ec72653a36a969b7d09ca0e04191cd73a0a18c448ffbcae093886b81d89ef5c", func := "loop.example/g00761/laws.FnExactShowPool", spec := "fnExactShowPool", unfollowed := true, recurses := true, apart := false, narrowed := true }
def FnExactShowPoolUptoSaid : Prop := fnExactShowPoolUptoRow.holds Try.pinned (OpenSpec.upto fnExactShowPoolSpec)

/-- 'laws.FnExactReadFrees', WHERE WHAT IT READS IS OF BULK AT MOST 1048576: true; the input reads as it did. -/
def fnExactReadFreesUptoRow : OpenClaim := { program := "ytadmodbdkmmplaa", sum := "9ec72653a36a969b7d09ca0e04191cd73a0a18c448ffbcae093886b81d89ef5c", func := "loop.example/g00761/laws.FnExactReadFrees", spec := "fnExactReadFrees", unfollowed := true, recurses := true, apart := false, narrowed := true }
def FnExactReadFreesUptoSaid : Prop := fnExactReadFreesUptoRow.holds Try.pinned (OpenSpec.upto fnExactReadFreesSpec)

/-- 'laws.FnExactShowJournal', WHERE WHAT IT READS IS OF BULK AT MOST 1048576: true; the input reads as it did. -/
def fnExactShowJournalUptoRow : OpenClaim := { program := "ytadmodbdkmmplaa", sum := "9ec72653a36a969b7d09ca0e04191cd73a0a18c448ffbcae093886b81d89ef5c", func := "loop.example/g00761/laws.FnExactShowJournal", spec := "fnExactShowJournal", apart := false, narrowed := true }
def FnExactShowJournalUptoSaid : Prop := fnExactShowJournalUptoRow.holds Try.pinned (OpenSpec.upto fnExactShowJournalSpec)

/-- 'laws.FnExactViewOk', WHERE WHAT IT READS IS OF BULK AT MOST 1048576: true; the input reads as it did. -/
def fnExactViewOkUptoRow : OpenClaim := { program := "ytadmodbdkmmplaa", sum := "9ec72653a36a969b7d09ca0e04191cd73a0a18c448ffbcae093886b81d89ef5c", func := "loop.example/g00761/laws.FnExactViewOk", spec := "fnExactViewOk", unfollowed := true, recurses := true, apart := false, narrowed := true }
def FnExactViewOkUptoSaid : Prop := fnExactViewOkUptoRow.holds Try.pinned (OpenSpec.upto fnExactViewOkSpec)

/-- 'laws.FnExactReadGroup', WHERE WHAT IT READS IS OF BULK AT MOST 1048576: true; the input reads as it did. -/
def fnExactReadGroupUptoRow : OpenClaim := { program := "ytadmodbdkmmplaa", sum := "9ec72653a36a969b7d09ca0e04191cd73a0a18c448ffbcae093886b81d89ef5c", func := "loop.example/g00761/laws.FnExactReadGroup", spec := "fnExactReadGroup", unfollowed := true, recurses := true, apart := false, narrowed := true }
def FnExactReadGroupUptoSaid : Prop := fnExactReadGroupUptoRow.holds Try.pinned (OpenSpec.upto fnExactReadGroupSpec)

/-- 'laws.FnExactHostOk', WHERE WHAT IT READS IS OF BULK AT MOST 1048576: true; the input reads as it did. -/
def fnExactHostOkUptoRow : OpenClaim := { program := "ytadmodbdkmmplaa", sum := "9ec72653a36a969b7d09ca0e04191cd73a0a18c448ffbcae093886b81d89ef5c", func := "loop.example/g00761/laws.FnExactHostOk", spec := "fnExactHostOk", apart := false, narrowed := true }
def FnExactHostOkUptoSaid : Prop := fnExactHostOkUptoRow.holds Try.pinned (OpenSpec.upto fnExactHostOkSpec)

/-- 'laws.FnExactReadVol', WHERE WHAT IT READS IS OF BULK AT MOST 1048576: true; the input reads as it did. -/
def fnExactReadVolUptoRow : OpenClaim := { program := "ytadmodbdkmmplaa", sum := "9ec72653a36a969b7d09ca0e04191cd73a0a18c448ffbcae093886b81d89ef5c", func := "loop.example/g00761/laws.FnExactReadVol", spec := "fnExactReadVol", unfollowed := true, recurses := true, apart := false, narrowed := true }
def FnExactReadVolUptoSaid : Prop := fnExactReadVolUptoRow.holds Try.pinned (OpenSpec.upto fnExactReadVolSpec)

/-- 'laws.FnExactDiff', WHERE WHAT IT READS IS OF BULK AT MOST 1048576: true; the input reads as it did. -/
def fnExactDiffUptoRow : OpenClaim := { program := "ytadmodbdkmmplaa", sum := "9ec72653a36a969b7d09ca0e04191cd73a0a18c448ffbcae093886b81d89ef5c", func := "loop.example/g00761/laws.FnExactDiff", spec := "fnExactDiff", unfollowed := true, recurses := true, apart := false, narrowed := true }
def FnExactDiffUptoSaid : Prop := fnExactDiffUptoRow.holds Try.pinned (OpenSpec.upto fnExactDiffSpec)

end Rows
end Go.Proofs.Ytadmodbdkmmplaa
