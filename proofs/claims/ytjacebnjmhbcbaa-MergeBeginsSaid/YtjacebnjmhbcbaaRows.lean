/-
  No cell of these rows narrows 'for every input' (looked for: loops, veiled, ifaces, maps, wideKeys, modest, calm, conditions, laid).
  DERIVED. THE GIVEN ROWS OF THIS SEAT. 6 by the template 'for every input the law returns true; each argument reads behind the call as it read before'; 0 by the template 'total and deterministic' (their statements: YtjacebnjmhbcbaaTotals.lean).
  GIVEN WITH THE SEED: the statements are not yours to turn. If you find one false, say at which input.
  Laid BY PROGRAM, IN A SANDBOX (cutbox-rows.mjs): the forced cells as the released guide's own fill.sh prints them over the translation 93e94a0ff69760c4… (all of the seat's roots in one cut). By AI agents, Wed Nov 11 2026. No macro, syntax, notation, axiom, sorry.
-/
import Derived.Test.YtjacebnjmhbcbaaChecked
import GoSem.Claim
import GoSem.ClaimJoined
import GoSem.ClaimMapViews
import Derived.JoinedTies
import Derived.KernelRfl
namespace Go.Proofs.Ytjacebnjmhbcbaa
/- THE CELL 'sum', in the pinned program and in every row, IS THE sha256 OF THE DUMP (.gsa) THAT YtjacebnjmhbcbaaProg.lean LOADS. Nothing in Lean hashes anything: it is a label: what it is worth is what the hold of that sum in a sandbox is worth. -/
noncomputable def Try.pinned : Pinned := { name := "ytjacebnjmhbcbaa", sum := "93e94a0ff69760c4956cf403e20c7a0972e181ef3492e0287d24391dca7dc86f", checked := Try.checked }
namespace Rows
def none {H : Type} : Left H := { results := [], args := [] }

/-- 'inkhornlaw22.MergePasses': WHATEVER THE INPUT: true; the input reads as it did. -/
def mergePassesSpec : ChangeSpec := { name := "mergePasses", fn := fun _ => fun
  | [d1, d2, d3] => { results := [.lit (.bool true)], args := [d1, d2, d3] }
  | _ => none }
def mergePassesRow : OpenClaim := { program := "ytjacebnjmhbcbaa", sum := "93e94a0ff69760c4956cf403e20c7a0972e181ef3492e0287d24391dca7dc86f", func := "inkhorn/inkhornlaw22.MergePasses", spec := "mergePasses", inPlace := ["internal/bytealg.abigen_runtime_cmpstring"], unfollowed := true, recurses := true, apart := false }
def MergePassesSaid : Prop := mergePassesRow.holds Try.pinned (OpenSpec.ofChange mergePassesSpec)

/-- ITS FALSE NEIGHBOUR: 'it returns false'. Refute it at one input. -/
def mergePassesWrong : ChangeSpec := { name := "mergePasses", fn := fun _ => fun
  | [d1, d2, d3] => { results := [.lit (.bool false)], args := [d1, d2, d3] }
  | _ => none }
def MergePassesWrongFalsely : Prop := mergePassesRow.holds Try.pinned (OpenSpec.ofChange mergePassesWrong)

/-- 'inkhornlaw22.MergeScript': WHATEVER THE INPUT: true; the input reads as it did. -/
def mergeScriptSpec : ChangeSpec := { name := "mergeScript", fn := fun _ => fun
  | [d1, d2, d3] => { results := [.lit (.bool true)], args := [d1, d2, d3] }
  | _ => none }
def mergeScriptRow : OpenClaim := { program := "ytjacebnjmhbcbaa", sum := "93e94a0ff69760c4956cf403e20c7a0972e181ef3492e0287d24391dca7dc86f", func := "inkhorn/inkhornlaw22.MergeScript", spec := "mergeScript", inPlace := ["internal/bytealg.abigen_runtime_cmpstring"], unfollowed := true, recurses := true, apart := false }
def MergeScriptSaid : Prop := mergeScriptRow.holds Try.pinned (OpenSpec.ofChange mergeScriptSpec)

/-- ITS FALSE NEIGHBOUR: 'it returns false'. Refute it at one input. -/
def mergeScriptWrong : ChangeSpec := { name := "mergeScript", fn := fun _ => fun
  | [d1, d2, d3] => { results := [.lit (.bool false)], args := [d1, d2, d3] }
  | _ => none }
def MergeScriptWrongFalsely : Prop := mergeScriptRow.holds Try.pinned (OpenSpec.ofChange mergeScriptWrong)

/-- 'inkhornlaw22.MergeNone': WHATEVER THE INPUT: true; the input reads as it did. -/
def mergeNoneSpec : ChangeSpec := { name := "mergeNone", fn := fun _ => fun
  | [d] => { results := [.lit (.bool true)], args := [d] }
  | _ => none }
def mergeNoneRow : OpenClaim := { program := "ytjacebnjmhbcbaa", sum := "93e94a0ff69760c4956cf403e20c7a0972e181ef3492e0287d24391dca7dc86f", func := "inkhorn/inkhornlaw22.MergeNone", spec := "mergeNone", inPlace := ["internal/bytealg.abigen_runtime_cmpstring"], unfollowed := true, recurses := true, apart := false }
def MergeNoneSaid : Prop := mergeNoneRow.holds Try.pinned (OpenSpec.ofChange mergeNoneSpec)

/-- ITS FALSE NEIGHBOUR: 'it returns false'. Refute it at one input. -/
def mergeNoneWrong : ChangeSpec := { name := "mergeNone", fn := fun _ => fun
  | [d] => { results := [.lit (.bool false)], args := [d] }
  | _ => none }
def MergeNoneWrongFalsely : Prop := mergeNoneRow.holds Try.pinned (OpenSpec.ofChange mergeNoneWrong)

/-- 'inkhornlaw22.MergeOne': WHATEVER THE INPUT: true; the input reads as it did. -/
def mergeOneSpec : ChangeSpec := { name := "mergeOne", fn := fun _ => fun
  | [d1, d2, d3] => { results := [.lit (.bool true)], args := [d1, d2, d3] }
  | _ => none }
def mergeOneRow : OpenClaim := { program := "ytjacebnjmhbcbaa", sum := "93e94a0ff69760c4956cf403e20c7a0972e181ef3492e0287d24391dca7dc86f", func := "inkhorn/inkhornlaw22.MergeOne", spec := "mergeOne", inPlace := ["internal/bytealg.abigen_runtime_cmpstring"], unfollowed := true, recurses := true, apart := false }
def MergeOneSaid : Prop := mergeOneRow.holds Try.pinned (OpenSpec.ofChange mergeOneSpec)

/-- ITS FALSE NEIGHBOUR: 'it returns false'. Refute it at one input. -/
def mergeOneWrong : ChangeSpec := { name := "mergeOne", fn := fun _ => fun
  | [d1, d2, d3] => { results := [.lit (.bool false)], args := [d1, d2, d3] }
  | _ => none }
def MergeOneWrongFalsely : Prop := mergeOneRow.holds Try.pinned (OpenSpec.ofChange mergeOneWrong)

/-- 'inkhornlaw22.MergeSkips': WHATEVER THE INPUT: true; the input reads as it did. -/
def mergeSkipsSpec : ChangeSpec := { name := "mergeSkips", fn := fun _ => fun
  | [d1, d2, d3, d4] => { results := [.lit (.bool true)], args := [d1, d2, d3, d4] }
  | _ => none }
def mergeSkipsRow : OpenClaim := { program := "ytjacebnjmhbcbaa", sum := "93e94a0ff69760c4956cf403e20c7a0972e181ef3492e0287d24391dca7dc86f", func := "inkhorn/inkhornlaw22.MergeSkips", spec := "mergeSkips", inPlace := ["internal/bytealg.abigen_runtime_cmpstring"], unfollowed := true, recurses := true, apart := false }
def MergeSkipsSaid : Prop := mergeSkipsRow.holds Try.pinned (OpenSpec.ofChange mergeSkipsSpec)

/-- ITS FALSE NEIGHBOUR: 'it returns false'. Refute it at one input. -/
def mergeSkipsWrong : ChangeSpec := { name := "mergeSkips", fn := fun _ => fun
  | [d1, d2, d3, d4] => { results := [.lit (.bool false)], args := [d1, d2, d3, d4] }
  | _ => none }
def MergeSkipsWrongFalsely : Prop := mergeSkipsRow.holds Try.pinned (OpenSpec.ofChange mergeSkipsWrong)

/-- 'inkhornlaw22.MergeBegins': WHATEVER THE INPUT: true; the input reads as it did. -/
def mergeBeginsSpec : ChangeSpec := { name := "mergeBegins", fn := fun _ => fun
  | [d1, d2, d3, d4, d5] => { results := [.lit (.bool true)], args := [d1, d2, d3, d4, d5] }
  | _ => none }
def mergeBeginsRow : OpenClaim := { program := "ytjacebnjmhbcbaa", sum := "93e94a0ff69760c4956cf403e20c7a0972e181ef3492e0287d24391dca7dc86f", func := "inkhorn/inkhornlaw22.MergeBegins", spec := "mergeBegins", inPlace := ["internal/bytealg.abigen_runtime_cmpstring"], unfollowed := true, recurses := true, apart := false }
def MergeBeginsSaid : Prop := mergeBeginsRow.holds Try.pinned (OpenSpec.ofChange mergeBeginsSpec)

/-- ITS FALSE NEIGHBOUR: 'it returns false'. Refute it at one input. -/
def mergeBeginsWrong : ChangeSpec := { name := "mergeBegins", fn := fun _ => fun
  | [d1, d2, d3, d4, d5] => { results := [.lit (.bool false)], args := [d1, d2, d3, d4, d5] }
  | _ => none }
def MergeBeginsWrongFalsely : Prop := mergeBeginsRow.holds Try.pinned (OpenSpec.ofChange mergeBeginsWrong)

/- THE SECOND FORM. 'bulk': how many values and letters a reading holds, each counted each time it is reached (what is shared counts as often as it is met; a slice's spare places count too). A statement '..UptoSaid' is the law's where the arguments, and the package variables that the reading takes, are together of bulk at most 1048576: NARROWER than '..Said'. Prove '..Said' where nothing that the law and all that it calls make is longer than what came in: it says more and counts as full. Else prove '..UptoSaid'. A law counts once. -/
mutual
def uptoBulk {H : Type} : DataW H → Nat
  | .lit (.string bytes) => bytes.length + 1
  | .lit _ => 1
  | .nil => 1
  | .ptr d => uptoBulk d + 1
  | .slice elems spare => uptoBulkAll elems + uptoBulkAll spare + 1
  | .agg parts => uptoBulkAll parts + 1
  | .iface _ d => uptoBulk d + 1
  | .map entries => uptoBulkEntries entries + 1
  | .held _ => 1
def uptoBulkAll {H : Type} : List (DataW H) → Nat
  | [] => 0
  | d :: r => uptoBulk d + uptoBulkAll r
def uptoBulkEntries {H : Type} : List (Lit × DataW H) → Nat
  | [] => 0
  | x :: r => uptoBulkEntry x + uptoBulkEntries r
def uptoBulkEntry {H : Type} : Lit × DataW H → Nat
  | (.string bytes, d) => bytes.length + uptoBulk d + 1
  | (_, d) => uptoBulk d + 1
 end
def uptoSmall : (H : Type) → List (DataW H) → Bool := fun _ ds => decide (uptoBulkAll ds ≤ 1048576)
def OpenSpec.upto (s : _root_.Go.ChangeSpec) : _root_.Go.OpenSpec := { _root_.Go.OpenSpec.ofChange s with cond := some uptoSmall }

/-- 'inkhornlaw22.MergePasses', WHERE WHAT IT READS IS OF BULK AT MOST 1048576: true; the input reads as it did. -/
def mergePassesUptoRow : OpenClaim := { program := "ytjacebnjmhbcbaa", sum := "93e94a0ff69760c4956cf403e20c7a0972e181ef3492e0287d24391dca7dc86f", func := "inkhorn/inkhornlaw22.MergePasses", spec := "mergePasses", inPlace := ["internal/bytealg.abigen_runtime_cmpstring"], unfollowed := true, recurses := true, apart := false, narrowed := true }
def MergePassesUptoSaid : Prop := mergePassesUptoRow.holds Try.pinned (OpenSpec.upto mergePassesSpec)

/-- 'inkhornlaw22.MergeScript', WHERE WHAT IT READS IS OF BULK AT MOST 1048576: true; the input reads as it did. -/
def mergeScriptUptoRow : OpenClaim := { program := "ytjacebnjmhbcbaa", sum := "93e94a0ff69760c4956cf403e20c7a0972e181ef3492e0287d24391dca7dc86f", func := "inkhorn/inkhornlaw22.MergeScript", spec := "mergeScript", inPlace := ["internal/bytealg.abigen_runtime_cmpstring"], unfollowed := true, recurses := true, apart := false, narrowed := true }
def MergeScriptUptoSaid : Prop := mergeScriptUptoRow.holds Try.pinned (OpenSpec.upto mergeScriptSpec)

/-- 'inkhornlaw22.MergeNone', WHERE WHAT IT READS IS OF BULK AT MOST 1048576: true; the input reads as it did. -/
def mergeNoneUptoRow : OpenClaim := { program := "ytjacebnjmhbcbaa", sum := "93e94a0ff69760c4956cf403e20c7a0972e181ef3492e0287d24391dca7dc86f", func := "inkhorn/inkhornlaw22.MergeNone", spec := "mergeNone", inPlace := ["internal/bytealg.abigen_runtime_cmpstring"], unfollowed := true, recurses := true, apart := false, narrowed := true }
def MergeNoneUptoSaid : Prop := mergeNoneUptoRow.holds Try.pinned (OpenSpec.upto mergeNoneSpec)

/-- 'inkhornlaw22.MergeOne', WHERE WHAT IT READS IS OF BULK AT MOST 1048576: true; the input reads as it did. -/
def mergeOneUptoRow : OpenClaim := { program := "ytjacebnjmhbcbaa", sum := "93e94a0ff69760c4956cf403e20c7a0972e181ef3492e0287d24391dca7dc86f", func := "inkhorn/inkhornlaw22.MergeOne", spec := "mergeOne", inPlace := ["internal/bytealg.abigen_runtime_cmpstring"], unfollowed := true, recurses := true, apart := false, narrowed := true }
def MergeOneUptoSaid : Prop := mergeOneUptoRow.holds Try.pinned (OpenSpec.upto mergeOneSpec)

/-- 'inkhornlaw22.MergeSkips', WHERE WHAT IT READS IS OF BULK AT MOST 1048576: true; the input reads as it did. -/
def mergeSkipsUptoRow : OpenClaim := { program := "ytjacebnjmhbcbaa", sum := "93e94a0ff69760c4956cf403e20c7a0972e181ef3492e0287d24391dca7dc86f", func := "inkhorn/inkhornlaw22.MergeSkips", spec := "mergeSkips", inPlace := ["internal/bytealg.abigen_runtime_cmpstring"], unfollowed := true, recurses := true, apart := false, narrowed := true }
def MergeSkipsUptoSaid : Prop := mergeSkipsUptoRow.holds Try.pinned (OpenSpec.upto mergeSkipsSpec)

/-- 'inkhornlaw22.MergeBegins', WHERE WHAT IT READS IS OF BULK AT MOST 1048576: true; the input reads as it did. -/
def mergeBeginsUptoRow : OpenClaim := { program := "ytjacebnjmhbcbaa", sum := "93e94a0ff69760c4956cf403e20c7a0972e181ef3492e0287d24391dca7dc86f", func := "inkhorn/inkhornlaw22.MergeBegins", spec := "mergeBegins", inPlace := ["internal/bytealg.abigen_runtime_cmpstring"], unfollowed := true, recurses := true, apart := false, narrowed := true }
def MergeBeginsUptoSaid : Prop := mergeBeginsUptoRow.holds Try.pinned (OpenSpec.upto mergeBeginsSpec)

end Rows
end Go.Proofs.Ytjacebnjmhbcbaa
