/-
  No cell of these rows narrows 'for every input' (looked for: loops, veiled, ifaces, maps, wideKeys, modest, calm, conditions, laid).
  DERIVED. THE GIVEN ROWS OF THIS SEAT. 7 by the template 'for every input the law returns true; each argument reads behind the call as it read before'; 0 by the template 'total and deterministic' (their statements: YtjhkdbcfkaaffaaTotals.lean).
  GIVEN WITH THE SEED: the statements are not yours to turn. If you find one false, say at which input.
  Laid BY PROGRAM, IN A SANDBOX (cutbox-rows.mjs): the forced cells as the released guide's own fill.sh prints them over the translation a20852ea5b856f93… (all of the seat's roots in one cut). By AI agents, Wed Nov 11 2026. No macro, syntax, notation, axiom, sorry.
-/
import Derived.Test.YtjhkdbcfkaaffaaChecked
import GoSem.Claim
import GoSem.ClaimJoined
import GoSem.ClaimMapViews
import Derived.JoinedTies
import Derived.KernelRfl
namespace Go.Proofs.Ytjhkdbcfkaaffaa
/- THE CELL 'sum', in the pinned program and in every row, IS THE sha256 OF THE DUMP (.gsa) THAT YtjhkdbcfkaaffaaProg.lean LOADS. Nothing in Lean hashes anything: it is a label: what it is worth is what the hold of that sum in a sandbox is worth. -/
noncomputable def Try.pinned : Pinned := { name := "ytjhkdbcfkaaffaa", sum := "a20852ea5b856f93445acc331d248b496c99810b234569cac30b381645e934c0", checked := Try.checked }
namespace Rows
def none {H : Type} : Left H := { results := [], args := [] }

/-- 'inkhornlaw15.MsgLays': WHATEVER THE INPUT: true; the input reads as it did. -/
def msgLaysSpec : ChangeSpec := { name := "msgLays", fn := fun _ => fun
  | [d1, d2, d3, d4, d5, d6] => { results := [.lit (.bool true)], args := [d1, d2, d3, d4, d5, d6] }
  | _ => none }
def msgLaysRow : OpenClaim := { program := "ytjhkdbcfkaaffaa", sum := "a20852ea5b856f93445acc331d248b496c99810b234569cac30b381645e934c0", func := "inkhorn/inkhornlaw15.MsgLays", spec := "msgLays", inPlace := ["internal/bytealg.abigen_runtime_cmpstring"], apart := false }
def MsgLaysSaid : Prop := msgLaysRow.holds Try.pinned (OpenSpec.ofChange msgLaysSpec)

/-- ITS FALSE NEIGHBOUR: 'it returns false'. Refute it at one input. -/
def msgLaysWrong : ChangeSpec := { name := "msgLays", fn := fun _ => fun
  | [d1, d2, d3, d4, d5, d6] => { results := [.lit (.bool false)], args := [d1, d2, d3, d4, d5, d6] }
  | _ => none }
def MsgLaysWrongFalsely : Prop := msgLaysRow.holds Try.pinned (OpenSpec.ofChange msgLaysWrong)

/-- 'inkhornlaw15.MsgReads': WHATEVER THE INPUT: true; the input reads as it did. -/
def msgReadsSpec : ChangeSpec := { name := "msgReads", fn := fun _ => fun
  | [d] => { results := [.lit (.bool true)], args := [d] }
  | _ => none }
def msgReadsRow : OpenClaim := { program := "ytjhkdbcfkaaffaa", sum := "a20852ea5b856f93445acc331d248b496c99810b234569cac30b381645e934c0", func := "inkhorn/inkhornlaw15.MsgReads", spec := "msgReads", inPlace := ["internal/bytealg.abigen_runtime_cmpstring"], apart := false }
def MsgReadsSaid : Prop := msgReadsRow.holds Try.pinned (OpenSpec.ofChange msgReadsSpec)

/-- ITS FALSE NEIGHBOUR: 'it returns false'. Refute it at one input. -/
def msgReadsWrong : ChangeSpec := { name := "msgReads", fn := fun _ => fun
  | [d] => { results := [.lit (.bool false)], args := [d] }
  | _ => none }
def MsgReadsWrongFalsely : Prop := msgReadsRow.holds Try.pinned (OpenSpec.ofChange msgReadsWrong)

/-- 'inkhornlaw15.MsgBack': WHATEVER THE INPUT: true; the input reads as it did. -/
def msgBackSpec : ChangeSpec := { name := "msgBack", fn := fun _ => fun
  | [d1, d2, d3, d4, d5, d6] => { results := [.lit (.bool true)], args := [d1, d2, d3, d4, d5, d6] }
  | _ => none }
def msgBackRow : OpenClaim := { program := "ytjhkdbcfkaaffaa", sum := "a20852ea5b856f93445acc331d248b496c99810b234569cac30b381645e934c0", func := "inkhorn/inkhornlaw15.MsgBack", spec := "msgBack", inPlace := ["internal/bytealg.abigen_runtime_cmpstring"], apart := false }
def MsgBackSaid : Prop := msgBackRow.holds Try.pinned (OpenSpec.ofChange msgBackSpec)

/-- ITS FALSE NEIGHBOUR: 'it returns false'. Refute it at one input. -/
def msgBackWrong : ChangeSpec := { name := "msgBack", fn := fun _ => fun
  | [d1, d2, d3, d4, d5, d6] => { results := [.lit (.bool false)], args := [d1, d2, d3, d4, d5, d6] }
  | _ => none }
def MsgBackWrongFalsely : Prop := msgBackRow.holds Try.pinned (OpenSpec.ofChange msgBackWrong)

/-- 'inkhornlaw15.MsgTurned': WHATEVER THE INPUT: true; the input reads as it did. -/
def msgTurnedSpec : ChangeSpec := { name := "msgTurned", fn := fun _ => fun
  | [d1, d2, d3, d4, d5, d6, d7, d8] => { results := [.lit (.bool true)], args := [d1, d2, d3, d4, d5, d6, d7, d8] }
  | _ => none }
def msgTurnedRow : OpenClaim := { program := "ytjhkdbcfkaaffaa", sum := "a20852ea5b856f93445acc331d248b496c99810b234569cac30b381645e934c0", func := "inkhorn/inkhornlaw15.MsgTurned", spec := "msgTurned", inPlace := ["internal/bytealg.abigen_runtime_cmpstring"], apart := false }
def MsgTurnedSaid : Prop := msgTurnedRow.holds Try.pinned (OpenSpec.ofChange msgTurnedSpec)

/-- ITS FALSE NEIGHBOUR: 'it returns false'. Refute it at one input. -/
def msgTurnedWrong : ChangeSpec := { name := "msgTurned", fn := fun _ => fun
  | [d1, d2, d3, d4, d5, d6, d7, d8] => { results := [.lit (.bool false)], args := [d1, d2, d3, d4, d5, d6, d7, d8] }
  | _ => none }
def MsgTurnedWrongFalsely : Prop := msgTurnedRow.holds Try.pinned (OpenSpec.ofChange msgTurnedWrong)

/-- 'inkhornlaw15.MsgUnlike': WHATEVER THE INPUT: true; the input reads as it did. -/
def msgUnlikeSpec : ChangeSpec := { name := "msgUnlike", fn := fun _ => fun
  | [d1, d2, d3, d4, d5, d6, d7, d8] => { results := [.lit (.bool true)], args := [d1, d2, d3, d4, d5, d6, d7, d8] }
  | _ => none }
def msgUnlikeRow : OpenClaim := { program := "ytjhkdbcfkaaffaa", sum := "a20852ea5b856f93445acc331d248b496c99810b234569cac30b381645e934c0", func := "inkhorn/inkhornlaw15.MsgUnlike", spec := "msgUnlike", inPlace := ["internal/bytealg.abigen_runtime_cmpstring"], apart := false }
def MsgUnlikeSaid : Prop := msgUnlikeRow.holds Try.pinned (OpenSpec.ofChange msgUnlikeSpec)

/-- ITS FALSE NEIGHBOUR: 'it returns false'. Refute it at one input. -/
def msgUnlikeWrong : ChangeSpec := { name := "msgUnlike", fn := fun _ => fun
  | [d1, d2, d3, d4, d5, d6, d7, d8] => { results := [.lit (.bool false)], args := [d1, d2, d3, d4, d5, d6, d7, d8] }
  | _ => none }
def MsgUnlikeWrongFalsely : Prop := msgUnlikeRow.holds Try.pinned (OpenSpec.ofChange msgUnlikeWrong)

/-- 'inkhornlaw15.MsgSizes': WHATEVER THE INPUT: true; the input reads as it did. -/
def msgSizesSpec : ChangeSpec := { name := "msgSizes", fn := fun _ => fun
  | [d1, d2] => { results := [.lit (.bool true)], args := [d1, d2] }
  | _ => none }
def msgSizesRow : OpenClaim := { program := "ytjhkdbcfkaaffaa", sum := "a20852ea5b856f93445acc331d248b496c99810b234569cac30b381645e934c0", func := "inkhorn/inkhornlaw15.MsgSizes", spec := "msgSizes", inPlace := ["internal/bytealg.abigen_runtime_cmpstring"], apart := false }
def MsgSizesSaid : Prop := msgSizesRow.holds Try.pinned (OpenSpec.ofChange msgSizesSpec)

/-- ITS FALSE NEIGHBOUR: 'it returns false'. Refute it at one input. -/
def msgSizesWrong : ChangeSpec := { name := "msgSizes", fn := fun _ => fun
  | [d1, d2] => { results := [.lit (.bool false)], args := [d1, d2] }
  | _ => none }
def MsgSizesWrongFalsely : Prop := msgSizesRow.holds Try.pinned (OpenSpec.ofChange msgSizesWrong)

/-- 'inkhornlaw15.MsgAsk': WHATEVER THE INPUT: true; the input reads as it did. -/
def msgAskSpec : ChangeSpec := { name := "msgAsk", fn := fun _ => fun
  | [d] => { results := [.lit (.bool true)], args := [d] }
  | _ => none }
def msgAskRow : OpenClaim := { program := "ytjhkdbcfkaaffaa", sum := "a20852ea5b856f93445acc331d248b496c99810b234569cac30b381645e934c0", func := "inkhorn/inkhornlaw15.MsgAsk", spec := "msgAsk", inPlace := ["internal/bytealg.abigen_runtime_cmpstring"], apart := false }
def MsgAskSaid : Prop := msgAskRow.holds Try.pinned (OpenSpec.ofChange msgAskSpec)

/-- ITS FALSE NEIGHBOUR: 'it returns false'. Refute it at one input. -/
def msgAskWrong : ChangeSpec := { name := "msgAsk", fn := fun _ => fun
  | [d] => { results := [.lit (.bool false)], args := [d] }
  | _ => none }
def MsgAskWrongFalsely : Prop := msgAskRow.holds Try.pinned (OpenSpec.ofChange msgAskWrong)

/- THE SECOND FORM. 'bulk': how many values and letters a reading holds, each counted each time it is reached (what is shared counts as often as it is met; a slice's spare places count too). A statement '..UptoSaid' is the law's where the arguments, and the package variables that the reading takes, are together of bulk at most 1048576: NARROWER than '..Said'. Prove '..Said' where nothing that the law and all that it calls make is longer than what came in: it says more and counts as full. Else prove '..UptoSaid'. A law counts once. -/
mutual
def uptoBulk {H : Type} : DataW H → Nat
  | .lit (.string bytes) => bytes.length + 1
  | .lit _ => 1
  | .nil => 1
  | .ptr d => uptoBulk d + 1
  | .slice elems spare => uptoBulkAll elems + uptoBulkAll spare + 1
  | .agg parts => uptoBulkAll parts + 1
  | .iface _ d => uptoBulk d + 1
  | .map entries => uptoBulkEntries entries + 1
  | .held _ => 1
def uptoBulkAll {H : Type} : List (DataW H) → Nat
  | [] => 0
  | d :: r => uptoBulk d + uptoBulkAll r
def uptoBulkEntries {H : Type} : List (Lit × DataW H) → Nat
  | [] => 0
  | x :: r => uptoBulkEntry x + uptoBulkEntries r
def uptoBulkEntry {H : Type} : Lit × DataW H → Nat
  | (.string bytes, d) => bytes.length + uptoBulk d + 1
  | (_, d) => uptoBulk d + 1
 end
def uptoSmall : (H : Type) → List (DataW H) → Bool := fun _ ds => decide (uptoBulkAll ds ≤ 1048576)
def OpenSpec.upto (s : _root_.Go.ChangeSpec) : _root_.Go.OpenSpec := { _root_.Go.OpenSpec.ofChange s with cond := some uptoSmall }

/-- 'inkhornlaw15.MsgLays', WHERE WHAT IT READS IS OF BULK AT MOST 1048576: true; the input reads as it did. -/
def msgLaysUptoRow : OpenClaim := { program := "ytjhkdbcfkaaffaa", sum := "a20852ea5b856f93445acc331d248b496c99810b234569cac30b381645e934c0", func := "inkhorn/inkhornlaw15.MsgLays", spec := "msgLays", inPlace := ["internal/bytealg.abigen_runtime_cmpstring"], apart := false, narrowed := true }
def MsgLaysUptoSaid : Prop := msgLaysUptoRow.holds Try.pinned (OpenSpec.upto msgLaysSpec)

/-- 'inkhornlaw15.MsgReads', WHERE WHAT IT READS IS OF BULK AT MOST 1048576: true; the input reads as it did. -/
def msgReadsUptoRow : OpenClaim := { program := "ytjhkdbcfkaaffaa", sum := "a20852ea5b856f93445acc331d248b496c99810b234569cac30b381645e934c0", func := "inkhorn/inkhornlaw15.MsgReads", spec := "msgReads", inPlace := ["internal/bytealg.abigen_runtime_cmpstring"], apart := false, narrowed := true }
def MsgReadsUptoSaid : Prop := msgReadsUptoRow.holds Try.pinned (OpenSpec.upto msgReadsSpec)

/-- 'inkhornlaw15.MsgBack', WHERE WHAT IT READS IS OF BULK AT MOST 1048576: true; the input reads as it did. -/
def msgBackUptoRow : OpenClaim := { program := "ytjhkdbcfkaaffaa", sum := "a20852ea5b856f93445acc331d248b496c99810b234569cac30b381645e934c0", func := "inkhorn/inkhornlaw15.MsgBack", spec := "msgBack", inPlace := ["internal/bytealg.abigen_runtime_cmpstring"], apart := false, narrowed := true }
def MsgBackUptoSaid : Prop := msgBackUptoRow.holds Try.pinned (OpenSpec.upto msgBackSpec)

/-- 'inkhornlaw15.MsgTurned', WHERE WHAT IT READS IS OF BULK AT MOST 1048576: true; the input reads as it did. -/
def msgTurnedUptoRow : OpenClaim := { program := "ytjhkdbcfkaaffaa", sum := "a20852ea5b856f93445acc331d248b496c99810b234569cac30b381645e934c0", func := "inkhorn/inkhornlaw15.MsgTurned", spec := "msgTurned", inPlace := ["internal/bytealg.abigen_runtime_cmpstring"], apart := false, narrowed := true }
def MsgTurnedUptoSaid : Prop := msgTurnedUptoRow.holds Try.pinned (OpenSpec.upto msgTurnedSpec)

/-- 'inkhornlaw15.MsgUnlike', WHERE WHAT IT READS IS OF BULK AT MOST 1048576: true; the input reads as it did. -/
def msgUnlikeUptoRow : OpenClaim := { program := "ytjhkdbcfkaaffaa", sum := "a20852ea5b856f93445acc331d248b496c99810b234569cac30b381645e934c0", func := "inkhorn/inkhornlaw15.MsgUnlike", spec := "msgUnlike", inPlace := ["internal/bytealg.abigen_runtime_cmpstring"], apart := false, narrowed := true }
def MsgUnlikeUptoSaid : Prop := msgUnlikeUptoRow.holds Try.pinned (OpenSpec.upto msgUnlikeSpec)

/-- 'inkhornlaw15.MsgSizes', WHERE WHAT IT READS IS OF BULK AT MOST 1048576: true; the input reads as it did. -/
def msgSizesUptoRow : OpenClaim := { program := "ytjhkdbcfkaaffaa", sum := "a20852ea5b856f93445acc331d248b496c99810b234569cac30b381645e934c0", func := "inkhorn/inkhornlaw15.MsgSizes", spec := "msgSizes", inPlace := ["internal/bytealg.abigen_runtime_cmpstring"], apart := false, narrowed := true }
def MsgSizesUptoSaid : Prop := msgSizesUptoRow.holds Try.pinned (OpenSpec.upto msgSizesSpec)

/-- 'inkhornlaw15.MsgAsk', WHERE WHAT IT READS IS OF BULK AT MOST 1048576: true; the input reads as it did. -/
def msgAskUptoRow : OpenClaim := { program := "ytjhkdbcfkaaffaa", sum := "a20852ea5b856f93445acc331d248b496c99810b234569cac30b381645e934c0", func := "inkhorn/inkhornlaw15.MsgAsk", spec := "msgAsk", inPlace := ["internal/bytealg.abigen_runtime_cmpstring"], apart := false, narrowed := true }
def MsgAskUptoSaid : Prop := msgAskUptoRow.holds Try.pinned (OpenSpec.upto msgAskSpec)

end Rows
end Go.Proofs.Ytjhkdbcfkaaffaa
