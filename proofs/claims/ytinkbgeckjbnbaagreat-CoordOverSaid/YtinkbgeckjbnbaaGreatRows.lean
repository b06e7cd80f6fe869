/-
  No cell of these rows narrows 'for every input' (looked for: loops, veiled, ifaces, maps, wideKeys, modest, calm, conditions, laid).
  DERIVED. THE GIVEN ROWS OF THIS SEAT. 9 by the template 'for every input the law returns true; each argument reads behind the call as it read before'; 0 by the template 'total and deterministic' (their statements: YtinkbgeckjbnbaaGreatTotals.lean).
  GIVEN WITH THE SEED: the statements are not yours to turn. If you find one false, say at which input.
  Laid BY PROGRAM, IN A SANDBOX (cutbox-rows.mjs): the forced cells as the released guide's own fill.sh prints them over the translation 037f5197dbff5627… (all of the seat's roots in one cut). By AI agents, Wed Nov 11 2026. No macro, syntax, notation, axiom, sorry.
-/
import Derived.Test.YtinkbgeckjbnbaaGreatChecked
import GoSem.Claim
import GoSem.ClaimJoined
import GoSem.ClaimMapViews
import Derived.JoinedTies
import Derived.KernelRfl
namespace Go.Proofs.YtinkbgeckjbnbaaGreat
/- THE CELL 'sum', in the pinned program and in every row, IS THE sha256 OF THE DUMP (.gsa) THAT YtinkbgeckjbnbaaGreatProg.lean LOADS. Nothing in Lean hashes anything: it is a label: what it is worth is what the hold of that sum in a sandbox is worth. -/
noncomputable def Tryz.pinned : Pinned := { name := "ytinkbgeckjbnbaagreat", sum := "037f5197dbff5627720bdb33188611658231cec3798fee5847c207ede9b9537b", checked := Tryz.checked }
namespace Rows
def none {H : Type} : Left H := { results := [], args := [] }

/-- 'inkhornlaw24.CoordRounds': WHATEVER THE INPUT: true; the input reads as it did. -/
def coordRoundsSpec : ChangeSpec := { name := "coordRounds", fn := fun _ => fun
  | [d1, d2] => { results := [.lit (.bool true)], args := [d1, d2] }
  | _ => none }
def coordRoundsRow : OpenClaim := { program := "ytinkbgeckjbnbaagreat", sum := "037f5197dbff5627720bdb33188611658231cec3798fee5847c207ede9b9537b", func := "inkhorn/inkhornlaw24.CoordRounds", spec := "coordRounds", inPlace := ["internal/bytealg.abigen_runtime_cmpstring"], unfollowed := true, recurses := true, apart := false }
def CoordRoundsSaid : Prop := coordRoundsRow.holds Tryz.pinned (OpenSpec.ofChange coordRoundsSpec)

/-- ITS FALSE NEIGHBOUR: 'it returns false'. Refute it at one input. -/
def coordRoundsWrong : ChangeSpec := { name := "coordRounds", fn := fun _ => fun
  | [d1, d2] => { results := [.lit (.bool false)], args := [d1, d2] }
  | _ => none }
def CoordRoundsWrongFalsely : Prop := coordRoundsRow.holds Tryz.pinned (OpenSpec.ofChange coordRoundsWrong)

/-- 'inkhornlaw24.CoordFirst': WHATEVER THE INPUT: true; the input reads as it did. -/
def coordFirstSpec : ChangeSpec := { name := "coordFirst", fn := fun _ => fun
  | [d1, d2, d3, d4] => { results := [.lit (.bool true)], args := [d1, d2, d3, d4] }
  | _ => none }
def coordFirstRow : OpenClaim := { program := "ytinkbgeckjbnbaagreat", sum := "037f5197dbff5627720bdb33188611658231cec3798fee5847c207ede9b9537b", func := "inkhorn/inkhornlaw24.CoordFirst", spec := "coordFirst", inPlace := ["internal/bytealg.abigen_runtime_cmpstring"], unfollowed := true, recurses := true, apart := false }
def CoordFirstSaid : Prop := coordFirstRow.holds Tryz.pinned (OpenSpec.ofChange coordFirstSpec)

/-- ITS FALSE NEIGHBOUR: 'it returns false'. Refute it at one input. -/
def coordFirstWrong : ChangeSpec := { name := "coordFirst", fn := fun _ => fun
  | [d1, d2, d3, d4] => { results := [.lit (.bool false)], args := [d1, d2, d3, d4] }
  | _ => none }
def CoordFirstWrongFalsely : Prop := coordFirstRow.holds Tryz.pinned (OpenSpec.ofChange coordFirstWrong)

/-- 'inkhornlaw24.CoordNone': WHATEVER THE INPUT: true; the input reads as it did. -/
def coordNoneSpec : ChangeSpec := { name := "coordNone", fn := fun _ => fun
  | [d] => { results := [.lit (.bool true)], args := [d] }
  | _ => none }
def coordNoneRow : OpenClaim := { program := "ytinkbgeckjbnbaagreat", sum := "037f5197dbff5627720bdb33188611658231cec3798fee5847c207ede9b9537b", func := "inkhorn/inkhornlaw24.CoordNone", spec := "coordNone", inPlace := ["internal/bytealg.abigen_runtime_cmpstring"], unfollowed := true, recurses := true, apart := false }
def CoordNoneSaid : Prop := coordNoneRow.holds Tryz.pinned (OpenSpec.ofChange coordNoneSpec)

/-- ITS FALSE NEIGHBOUR: 'it returns false'. Refute it at one input. -/
def coordNoneWrong : ChangeSpec := { name := "coordNone", fn := fun _ => fun
  | [d] => { results := [.lit (.bool false)], args := [d] }
  | _ => none }
def CoordNoneWrongFalsely : Prop := coordNoneRow.holds Tryz.pinned (OpenSpec.ofChange coordNoneWrong)

/-- 'inkhornlaw24.CoordBounds': WHATEVER THE INPUT: true; the input reads as it did. -/
def coordBoundsSpec : ChangeSpec := { name := "coordBounds", fn := fun _ => fun
  | [d1, d2] => { results := [.lit (.bool true)], args := [d1, d2] }
  | _ => none }
def coordBoundsRow : OpenClaim := { program := "ytinkbgeckjbnbaagreat", sum := "037f5197dbff5627720bdb33188611658231cec3798fee5847c207ede9b9537b", func := "inkhorn/inkhornlaw24.CoordBounds", spec := "coordBounds", inPlace := ["internal/bytealg.abigen_runtime_cmpstring"], unfollowed := true, recurses := true, apart := false }
def CoordBoundsSaid : Prop := coordBoundsRow.holds Tryz.pinned (OpenSpec.ofChange coordBoundsSpec)

/-- ITS FALSE NEIGHBOUR: 'it returns false'. Refute it at one input. -/
def coordBoundsWrong : ChangeSpec := { name := "coordBounds", fn := fun _ => fun
  | [d1, d2] => { results := [.lit (.bool false)], args := [d1, d2] }
  | _ => none }
def CoordBoundsWrongFalsely : Prop := coordBoundsRow.holds Tryz.pinned (OpenSpec.ofChange coordBoundsWrong)

/-- 'inkhornlaw24.CoordOver': WHATEVER THE INPUT: true; the input reads as it did. -/
def coordOverSpec : ChangeSpec := { name := "coordOver", fn := fun _ => fun
  | [d1, d2, d3] => { results := [.lit (.bool true)], args := [d1, d2, d3] }
  | _ => none }
def coordOverRow : OpenClaim := { program := "ytinkbgeckjbnbaagreat", sum := "037f5197dbff5627720bdb33188611658231cec3798fee5847c207ede9b9537b", func := "inkhorn/inkhornlaw24.CoordOver", spec := "coordOver", inPlace := ["internal/bytealg.abigen_runtime_cmpstring"], unfollowed := true, recurses := true, apart := false }
def CoordOverSaid : Prop := coordOverRow.holds Tryz.pinned (OpenSpec.ofChange coordOverSpec)

/-- ITS FALSE NEIGHBOUR: 'it returns false'. Refute it at one input. -/
def coordOverWrong : ChangeSpec := { name := "coordOver", fn := fun _ => fun
  | [d1, d2, d3] => { results := [.lit (.bool false)], args := [d1, d2, d3] }
  | _ => none }
def CoordOverWrongFalsely : Prop := coordOverRow.holds Tryz.pinned (OpenSpec.ofChange coordOverWrong)

/-- 'inkhornlaw24.CoordAsks': WHATEVER THE INPUT: true; the input reads as it did. -/
def coordAsksSpec : ChangeSpec := { name := "coordAsks", fn := fun _ => fun
  | [d1, d2, d3] => { results := [.lit (.bool true)], args := [d1, d2, d3] }
  | _ => none }
def coordAsksRow : OpenClaim := { program := "ytinkbgeckjbnbaagreat", sum := "037f5197dbff5627720bdb33188611658231cec3798fee5847c207ede9b9537b", func := "inkhorn/inkhornlaw24.CoordAsks", spec := "coordAsks", inPlace := ["internal/bytealg.abigen_runtime_cmpstring"], unfollowed := true, recurses := true, apart := false }
def CoordAsksSaid : Prop := coordAsksRow.holds Tryz.pinned (OpenSpec.ofChange coordAsksSpec)

/-- ITS FALSE NEIGHBOUR: 'it returns false'. Refute it at one input. -/
def coordAsksWrong : ChangeSpec := { name := "coordAsks", fn := fun _ => fun
  | [d1, d2, d3] => { results := [.lit (.bool false)], args := [d1, d2, d3] }
  | _ => none }
def CoordAsksWrongFalsely : Prop := coordAsksRow.holds Tryz.pinned (OpenSpec.ofChange coordAsksWrong)

/-- 'inkhornlaw24.CoordEpochs': WHATEVER THE INPUT: true; the input reads as it did. -/
def coordEpochsSpec : ChangeSpec := { name := "coordEpochs", fn := fun _ => fun
  | [d1, d2, d3, d4] => { results := [.lit (.bool true)], args := [d1, d2, d3, d4] }
  | _ => none }
def coordEpochsRow : OpenClaim := { program := "ytinkbgeckjbnbaagreat", sum := "037f5197dbff5627720bdb33188611658231cec3798fee5847c207ede9b9537b", func := "inkhorn/inkhornlaw24.CoordEpochs", spec := "coordEpochs", inPlace := ["internal/bytealg.abigen_runtime_cmpstring"], unfollowed := true, recurses := true, apart := false }
def CoordEpochsSaid : Prop := coordEpochsRow.holds Tryz.pinned (OpenSpec.ofChange coordEpochsSpec)

/-- ITS FALSE NEIGHBOUR: 'it returns false'. Refute it at one input. -/
def coordEpochsWrong : ChangeSpec := { name := "coordEpochs", fn := fun _ => fun
  | [d1, d2, d3, d4] => { results := [.lit (.bool false)], args := [d1, d2, d3, d4] }
  | _ => none }
def CoordEpochsWrongFalsely : Prop := coordEpochsRow.holds Tryz.pinned (OpenSpec.ofChange coordEpochsWrong)

/-- 'inkhornlaw24.CoordRight': WHATEVER THE INPUT: true; the input reads as it did. -/
def coordRightSpec : ChangeSpec := { name := "coordRight", fn := fun _ => fun
  | [d1, d2] => { results := [.lit (.bool true)], args := [d1, d2] }
  | _ => none }
def coordRightRow : OpenClaim := { program := "ytinkbgeckjbnbaagreat", sum := "037f5197dbff5627720bdb33188611658231cec3798fee5847c207ede9b9537b", func := "inkhorn/inkhornlaw24.CoordRight", spec := "coordRight", inPlace := ["internal/bytealg.abigen_runtime_cmpstring"], unfollowed := true, recurses := true, apart := false }
def CoordRightSaid : Prop := coordRightRow.holds Tryz.pinned (OpenSpec.ofChange coordRightSpec)

/-- ITS FALSE NEIGHBOUR: 'it returns false'. Refute it at one input. -/
def coordRightWrong : ChangeSpec := { name := "coordRight", fn := fun _ => fun
  | [d1, d2] => { results := [.lit (.bool false)], args := [d1, d2] }
  | _ => none }
def CoordRightWrongFalsely : Prop := coordRightRow.holds Tryz.pinned (OpenSpec.ofChange coordRightWrong)

/-- 'inkhornlaw24.CoordScript': WHATEVER THE INPUT: true; the input reads as it did. -/
def coordScriptSpec : ChangeSpec := { name := "coordScript", fn := fun _ => fun
  | [d1, d2] => { results := [.lit (.bool true)], args := [d1, d2] }
  | _ => none }
def coordScriptRow : OpenClaim := { program := "ytinkbgeckjbnbaagreat", sum := "037f5197dbff5627720bdb33188611658231cec3798fee5847c207ede9b9537b", func := "inkhorn/inkhornlaw24.CoordScript", spec := "coordScript", inPlace := ["internal/bytealg.abigen_runtime_cmpstring"], unfollowed := true, recurses := true, apart := false }
def CoordScriptSaid : Prop := coordScriptRow.holds Tryz.pinned (OpenSpec.ofChange coordScriptSpec)

/-- ITS FALSE NEIGHBOUR: 'it returns false'. Refute it at one input. -/
def coordScriptWrong : ChangeSpec := { name := "coordScript", fn := fun _ => fun
  | [d1, d2] => { results := [.lit (.bool false)], args := [d1, d2] }
  | _ => none }
def CoordScriptWrongFalsely : Prop := coordScriptRow.holds Tryz.pinned (OpenSpec.ofChange coordScriptWrong)

/- THE SECOND FORM. 'bulk': how many values and letters a reading holds, each counted each time it is reached (what is shared counts as often as it is met; a slice's spare places count too). A statement '..UptoSaid' is the law's where the arguments, and the package variables that the reading takes, are together of bulk at most 1048576: NARROWER than '..Said'. Prove '..Said' where nothing that the law and all that it calls make is longer than what came in: it says more and counts as full. Else prove '..UptoSaid'. A law counts once. -/
mutual
def uptoBulk {H : Type} : DataW H → Nat
  | .lit (.string bytes) => bytes.length + 1
  | .lit _ => 1
  | .nil => 1
  | .ptr d => uptoBulk d + 1
  | .slice elems spare => uptoBulkAll elems + uptoBulkAll spare + 1
  | .agg parts => uptoBulkAll parts + 1
  | .iface _ d => uptoBulk d + 1
  | .map entries => uptoBulkEntries entries + 1
  | .held _ => 1
def uptoBulkAll {H : Type} : List (DataW H) → Nat
  | [] => 0
  | d :: r => uptoBulk d + uptoBulkAll r
def uptoBulkEntries {H : Type} : List (Lit × DataW H) → Nat
  | [] => 0
  | x :: r => uptoBulkEntry x + uptoBulkEntries r
def uptoBulkEntry {H : Type} : Lit × DataW H → Nat
  | (.string bytes, d) => bytes.length + uptoBulk d + 1
  | (_, d) => uptoBulk d + 1
 end
def uptoSmall : (H : Type) → List (DataW H) → Bool := fun _ ds => decide (uptoBulkAll ds ≤ 1048576)
def OpenSpec.upto (s : _root_.Go.ChangeSpec) : _root_.Go.OpenSpec := { _root_.Go.OpenSpec.ofChange s with cond := some uptoSmall }

/-- 'inkhornlaw24.CoordRounds', WHERE WHAT IT READS IS OF BULK AT MOST 1048576: true; the input reads as it did. -/
def coordRoundsUptoRow : OpenClaim := { program := "ytinkbgeckjbnbaagreat", sum := "037f5197dbff5627720bdb33188611658231cec3798fee5847c207ede9b9537b", func := "inkhorn/inkhornlaw24.CoordRounds", spec := "coordRounds", inPlace := ["internal/bytealg.abigen_runtime_cmpstring"], unfollowed := true, recurses := true, apart := false, narrowed := true }
def CoordRoundsUptoSaid : Prop := coordRoundsUptoRow.holds Tryz.pinned (OpenSpec.upto coordRoundsSpec)

/-- 'inkhornlaw24.CoordFirst', WHERE WHAT IT READS IS OF BULK AT MOST 1048576: true; the input reads as it did. -/
def coordFirstUptoRow : OpenClaim := { program := "ytinkbgeckjbnbaagreat", sum := "037f5197dbff5627720bdb33188611658231cec3798fee5847c207ede9b9537b", func := "inkhorn/inkhornlaw24.CoordFirst", spec := "coordFirst", inPlace := ["internal/bytealg.abigen_runtime_cmpstring"], unfollowed := true, recurses := true, apart := false, narrowed := true }
def CoordFirstUptoSaid : Prop := coordFirstUptoRow.holds Tryz.pinned (OpenSpec.upto coordFirstSpec)

/-- 'inkhornlaw24.CoordNone', WHERE WHAT IT READS IS OF BULK AT MOST 1048576: true; the input reads as it did. -/
def coordNoneUptoRow : OpenClaim := { program := "ytinkbgeckjbnbaagreat", sum := "037f5197dbff5627720bdb33188611658231cec3798fee5847c207ede9b9537b", func := "inkhorn/inkhornlaw24.CoordNone", spec := "coordNone", inPlace := ["internal/bytealg.abigen_runtime_cmpstring"], unfollowed := true, recurses := true, apart := false, narrowed := true }
def CoordNoneUptoSaid : Prop := coordNoneUptoRow.holds Tryz.pinned (OpenSpec.upto coordNoneSpec)

/-- 'inkhornlaw24.CoordBounds', WHERE WHAT IT READS IS OF BULK AT MOST 1048576: true; the input reads as it did. -/
def coordBoundsUptoRow : OpenClaim := { program := "ytinkbgeckjbnbaagreat", sum := "037f5197dbff5627720bdb33188611658231cec3798fee5847c207ede9b9537b", func := "inkhorn/inkhornlaw24.CoordBounds", spec := "coordBounds", inPlace := ["internal/bytealg.abigen_runtime_cmpstring"], unfollowed := true, recurses := true, apart := false, narrowed := true }
def CoordBoundsUptoSaid : Prop := coordBoundsUptoRow.holds Tryz.pinned (OpenSpec.upto coordBoundsSpec)

/-- 'inkhornlaw24.CoordOver', WHERE WHAT IT READS IS OF BULK AT MOST 1048576: true; the input reads as it did. -/
def coordOverUptoRow : OpenClaim := { program := "ytinkbgeckjbnbaagreat", sum := "037f5197dbff5627720bdb33188611658231cec3798fee5847c207ede9b9537b", func := "inkhorn/inkhornlaw24.CoordOver", spec := "coordOver", inPlace := ["internal/bytealg.abigen_runtime_cmpstring"], unfollowed := true, recurses := true, apart := false, narrowed := true }
def CoordOverUptoSaid : Prop := coordOverUptoRow.holds Tryz.pinned (OpenSpec.upto coordOverSpec)

/-- 'inkhornlaw24.CoordAsks', WHERE WHAT IT READS IS OF BULK AT MOST 1048576: true; the input reads as it did. -/
def coordAsksUptoRow : OpenClaim := { program := "ytinkbgeckjbnbaagreat", sum := "037f5197dbff5627720bdb33188611658231cec3798fee5847c207ede9b9537b", func := "inkhorn/inkhornlaw24.CoordAsks", spec := "coordAsks", inPlace := ["internal/bytealg.abigen_runtime_cmpstring"], unfollowed := true, recurses := true, apart := false, narrowed := true }
def CoordAsksUptoSaid : Prop := coordAsksUptoRow.holds Tryz.pinned (OpenSpec.upto coordAsksSpec)

/-- 'inkhornlaw24.CoordEpochs', WHERE WHAT IT READS IS OF BULK AT MOST 1048576: true; the input reads as it did. -/
def coordEpochsUptoRow : OpenClaim := { program := "ytinkbgeckjbnbaagreat", sum := "037f5197dbff5627720bdb33188611658231cec3798fee5847c207ede9b9537b", func := "inkhorn/inkhornlaw24.CoordEpochs", spec := "coordEpochs", inPlace := ["internal/bytealg.abigen_runtime_cmpstring"], unfollowed := true, recurses := true, apart := false, narrowed := true }
def CoordEpochsUptoSaid : Prop := coordEpochsUptoRow.holds Tryz.pinned (OpenSpec.upto coordEpochsSpec)

/-- 'inkhornlaw24.CoordRight', WHERE WHAT IT READS IS OF BULK AT MOST 1048576: true; the input reads as it did. -/
def coordRightUptoRow : OpenClaim := { program := "ytinkbgeckjbnbaagreat", sum := "037f5197dbff5627720bdb33188611658231cec3798fee5847c207ede9b9537b", func := "inkhorn/inkhornlaw24.CoordRight", spec := "coordRight", inPlace := ["internal/bytealg.abigen_runtime_cmpstring"], unfollowed := true, recurses := true, apart := false, narrowed := true }
def CoordRightUptoSaid : Prop := coordRightUptoRow.holds Tryz.pinned (OpenSpec.upto coordRightSpec)

/-- 'inkhornlaw24.CoordScript', WHERE WHAT IT READS IS OF BULK AT MOST 1048576: true; the input reads as it did. -/
def coordScriptUptoRow : OpenClaim := { program := "ytinkbgeckjbnbaagreat", sum := "037f5197dbff5627720bdb33188611658231cec3798fee5847c207ede9b9537b", func := "inkhorn/inkhornlaw24.CoordScript", spec := "coordScript", inPlace := ["internal/bytealg.abigen_runtime_cmpstring"], unfollowed := true, recurses := true, apart := false, narrowed := true }
def CoordScriptUptoSaid : Prop := coordScriptUptoRow.holds Tryz.pinned (OpenSpec.upto coordScriptSpec)

end Rows
end Go.Proofs.YtinkbgeckjbnbaaGreat
