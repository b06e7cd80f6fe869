/-
  No cell of these rows narrows 'for every input' (looked for: loops, veiled, ifaces, maps, wideKeys, modest, calm, conditions, laid).
  DERIVED. THE GIVEN ROWS OF THIS SEAT. 11 by the template 'for every input the law returns true; each argument reads behind the call as it read before'; 0 by the template 'total and deterministic' (their statements: YtnnkebhpmegkfaaTotals.lean).
  GIVEN WITH THE SEED: the statements are not yours to turn. If you find one false, say at which input.
  Laid BY PROGRAM, IN A SANDBOX (cutbox-rows.mjs): the forced cells as the released guide's own fill.sh prints them over the translation 25fc9587e540f71e… (all of the seat's roots in one cut). By AI agents, Wed Nov 11 2026. No macro, syntax, notation, axiom, sorry.
-/
import Derived.Test.YtnnkebhpmegkfaaChecked
import GoSem.Claim
import GoSem.ClaimJoined
import GoSem.ClaimMapViews
import Derived.JoinedTies
import Derived.KernelRfl
namespace Go.Proofs.Ytnnkebhpmegkfaa
/- THE CELL 'sum', in the pinned program and in every row, IS THE sha256 OF THE DUMP (.gsa) THAT YtnnkebhpmegkfaaProg.lean LOADS. Nothing in Lean hashes anything: it is a label: what it is worth is what the hold of that sum in a sandbox is worth. -/
noncomputable def Try.pinned : Pinned := { name := "ytnnkebhpmegkfaa", sum := "25fc9587e540f71ec9a402448451a8f44a904f28570bb6905bee40c490e5c678", checked := Try.checked }
namespace Rows
def none {H : Type} : Left H := { results := [], args := [] }

/-- 'inkhornlaw19.LeaseCounts': WHATEVER THE INPUT: true; the input reads as it did. -/
def leaseCountsSpec : ChangeSpec := { name := "leaseCounts", fn := fun _ => fun
  | [d1, d2] => { results := [.lit (.bool true)], args := [d1, d2] }
  | _ => none }
def leaseCountsRow : OpenClaim := { program := "ytnnkebhpmegkfaa", sum := "25fc9587e540f71ec9a402448451a8f44a904f28570bb6905bee40c490e5c678", func := "inkhorn/inkhornlaw19.LeaseCounts", spec := "leaseCounts", apart := false }
def LeaseCountsSaid : Prop := leaseCountsRow.holds Try.pinned (OpenSpec.ofChange leaseCountsSpec)

/-- ITS FALSE NEIGHBOUR: 'it returns false'. Refute it at one input. -/
def leaseCountsWrong : ChangeSpec := { name := "leaseCounts", fn := fun _ => fun
  | [d1, d2] => { results := [.lit (.bool false)], args := [d1, d2] }
  | _ => none }
def LeaseCountsWrongFalsely : Prop := leaseCountsRow.holds Try.pinned (OpenSpec.ofChange leaseCountsWrong)

/-- 'inkhornlaw19.LeaseLives': WHATEVER THE INPUT: true; the input reads as it did. -/
def leaseLivesSpec : ChangeSpec := { name := "leaseLives", fn := fun _ => fun
  | [d1, d2, d3, d4] => { results := [.lit (.bool true)], args := [d1, d2, d3, d4] }
  | _ => none }
def leaseLivesRow : OpenClaim := { program := "ytnnkebhpmegkfaa", sum := "25fc9587e540f71ec9a402448451a8f44a904f28570bb6905bee40c490e5c678", func := "inkhorn/inkhornlaw19.LeaseLives", spec := "leaseLives", apart := false }
def LeaseLivesSaid : Prop := leaseLivesRow.holds Try.pinned (OpenSpec.ofChange leaseLivesSpec)

/-- ITS FALSE NEIGHBOUR: 'it returns false'. Refute it at one input. -/
def leaseLivesWrong : ChangeSpec := { name := "leaseLives", fn := fun _ => fun
  | [d1, d2, d3, d4] => { results := [.lit (.bool false)], args := [d1, d2, d3, d4] }
  | _ => none }
def LeaseLivesWrongFalsely : Prop := leaseLivesRow.holds Try.pinned (OpenSpec.ofChange leaseLivesWrong)

/-- 'inkhornlaw19.LeaseScript': WHATEVER THE INPUT: true; the input reads as it did. -/
def leaseScriptSpec : ChangeSpec := { name := "leaseScript", fn := fun _ => fun
  | [d1, d2, d3, d4] => { results := [.lit (.bool true)], args := [d1, d2, d3, d4] }
  | _ => none }
def leaseScriptRow : OpenClaim := { program := "ytnnkebhpmegkfaa", sum := "25fc9587e540f71ec9a402448451a8f44a904f28570bb6905bee40c490e5c678", func := "inkhorn/inkhornlaw19.LeaseScript", spec := "leaseScript", apart := false }
def LeaseScriptSaid : Prop := leaseScriptRow.holds Try.pinned (OpenSpec.ofChange leaseScriptSpec)

/-- ITS FALSE NEIGHBOUR: 'it returns false'. Refute it at one input. -/
def leaseScriptWrong : ChangeSpec := { name := "leaseScript", fn := fun _ => fun
  | [d1, d2, d3, d4] => { results := [.lit (.bool false)], args := [d1, d2, d3, d4] }
  | _ => none }
def LeaseScriptWrongFalsely : Prop := leaseScriptRow.holds Try.pinned (OpenSpec.ofChange leaseScriptWrong)

/-- 'inkhornlaw19.LeaseRises': WHATEVER THE INPUT: true; the input reads as it did. -/
def leaseRisesSpec : ChangeSpec := { name := "leaseRises", fn := fun _ => fun
  | [d] => { results := [.lit (.bool true)], args := [d] }
  | _ => none }
def leaseRisesRow : OpenClaim := { program := "ytnnkebhpmegkfaa", sum := "25fc9587e540f71ec9a402448451a8f44a904f28570bb6905bee40c490e5c678", func := "inkhorn/inkhornlaw19.LeaseRises", spec := "leaseRises", apart := false }
def LeaseRisesSaid : Prop := leaseRisesRow.holds Try.pinned (OpenSpec.ofChange leaseRisesSpec)

/-- ITS FALSE NEIGHBOUR: 'it returns false'. Refute it at one input. -/
def leaseRisesWrong : ChangeSpec := { name := "leaseRises", fn := fun _ => fun
  | [d] => { results := [.lit (.bool false)], args := [d] }
  | _ => none }
def LeaseRisesWrongFalsely : Prop := leaseRisesRow.holds Try.pinned (OpenSpec.ofChange leaseRisesWrong)

/-- 'inkhornlaw19.LeaseNone': WHATEVER THE INPUT: true; the input reads as it did. -/
def leaseNoneSpec : ChangeSpec := { name := "leaseNone", fn := fun _ => fun
  | [d] => { results := [.lit (.bool true)], args := [d] }
  | _ => none }
def leaseNoneRow : OpenClaim := { program := "ytnnkebhpmegkfaa", sum := "25fc9587e540f71ec9a402448451a8f44a904f28570bb6905bee40c490e5c678", func := "inkhorn/inkhornlaw19.LeaseNone", spec := "leaseNone", apart := false }
def LeaseNoneSaid : Prop := leaseNoneRow.holds Try.pinned (OpenSpec.ofChange leaseNoneSpec)

/-- ITS FALSE NEIGHBOUR: 'it returns false'. Refute it at one input. -/
def leaseNoneWrong : ChangeSpec := { name := "leaseNone", fn := fun _ => fun
  | [d] => { results := [.lit (.bool false)], args := [d] }
  | _ => none }
def LeaseNoneWrongFalsely : Prop := leaseNoneRow.holds Try.pinned (OpenSpec.ofChange leaseNoneWrong)

/-- 'inkhornlaw19.LeaseApart': WHATEVER THE INPUT: true; the input reads as it did. -/
def leaseApartSpec : ChangeSpec := { name := "leaseApart", fn := fun _ => fun
  | [d1, d2] => { results := [.lit (.bool true)], args := [d1, d2] }
  | _ => none }
def leaseApartRow : OpenClaim := { program := "ytnnkebhpmegkfaa", sum := "25fc9587e540f71ec9a402448451a8f44a904f28570bb6905bee40c490e5c678", func := "inkhorn/inkhornlaw19.LeaseApart", spec := "leaseApart", apart := false }
def LeaseApartSaid : Prop := leaseApartRow.holds Try.pinned (OpenSpec.ofChange leaseApartSpec)

/-- ITS FALSE NEIGHBOUR: 'it returns false'. Refute it at one input. -/
def leaseApartWrong : ChangeSpec := { name := "leaseApart", fn := fun _ => fun
  | [d1, d2] => { results := [.lit (.bool false)], args := [d1, d2] }
  | _ => none }
def LeaseApartWrongFalsely : Prop := leaseApartRow.holds Try.pinned (OpenSpec.ofChange leaseApartWrong)

/-- 'inkhornlaw12.PartGood': WHATEVER THE INPUT: true; the input reads as it did. -/
def partGoodSpec : ChangeSpec := { name := "partGood", fn := fun _ => fun
  | [d1, d2, d3] => { results := [.lit (.bool true)], args := [d1, d2, d3] }
  | _ => none }
def partGoodRow : OpenClaim := { program := "ytnnkebhpmegkfaa", sum := "25fc9587e540f71ec9a402448451a8f44a904f28570bb6905bee40c490e5c678", func := "inkhorn/inkhornlaw12.PartGood", spec := "partGood", inPlace := ["internal/bytealg.abigen_runtime_cmpstring"], unfollowed := true, recurses := true, apart := false }
def PartGoodSaid : Prop := partGoodRow.holds Try.pinned (OpenSpec.ofChange partGoodSpec)

/-- ITS FALSE NEIGHBOUR: 'it returns false'. Refute it at one input. -/
def partGoodWrong : ChangeSpec := { name := "partGood", fn := fun _ => fun
  | [d1, d2, d3] => { results := [.lit (.bool false)], args := [d1, d2, d3] }
  | _ => none }
def PartGoodWrongFalsely : Prop := partGoodRow.holds Try.pinned (OpenSpec.ofChange partGoodWrong)

/-- 'inkhornlaw12.PartRises': WHATEVER THE INPUT: true; the input reads as it did. -/
def partRisesSpec : ChangeSpec := { name := "partRises", fn := fun _ => fun
  | [d1, d2, d3] => { results := [.lit (.bool true)], args := [d1, d2, d3] }
  | _ => none }
def partRisesRow : OpenClaim := { program := "ytnnkebhpmegkfaa", sum := "25fc9587e540f71ec9a402448451a8f44a904f28570bb6905bee40c490e5c678", func := "inkhorn/inkhornlaw12.PartRises", spec := "partRises", inPlace := ["internal/bytealg.abigen_runtime_cmpstring"], unfollowed := true, recurses := true, apart := false }
def PartRisesSaid : Prop := partRisesRow.holds Try.pinned (OpenSpec.ofChange partRisesSpec)

/-- ITS FALSE NEIGHBOUR: 'it returns false'. Refute it at one input. -/
def partRisesWrong : ChangeSpec := { name := "partRises", fn := fun _ => fun
  | [d1, d2, d3] => { results := [.lit (.bool false)], args := [d1, d2, d3] }
  | _ => none }
def PartRisesWrongFalsely : Prop := partRisesRow.holds Try.pinned (OpenSpec.ofChange partRisesWrong)

/-- 'inkhornlaw12.PartFiner': WHATEVER THE INPUT: true; the input reads as it did. -/
def partFinerSpec : ChangeSpec := { name := "partFiner", fn := fun _ => fun
  | [d1, d2, d3] => { results := [.lit (.bool true)], args := [d1, d2, d3] }
  | _ => none }
def partFinerRow : OpenClaim := { program := "ytnnkebhpmegkfaa", sum := "25fc9587e540f71ec9a402448451a8f44a904f28570bb6905bee40c490e5c678", func := "inkhorn/inkhornlaw12.PartFiner", spec := "partFiner", inPlace := ["internal/bytealg.abigen_runtime_cmpstring"], unfollowed := true, recurses := true, apart := false }
def PartFinerSaid : Prop := partFinerRow.holds Try.pinned (OpenSpec.ofChange partFinerSpec)

/-- ITS FALSE NEIGHBOUR: 'it returns false'. Refute it at one input. -/
def partFinerWrong : ChangeSpec := { name := "partFiner", fn := fun _ => fun
  | [d1, d2, d3] => { results := [.lit (.bool false)], args := [d1, d2, d3] }
  | _ => none }
def PartFinerWrongFalsely : Prop := partFinerRow.holds Try.pinned (OpenSpec.ofChange partFinerWrong)

/-- 'inkhornlaw12.PartWhole': WHATEVER THE INPUT: true; the input reads as it did. -/
def partWholeSpec : ChangeSpec := { name := "partWhole", fn := fun _ => fun
  | [d1, d2] => { results := [.lit (.bool true)], args := [d1, d2] }
  | _ => none }
def partWholeRow : OpenClaim := { program := "ytnnkebhpmegkfaa", sum := "25fc9587e540f71ec9a402448451a8f44a904f28570bb6905bee40c490e5c678", func := "inkhorn/inkhornlaw12.PartWhole", spec := "partWhole", inPlace := ["internal/bytealg.abigen_runtime_cmpstring"], unfollowed := true, recurses := true, apart := false }
def PartWholeSaid : Prop := partWholeRow.holds Try.pinned (OpenSpec.ofChange partWholeSpec)

/-- ITS FALSE NEIGHBOUR: 'it returns false'. Refute it at one input. -/
def partWholeWrong : ChangeSpec := { name := "partWhole", fn := fun _ => fun
  | [d1, d2] => { results := [.lit (.bool false)], args := [d1, d2] }
  | _ => none }
def PartWholeWrongFalsely : Prop := partWholeRow.holds Try.pinned (OpenSpec.ofChange partWholeWrong)

/-- 'inkhornlaw12.PartFar': WHATEVER THE INPUT: true; the input reads as it did. -/
def partFarSpec : ChangeSpec := { name := "partFar", fn := fun _ => fun
  | [d1, d2, d3] => { results := [.lit (.bool true)], args := [d1, d2, d3] }
  | _ => none }
def partFarRow : OpenClaim := { program := "ytnnkebhpmegkfaa", sum := "25fc9587e540f71ec9a402448451a8f44a904f28570bb6905bee40c490e5c678", func := "inkhorn/inkhornlaw12.PartFar", spec := "partFar", inPlace := ["internal/bytealg.abigen_runtime_cmpstring"], unfollowed := true, recurses := true, apart := false }
def PartFarSaid : Prop := partFarRow.holds Try.pinned (OpenSpec.ofChange partFarSpec)

/-- ITS FALSE NEIGHBOUR: 'it returns false'. Refute it at one input. -/
def partFarWrong : ChangeSpec := { name := "partFar", fn := fun _ => fun
  | [d1, d2, d3] => { results := [.lit (.bool false)], args := [d1, d2, d3] }
  | _ => none }
def PartFarWrongFalsely : Prop := partFarRow.holds Try.pinned (OpenSpec.ofChange partFarWrong)

/- THE SECOND FORM. 'bulk': how many values and letters a reading holds, each counted each time it is reached (what is shared counts as often as it is met; a slice's spare places count too). A statement '..UptoSaid' is the law's where the arguments, and the package variables that the reading takes, are together of bulk at most 1048576: NARROWER than '..Said'. Prove '..Said' where nothing that the law and all that it calls make is longer than what came in: it says more and counts as full. Else prove '..UptoSaid'. A law counts once. -/
mutual
def uptoBulk {H : Type} : DataW H → Nat
  | .lit (.string bytes) => bytes.length + 1
  | .lit _ => 1
  | .nil => 1
  | .ptr d => uptoBulk d + 1
  | .slice elems spare => uptoBulkAll elems + uptoBulkAll spare + 1
  | .agg parts => uptoBulkAll parts + 1
  | .iface _ d => uptoBulk d + 1
  | .map entries => uptoBulkEntries entries + 1
  | .held _ => 1
def uptoBulkAll {H : Type} : List (DataW H) → Nat
  | [] => 0
  | d :: r => uptoBulk d + uptoBulkAll r
def uptoBulkEntries {H : Type} : List (Lit × DataW H) → Nat
  | [] => 0
  | x :: r => uptoBulkEntry x + uptoBulkEntries r
def uptoBulkEntry {H : Type} : Lit × DataW H → Nat
  | (.string bytes, d) => bytes.length + uptoBulk d + 1
  | (_, d) => uptoBulk d + 1
 end
def uptoSmall : (H : Type) → List (DataW H) → Bool := fun _ ds => decide (uptoBulkAll ds ≤ 1048576)
def OpenSpec.upto (s : _root_.Go.ChangeSpec) : _root_.Go.OpenSpec := { _root_.Go.OpenSpec.ofChange s with cond := some uptoSmall }

/-- 'inkhornlaw19.LeaseCounts', WHERE WHAT IT READS IS OF BULK AT MOST 1048576: true; the input reads as it did. -/
def leaseCountsUptoRow : OpenClaim := { program := "ytnnkebhpmegkfaa", sum := "25fc9587e540f71ec9a402448451a8f44a904f28570bb6905bee40c490e5c678", func := "inkhorn/inkhornlaw19.LeaseCounts", spec := "leaseCounts", apart := false, narrowed := true }
def LeaseCountsUptoSaid : Prop := leaseCountsUptoRow.holds Try.pinned (OpenSpec.upto leaseCountsSpec)

/-- 'inkhornlaw19.LeaseLives', WHERE WHAT IT READS IS OF BULK AT MOST 1048576: true; the input reads as it did. -/
def leaseLivesUptoRow : OpenClaim := { program := "ytnnkebhpmegkfaa", sum := "25fc9587e540f71ec9a402448451a8f44a904f28570bb6905bee40c490e5c678", func := "inkhorn/inkhornlaw19.LeaseLives", spec := "leaseLives", apart := false, narrowed := true }
def LeaseLivesUptoSaid : Prop := leaseLivesUptoRow.holds Try.pinned (OpenSpec.upto leaseLivesSpec)

/-- 'inkhornlaw19.LeaseScript', WHERE WHAT IT READS IS OF BULK AT MOST 1048576: true; the input reads as it did. -/
def leaseScriptUptoRow : OpenClaim := { program := "ytnnkebhpmegkfaa", sum := "25fc9587e540f71ec9a402448451a8f44a904f28570bb6905bee40c490e5c678", func := "inkhorn/inkhornlaw19.LeaseScript", spec := "leaseScript", apart := false, narrowed := true }
def LeaseScriptUptoSaid : Prop := leaseScriptUptoRow.holds Try.pinned (OpenSpec.upto leaseScriptSpec)

/-- 'inkhornlaw19.LeaseRises', WHERE WHAT IT READS IS OF BULK AT MOST 1048576: true; the input reads as it did. -/
def leaseRisesUptoRow : OpenClaim := { program := "ytnnkebhpmegkfaa", sum := "25fc9587e540f71ec9a402448451a8f44a904f28570bb6905bee40c490e5c678", func := "inkhorn/inkhornlaw19.LeaseRises", spec := "leaseRises", apart := false, narrowed := true }
def LeaseRisesUptoSaid : Prop := leaseRisesUptoRow.holds Try.pinned (OpenSpec.upto leaseRisesSpec)

/-- 'inkhornlaw19.LeaseNone', WHERE WHAT IT READS IS OF BULK AT MOST 1048576: true; the input reads as it did. -/
def leaseNoneUptoRow : OpenClaim := { program := "ytnnkebhpmegkfaa", sum := "25fc9587e540f71ec9a402448451a8f44a904f28570bb6905bee40c490e5c678", func := "inkhorn/inkhornlaw19.LeaseNone", spec := "leaseNone", apart := false, narrowed := true }
def LeaseNoneUptoSaid : Prop := leaseNoneUptoRow.holds Try.pinned (OpenSpec.upto leaseNoneSpec)

/-- 'inkhornlaw19.LeaseApart', WHERE WHAT IT READS IS OF BULK AT MOST 1048576: true; the input reads as it did. -/
def leaseApartUptoRow : OpenClaim := { program := "ytnnkebhpmegkfaa", sum := "25fc9587e540f71ec9a402448451a8f44a904f28570bb6905bee40c490e5c678", func := "inkhorn/inkhornlaw19.LeaseApart", spec := "leaseApart", apart := false, narrowed := true }
def LeaseApartUptoSaid : Prop := leaseApartUptoRow.holds Try.pinned (OpenSpec.upto leaseApartSpec)

/-- 'inkhornlaw12.PartGood', WHERE WHAT IT READS IS OF BULK AT MOST 1048576: true; the input reads as it did. -/
def partGoodUptoRow : OpenClaim := { program := "ytnnkebhpmegkfaa", sum := "25fc9587e540f71ec9a402448451a8f44a904f28570bb6905bee40c490e5c678", func := "inkhorn/inkhornlaw12.PartGood", spec := "partGood", inPlace := ["internal/bytealg.abigen_runtime_cmpstring"], unfollowed := true, recurses := true, apart := false, narrowed := true }
def PartGoodUptoSaid : Prop := partGoodUptoRow.holds Try.pinned (OpenSpec.upto partGoodSpec)

/-- 'inkhornlaw12.PartRises', WHERE WHAT IT READS IS OF BULK AT MOST 1048576: true; the input reads as it did. -/
def partRisesUptoRow : OpenClaim := { program := "ytnnkebhpmegkfaa", sum := "25fc9587e540f71ec9a402448451a8f44a904f28570bb6905bee40c490e5c678", func := "inkhorn/inkhornlaw12.PartRises", spec := "partRises", inPlace := ["internal/bytealg.abigen_runtime_cmpstring"], unfollowed := true, recurses := true, apart := false, narrowed := true }
def PartRisesUptoSaid : Prop := partRisesUptoRow.holds Try.pinned (OpenSpec.upto partRisesSpec)

/-- 'inkhornlaw12.PartFiner', WHERE WHAT IT READS IS OF BULK AT MOST 1048576: true; the input reads as it did. -/
def partFinerUptoRow : OpenClaim := { program := "ytnnkebhpmegkfaa", sum := "25fc9587e540f71ec9a402448451a8f44a904f28570bb6905bee40c490e5c678", func := "inkhorn/inkhornlaw12.PartFiner", spec := "partFiner", inPlace := ["internal/bytealg.abigen_runtime_cmpstring"], unfollowed := true, recurses := true, apart := false, narrowed := true }
def PartFinerUptoSaid : Prop := partFinerUptoRow.holds Try.pinned (OpenSpec.upto partFinerSpec)

/-- 'inkhornlaw12.PartWhole', WHERE WHAT IT READS IS OF BULK AT MOST 1048576: true; the input reads as it did. -/
def partWholeUptoRow : OpenClaim := { program := "ytnnkebhpmegkfaa", sum := "25fc9587e540f71ec9a402448451a8f44a904f28570bb6905bee40c490e5c678", func := "inkhorn/inkhornlaw12.PartWhole", spec := "partWhole", inPlace := ["internal/bytealg.abigen_runtime_cmpstring"], unfollowed := true, recurses := true, apart := false, narrowed := true }
def PartWholeUptoSaid : Prop := partWholeUptoRow.holds Try.pinned (OpenSpec.upto partWholeSpec)

/-- 'inkhornlaw12.PartFar', WHERE WHAT IT READS IS OF BULK AT MOST 1048576: true; the input reads as it did. -/
def partFarUptoRow : OpenClaim := { program := "ytnnkebhpmegkfaa", sum := "25fc9587e540f71ec9a402448451a8f44a904f28570bb6905bee40c490e5c678", func := "inkhorn/inkhornlaw12.PartFar", spec := "partFar", inPlace := ["internal/bytealg.abigen_runtime_cmpstring"], unfollowed := true, recurses := true, apart := false, narrowed := true }
def PartFarUptoSaid : Prop := partFarUptoRow.holds Try.pinned (OpenSpec.upto partFarSpec)

end Rows
end Go.Proofs.Ytnnkebhpmegkfaa
