/-
  No cell of these rows narrows 'for every input' (looked for: loops, veiled, ifaces, maps, wideKeys, modest, calm, conditions, laid).
  DERIVED. THE GIVEN ROWS OF THIS SEAT. 11 by the template 'for every input the law returns true; each argument reads behind the call as it read before'; 0 by the template 'total and deterministic' (their statements: YtiohngcmojkheaaTotals.lean).
  GIVEN WITH THE SEED: the statements are not yours to turn. If you find one false, say at which input.
  Laid BY PROGRAM, IN A SANDBOX (cutbox-rows.mjs): the forced cells as the released guide's own fill.sh prints them over the translation 0112d0f033f6fe3b… (all of the seat's roots in one cut). By AI agents, Wed Nov 11 2026. No macro, syntax, notation, axiom, sorry.
-/
import Derived.Test.YtiohngcmojkheaaChecked
import GoSem.Claim
import GoSem.ClaimJoined
import GoSem.ClaimMapViews
import Derived.JoinedTies
import Derived.KernelRfl
namespace Go.Proofs.Ytiohngcmojkheaa
/- THE CELL 'sum', in the pinned program and in every row, IS THE sha256 OF THE DUMP (.gsa) THAT YtiohngcmojkheaaProg.lean LOADS. Nothing in Lean hashes anything: it is a label: what it is worth is what the hold of that sum in a sandbox is worth. -/
noncomputable def Try.pinned : Pinned := { name := "ytiohngcmojkheaa", sum := "0112d0f033f6fe3b6d15733e96cdb63472c443f6c930af1adeccf40c88f4da27", checked := Try.checked }
namespace Rows
def none {H : Type} : Left H := { results := [], args := [] }

/-- 'inkhornlaw10.RankTop': WHATEVER THE INPUT: true; the input reads as it did. -/
def rankTopSpec : ChangeSpec := { name := "rankTop", fn := fun _ => fun
  | [d1, d2] => { results := [.lit (.bool true)], args := [d1, d2] }
  | _ => none }
def rankTopRow : OpenClaim := { program := "ytiohngcmojkheaa", sum := "0112d0f033f6fe3b6d15733e96cdb63472c443f6c930af1adeccf40c88f4da27", func := "inkhorn/inkhornlaw10.RankTop", spec := "rankTop", inPlace := ["internal/bytealg.abigen_runtime_cmpstring"], unfollowed := true, recurses := true, apart := false }
def RankTopSaid : Prop := rankTopRow.holds Try.pinned (OpenSpec.ofChange rankTopSpec)

/-- ITS FALSE NEIGHBOUR: 'it returns false'. Refute it at one input. -/
def rankTopWrong : ChangeSpec := { name := "rankTop", fn := fun _ => fun
  | [d1, d2] => { results := [.lit (.bool false)], args := [d1, d2] }
  | _ => none }
def RankTopWrongFalsely : Prop := rankTopRow.holds Try.pinned (OpenSpec.ofChange rankTopWrong)

/-- 'inkhornlaw10.RankMore': WHATEVER THE INPUT: true; the input reads as it did. -/
def rankMoreSpec : ChangeSpec := { name := "rankMore", fn := fun _ => fun
  | [d1, d2, d3] => { results := [.lit (.bool true)], args := [d1, d2, d3] }
  | _ => none }
def rankMoreRow : OpenClaim := { program := "ytiohngcmojkheaa", sum := "0112d0f033f6fe3b6d15733e96cdb63472c443f6c930af1adeccf40c88f4da27", func := "inkhorn/inkhornlaw10.RankMore", spec := "rankMore", inPlace := ["internal/bytealg.abigen_runtime_cmpstring"], unfollowed := true, recurses := true, apart := false }
def RankMoreSaid : Prop := rankMoreRow.holds Try.pinned (OpenSpec.ofChange rankMoreSpec)

/-- ITS FALSE NEIGHBOUR: 'it returns false'. Refute it at one input. -/
def rankMoreWrong : ChangeSpec := { name := "rankMore", fn := fun _ => fun
  | [d1, d2, d3] => { results := [.lit (.bool false)], args := [d1, d2, d3] }
  | _ => none }
def RankMoreWrongFalsely : Prop := rankMoreRow.holds Try.pinned (OpenSpec.ofChange rankMoreWrong)

/-- 'inkhornlaw10.RankSorts': WHATEVER THE INPUT: true; the input reads as it did. -/
def rankSortsSpec : ChangeSpec := { name := "rankSorts", fn := fun _ => fun
  | [d1, d2, d3] => { results := [.lit (.bool true)], args := [d1, d2, d3] }
  | _ => none }
def rankSortsRow : OpenClaim := { program := "ytiohngcmojkheaa", sum := "0112d0f033f6fe3b6d15733e96cdb63472c443f6c930af1adeccf40c88f4da27", func := "inkhorn/inkhornlaw10.RankSorts", spec := "rankSorts", inPlace := ["internal/bytealg.abigen_runtime_cmpstring"], unfollowed := true, recurses := true, apart := false }
def RankSortsSaid : Prop := rankSortsRow.holds Try.pinned (OpenSpec.ofChange rankSortsSpec)

/-- ITS FALSE NEIGHBOUR: 'it returns false'. Refute it at one input. -/
def rankSortsWrong : ChangeSpec := { name := "rankSorts", fn := fun _ => fun
  | [d1, d2, d3] => { results := [.lit (.bool false)], args := [d1, d2, d3] }
  | _ => none }
def RankSortsWrongFalsely : Prop := rankSortsRow.holds Try.pinned (OpenSpec.ofChange rankSortsWrong)

/-- 'inkhornlaw10.RankOrder': WHATEVER THE INPUT: true; the input reads as it did. -/
def rankOrderSpec : ChangeSpec := { name := "rankOrder", fn := fun _ => fun
  | [d1, d2, d3] => { results := [.lit (.bool true)], args := [d1, d2, d3] }
  | _ => none }
def rankOrderRow : OpenClaim := { program := "ytiohngcmojkheaa", sum := "0112d0f033f6fe3b6d15733e96cdb63472c443f6c930af1adeccf40c88f4da27", func := "inkhorn/inkhornlaw10.RankOrder", spec := "rankOrder", inPlace := ["internal/bytealg.abigen_runtime_cmpstring"], unfollowed := true, recurses := true, apart := false }
def RankOrderSaid : Prop := rankOrderRow.holds Try.pinned (OpenSpec.ofChange rankOrderSpec)

/-- ITS FALSE NEIGHBOUR: 'it returns false'. Refute it at one input. -/
def rankOrderWrong : ChangeSpec := { name := "rankOrder", fn := fun _ => fun
  | [d1, d2, d3] => { results := [.lit (.bool false)], args := [d1, d2, d3] }
  | _ => none }
def RankOrderWrongFalsely : Prop := rankOrderRow.holds Try.pinned (OpenSpec.ofChange rankOrderWrong)

/-- 'inkhornlaw10.RankAgain': WHATEVER THE INPUT: true; the input reads as it did. -/
def rankAgainSpec : ChangeSpec := { name := "rankAgain", fn := fun _ => fun
  | [d] => { results := [.lit (.bool true)], args := [d] }
  | _ => none }
def rankAgainRow : OpenClaim := { program := "ytiohngcmojkheaa", sum := "0112d0f033f6fe3b6d15733e96cdb63472c443f6c930af1adeccf40c88f4da27", func := "inkhorn/inkhornlaw10.RankAgain", spec := "rankAgain", inPlace := ["internal/bytealg.abigen_runtime_cmpstring"], unfollowed := true, recurses := true, apart := false }
def RankAgainSaid : Prop := rankAgainRow.holds Try.pinned (OpenSpec.ofChange rankAgainSpec)

/-- ITS FALSE NEIGHBOUR: 'it returns false'. Refute it at one input. -/
def rankAgainWrong : ChangeSpec := { name := "rankAgain", fn := fun _ => fun
  | [d] => { results := [.lit (.bool false)], args := [d] }
  | _ => none }
def RankAgainWrongFalsely : Prop := rankAgainRow.holds Try.pinned (OpenSpec.ofChange rankAgainWrong)

/-- 'inkhornlaw28.CheckTells': WHATEVER THE INPUT: true; the input reads as it did. -/
def checkTellsSpec : ChangeSpec := { name := "checkTells", fn := fun _ => fun
  | [d1, d2, d3] => { results := [.lit (.bool true)], args := [d1, d2, d3] }
  | _ => none }
def checkTellsRow : OpenClaim := { program := "ytiohngcmojkheaa", sum := "0112d0f033f6fe3b6d15733e96cdb63472c443f6c930af1adeccf40c88f4da27", func := "inkhorn/inkhornlaw28.CheckTells", spec := "checkTells", inPlace := ["internal/bytealg.abigen_runtime_cmpstring"], unfollowed := true, recurses := true, apart := false }
def CheckTellsSaid : Prop := checkTellsRow.holds Try.pinned (OpenSpec.ofChange checkTellsSpec)

/-- ITS FALSE NEIGHBOUR: 'it returns false'. Refute it at one input. -/
def checkTellsWrong : ChangeSpec := { name := "checkTells", fn := fun _ => fun
  | [d1, d2, d3] => { results := [.lit (.bool false)], args := [d1, d2, d3] }
  | _ => none }
def CheckTellsWrongFalsely : Prop := checkTellsRow.holds Try.pinned (OpenSpec.ofChange checkTellsWrong)

/-- 'inkhornlaw28.CheckBegins': WHATEVER THE INPUT: true; the input reads as it did. -/
def checkBeginsSpec : ChangeSpec := { name := "checkBegins", fn := fun _ => fun
  | [d1, d2, d3] => { results := [.lit (.bool true)], args := [d1, d2, d3] }
  | _ => none }
def checkBeginsRow : OpenClaim := { program := "ytiohngcmojkheaa", sum := "0112d0f033f6fe3b6d15733e96cdb63472c443f6c930af1adeccf40c88f4da27", func := "inkhorn/inkhornlaw28.CheckBegins", spec := "checkBegins", inPlace := ["internal/bytealg.abigen_runtime_cmpstring"], unfollowed := true, recurses := true, apart := false }
def CheckBeginsSaid : Prop := checkBeginsRow.holds Try.pinned (OpenSpec.ofChange checkBeginsSpec)

/-- ITS FALSE NEIGHBOUR: 'it returns false'. Refute it at one input. -/
def checkBeginsWrong : ChangeSpec := { name := "checkBegins", fn := fun _ => fun
  | [d1, d2, d3] => { results := [.lit (.bool false)], args := [d1, d2, d3] }
  | _ => none }
def CheckBeginsWrongFalsely : Prop := checkBeginsRow.holds Try.pinned (OpenSpec.ofChange checkBeginsWrong)

/-- 'inkhornlaw28.CheckChain': WHATEVER THE INPUT: true; the input reads as it did. -/
def checkChainSpec : ChangeSpec := { name := "checkChain", fn := fun _ => fun
  | [d1, d2, d3] => { results := [.lit (.bool true)], args := [d1, d2, d3] }
  | _ => none }
def checkChainRow : OpenClaim := { program := "ytiohngcmojkheaa", sum := "0112d0f033f6fe3b6d15733e96cdb63472c443f6c930af1adeccf40c88f4da27", func := "inkhorn/inkhornlaw28.CheckChain", spec := "checkChain", inPlace := ["internal/bytealg.abigen_runtime_cmpstring"], unfollowed := true, recurses := true, apart := false }
def CheckChainSaid : Prop := checkChainRow.holds Try.pinned (OpenSpec.ofChange checkChainSpec)

/-- ITS FALSE NEIGHBOUR: 'it returns false'. Refute it at one input. -/
def checkChainWrong : ChangeSpec := { name := "checkChain", fn := fun _ => fun
  | [d1, d2, d3] => { results := [.lit (.bool false)], args := [d1, d2, d3] }
  | _ => none }
def CheckChainWrongFalsely : Prop := checkChainRow.holds Try.pinned (OpenSpec.ofChange checkChainWrong)

/-- 'inkhornlaw10.RankParts': WHATEVER THE INPUT: true; the input reads as it did. -/
def rankPartsSpec : ChangeSpec := { name := "rankParts", fn := fun _ => fun
  | [d1, d2, d3] => { results := [.lit (.bool true)], args := [d1, d2, d3] }
  | _ => none }
def rankPartsRow : OpenClaim := { program := "ytiohngcmojkheaa", sum := "0112d0f033f6fe3b6d15733e96cdb63472c443f6c930af1adeccf40c88f4da27", func := "inkhorn/inkhornlaw10.RankParts", spec := "rankParts", inPlace := ["internal/bytealg.abigen_runtime_cmpstring"], unfollowed := true, recurses := true, apart := false }
def RankPartsSaid : Prop := rankPartsRow.holds Try.pinned (OpenSpec.ofChange rankPartsSpec)

/-- ITS FALSE NEIGHBOUR: 'it returns false'. Refute it at one input. -/
def rankPartsWrong : ChangeSpec := { name := "rankParts", fn := fun _ => fun
  | [d1, d2, d3] => { results := [.lit (.bool false)], args := [d1, d2, d3] }
  | _ => none }
def RankPartsWrongFalsely : Prop := rankPartsRow.holds Try.pinned (OpenSpec.ofChange rankPartsWrong)

/-- 'inkhornlaw10.RankFirst': WHATEVER THE INPUT: true; the input reads as it did. -/
def rankFirstSpec : ChangeSpec := { name := "rankFirst", fn := fun _ => fun
  | [d1, d2] => { results := [.lit (.bool true)], args := [d1, d2] }
  | _ => none }
def rankFirstRow : OpenClaim := { program := "ytiohngcmojkheaa", sum := "0112d0f033f6fe3b6d15733e96cdb63472c443f6c930af1adeccf40c88f4da27", func := "inkhorn/inkhornlaw10.RankFirst", spec := "rankFirst", inPlace := ["internal/bytealg.abigen_runtime_cmpstring"], unfollowed := true, recurses := true, apart := false }
def RankFirstSaid : Prop := rankFirstRow.holds Try.pinned (OpenSpec.ofChange rankFirstSpec)

/-- ITS FALSE NEIGHBOUR: 'it returns false'. Refute it at one input. -/
def rankFirstWrong : ChangeSpec := { name := "rankFirst", fn := fun _ => fun
  | [d1, d2] => { results := [.lit (.bool false)], args := [d1, d2] }
  | _ => none }
def RankFirstWrongFalsely : Prop := rankFirstRow.holds Try.pinned (OpenSpec.ofChange rankFirstWrong)

/-- 'inkhornlaw10.RankFar': WHATEVER THE INPUT: true; the input reads as it did. -/
def rankFarSpec : ChangeSpec := { name := "rankFar", fn := fun _ => fun
  | [d1, d2, d3] => { results := [.lit (.bool true)], args := [d1, d2, d3] }
  | _ => none }
def rankFarRow : OpenClaim := { program := "ytiohngcmojkheaa", sum := "0112d0f033f6fe3b6d15733e96cdb63472c443f6c930af1adeccf40c88f4da27", func := "inkhorn/inkhornlaw10.RankFar", spec := "rankFar", inPlace := ["internal/bytealg.abigen_runtime_cmpstring"], unfollowed := true, recurses := true, apart := false }
def RankFarSaid : Prop := rankFarRow.holds Try.pinned (OpenSpec.ofChange rankFarSpec)

/-- ITS FALSE NEIGHBOUR: 'it returns false'. Refute it at one input. -/
def rankFarWrong : ChangeSpec := { name := "rankFar", fn := fun _ => fun
  | [d1, d2, d3] => { results := [.lit (.bool false)], args := [d1, d2, d3] }
  | _ => none }
def RankFarWrongFalsely : Prop := rankFarRow.holds Try.pinned (OpenSpec.ofChange rankFarWrong)

/- THE SECOND FORM. 'bulk': how many values and letters a reading holds, each counted each time it is reached (what is shared counts as often as it is met; a slice's spare places count too). A statement '..UptoSaid' is the law's where the arguments, and the package variables that the reading takes, are together of bulk at most 1048576: NARROWER than '..Said'. Prove '..Said' where nothing that the law and all that it calls make is longer than what came in: it says more and counts as full. Else prove '..UptoSaid'. A law counts once. -/
mutual
def uptoBulk {H : Type} : DataW H → Nat
  | .lit (.string bytes) => bytes.length + 1
  | .lit _ => 1
  | .nil => 1
  | .ptr d => uptoBulk d + 1
  | .slice elems spare => uptoBulkAll elems + uptoBulkAll spare + 1
  | .agg parts => uptoBulkAll parts + 1
  | .iface _ d => uptoBulk d + 1
  | .map entries => uptoBulkEntries entries + 1
  | .held _ => 1
def uptoBulkAll {H : Type} : List (DataW H) → Nat
  | [] => 0
  | d :: r => uptoBulk d + uptoBulkAll r
def uptoBulkEntries {H : Type} : List (Lit × DataW H) → Nat
  | [] => 0
  | x :: r => uptoBulkEntry x + uptoBulkEntries r
def uptoBulkEntry {H : Type} : Lit × DataW H → Nat
  | (.string bytes, d) => bytes.length + uptoBulk d + 1
  | (_, d) => uptoBulk d + 1
 end
def uptoSmall : (H : Type) → List (DataW H) → Bool := fun _ ds => decide (uptoBulkAll ds ≤ 1048576)
def OpenSpec.upto (s : _root_.Go.ChangeSpec) : _root_.Go.OpenSpec := { _root_.Go.OpenSpec.ofChange s with cond := some uptoSmall }

/-- 'inkhornlaw10.RankTop', WHERE WHAT IT READS IS OF BULK AT MOST 1048576: true; the input reads as it did. -/
def rankTopUptoRow : OpenClaim := { program := "ytiohngcmojkheaa", sum := "0112d0f033f6fe3b6d15733e96cdb63472c443f6c930af1adeccf40c88f4da27", func := "inkhorn/inkhornlaw10.RankTop", spec := "rankTop", inPlace := ["internal/bytealg.abigen_runtime_cmpstring"], unfollowed := true, recurses := true, apart := false, narrowed := true }
def RankTopUptoSaid : Prop := rankTopUptoRow.holds Try.pinned (OpenSpec.upto rankTopSpec)

/-- 'inkhornlaw10.RankMore', WHERE WHAT IT READS IS OF BULK AT MOST 1048576: true; the input reads as it did. -/
def rankMoreUptoRow : OpenClaim := { program := "ytiohngcmojkheaa", sum := "0112d0f033f6fe3b6d15733e96cdb63472c443f6c930af1adeccf40c88f4da27", func := "inkhorn/inkhornlaw10.RankMore", spec := "rankMore", inPlace := ["internal/bytealg.abigen_runtime_cmpstring"], unfollowed := true, recurses := true, apart := false, narrowed := true }
def RankMoreUptoSaid : Prop := rankMoreUptoRow.holds Try.pinned (OpenSpec.upto rankMoreSpec)

/-- 'inkhornlaw10.RankSorts', WHERE WHAT IT READS IS OF BULK AT MOST 1048576: true; the input reads as it did. -/
def rankSortsUptoRow : OpenClaim := { program := "ytiohngcmojkheaa", sum := "0112d0f033f6fe3b6d15733e96cdb63472c443f6c930af1adeccf40c88f4da27", func := "inkhorn/inkhornlaw10.RankSorts", spec := "rankSorts", inPlace := ["internal/bytealg.abigen_runtime_cmpstring"], unfollowed := true, recurses := true, apart := false, narrowed := true }
def RankSortsUptoSaid : Prop := rankSortsUptoRow.holds Try.pinned (OpenSpec.upto rankSortsSpec)

/-- 'inkhornlaw10.RankOrder', WHERE WHAT IT READS IS OF BULK AT MOST 1048576: true; the input reads as it did. -/
def rankOrderUptoRow : OpenClaim := { program := "ytiohngcmojkheaa", sum := "0112d0f033f6fe3b6d15733e96cdb63472c443f6c930af1adeccf40c88f4da27", func := "inkhorn/inkhornlaw10.RankOrder", spec := "rankOrder", inPlace := ["internal/bytealg.abigen_runtime_cmpstring"], unfollowed := true, recurses := true, apart := false, narrowed := true }
def RankOrderUptoSaid : Prop := rankOrderUptoRow.holds Try.pinned (OpenSpec.upto rankOrderSpec)

/-- 'inkhornlaw10.RankAgain', WHERE WHAT IT READS IS OF BULK AT MOST 1048576: true; the input reads as it did. -/
def rankAgainUptoRow : OpenClaim := { program := "ytiohngcmojkheaa", sum := "0112d0f033f6fe3b6d15733e96cdb63472c443f6c930af1adeccf40c88f4da27", func := "inkhorn/inkhornlaw10.RankAgain", spec := "rankAgain", inPlace := ["internal/bytealg.abigen_runtime_cmpstring"], unfollowed := true, recurses := true, apart := false, narrowed := true }
def RankAgainUptoSaid : Prop := rankAgainUptoRow.holds Try.pinned (OpenSpec.upto rankAgainSpec)

/-- 'inkhornlaw28.CheckTells', WHERE WHAT IT READS IS OF BULK AT MOST 1048576: true; the input reads as it did. -/
def checkTellsUptoRow : OpenClaim := { program := "ytiohngcmojkheaa", sum := "0112d0f033f6fe3b6d15733e96cdb63472c443f6c930af1adeccf40c88f4da27", func := "inkhorn/inkhornlaw28.CheckTells", spec := "checkTells", inPlace := ["internal/bytealg.abigen_runtime_cmpstring"], unfollowed := true, recurses := true, apart := false, narrowed := true }
def CheckTellsUptoSaid : Prop := checkTellsUptoRow.holds Try.pinned (OpenSpec.upto checkTellsSpec)

/-- 'inkhornlaw28.CheckBegins', WHERE WHAT IT READS IS OF BULK AT MOST 1048576: true; the input reads as it did. -/
def checkBeginsUptoRow : OpenClaim := { program := "ytiohngcmojkheaa", sum := "0112d0f033f6fe3b6d15733e96cdb63472c443f6c930af1adeccf40c88f4da27", func := "inkhorn/inkhornlaw28.CheckBegins", spec := "checkBegins", inPlace := ["internal/bytealg.abigen_runtime_cmpstring"], unfollowed := true, recurses := true, apart := false, narrowed := true }
def CheckBeginsUptoSaid : Prop := checkBeginsUptoRow.holds Try.pinned (OpenSpec.upto checkBeginsSpec)

/-- 'inkhornlaw28.CheckChain', WHERE WHAT IT READS IS OF BULK AT MOST 1048576: true; the input reads as it did. -/
def checkChainUptoRow : OpenClaim := { program := "ytiohngcmojkheaa", sum := "0112d0f033f6fe3b6d15733e96cdb63472c443f6c930af1adeccf40c88f4da27", func := "inkhorn/inkhornlaw28.CheckChain", spec := "checkChain", inPlace := ["internal/bytealg.abigen_runtime_cmpstring"], unfollowed := true, recurses := true, apart := false, narrowed := true }
def CheckChainUptoSaid : Prop := checkChainUptoRow.holds Try.pinned (OpenSpec.upto checkChainSpec)

/-- 'inkhornlaw10.RankParts', WHERE WHAT IT READS IS OF BULK AT MOST 1048576: true; the input reads as it did. -/
def rankPartsUptoRow : OpenClaim := { program := "ytiohngcmojkheaa", sum := "0112d0f033f6fe3b6d15733e96cdb63472c443f6c930af1adeccf40c88f4da27", func := "inkhorn/inkhornlaw10.RankParts", spec := "rankParts", inPlace := ["internal/bytealg.abigen_runtime_cmpstring"], unfollowed := true, recurses := true, apart := false, narrowed := true }
def RankPartsUptoSaid : Prop := rankPartsUptoRow.holds Try.pinned (OpenSpec.upto rankPartsSpec)

/-- 'inkhornlaw10.RankFirst', WHERE WHAT IT READS IS OF BULK AT MOST 1048576: true; the input reads as it did. -/
def rankFirstUptoRow : OpenClaim := { program := "ytiohngcmojkheaa", sum := "0112d0f033f6fe3b6d15733e96cdb63472c443f6c930af1adeccf40c88f4da27", func := "inkhorn/inkhornlaw10.RankFirst", spec := "rankFirst", inPlace := ["internal/bytealg.abigen_runtime_cmpstring"], unfollowed := true, recurses := true, apart := false, narrowed := true }
def RankFirstUptoSaid : Prop := rankFirstUptoRow.holds Try.pinned (OpenSpec.upto rankFirstSpec)

/-- 'inkhornlaw10.RankFar', WHERE WHAT IT READS IS OF BULK AT MOST 1048576: true; the input reads as it did. -/
def rankFarUptoRow : OpenClaim := { program := "ytiohngcmojkheaa", sum := "0112d0f033f6fe3b6d15733e96cdb63472c443f6c930af1adeccf40c88f4da27", func := "inkhorn/inkhornlaw10.RankFar", spec := "rankFar", inPlace := ["internal/bytealg.abigen_runtime_cmpstring"], unfollowed := true, recurses := true, apart := false, narrowed := true }
def RankFarUptoSaid : Prop := rankFarUptoRow.holds Try.pinned (OpenSpec.upto rankFarSpec)

end Rows
end Go.Proofs.Ytiohngcmojkheaa
