/-
  No cell of these rows narrows 'for every input' (looked for: loops, veiled, ifaces, maps, wideKeys, modest, calm, conditions, laid).
  DERIVED. THE GIVEN ROWS OF THIS SEAT. 8 by the template 'for every input the law returns true; each argument reads behind the call as it read before'; 0 by the template 'total and deterministic' (their statements: YtjdanngkmkgidaaTotals.lean).
  GIVEN WITH THE SEED: the statements are not yours to turn. If you find one false, say at which input.
  Laid BY PROGRAM, IN A SANDBOX (cutbox-rows.mjs): the forced cells as the released guide's own fill.sh prints them over the translation c9229631ebf9d49d… (all of the seat's roots in one cut). By AI agents, Wed Nov 11 2026. No macro, syntax, notation, axiom, sorry.
-/
import Derived.Test.YtjdanngkmkgidaaChecked
import GoSem.Claim
import GoSem.ClaimJoined
import GoSem.ClaimMapViews
import Derived.JoinedTies
import Derived.KernelRfl
namespace Go.Proofs.Ytjdanngkmkgidaa
/- THE CELL 'sum', in the pinned program and in every row, IS THE sha256 OF THE DUMP (.gsa) THAT YtjdanngkmkgidaaProg.lean LOADS. Nothing in Lean hashes anything: it is a label: what it is worth is what the hold of that sum in a sandbox is worth. -/
noncomputable def Try.pinned : Pinned := { name := "ytjdanngkmkgidaa", sum := "c9229631ebf9d49d2d77e109810c4093c1c804f5d061d36c51126e623830dda9", checked := Try.checked }
namespace Rows
def none {H : Type} : Left H := { results := [], args := [] }

/-- 'inkhornlaw17.TimerTurned': WHATEVER THE INPUT: true; the input reads as it did. -/
def timerTurnedSpec : ChangeSpec := { name := "timerTurned", fn := fun _ => fun
  | [d1, d2] => { results := [.lit (.bool true)], args := [d1, d2] }
  | _ => none }
def timerTurnedRow : OpenClaim := { program := "ytjdanngkmkgidaa", sum := "c9229631ebf9d49d2d77e109810c4093c1c804f5d061d36c51126e623830dda9", func := "inkhorn/inkhornlaw17.TimerTurned", spec := "timerTurned", unfollowed := true, recurses := true, apart := false }
def TimerTurnedSaid : Prop := timerTurnedRow.holds Try.pinned (OpenSpec.ofChange timerTurnedSpec)

/-- ITS FALSE NEIGHBOUR: 'it returns false'. Refute it at one input. -/
def timerTurnedWrong : ChangeSpec := { name := "timerTurned", fn := fun _ => fun
  | [d1, d2] => { results := [.lit (.bool false)], args := [d1, d2] }
  | _ => none }
def TimerTurnedWrongFalsely : Prop := timerTurnedRow.holds Try.pinned (OpenSpec.ofChange timerTurnedWrong)

/-- 'inkhornlaw17.TimerDue': WHATEVER THE INPUT: true; the input reads as it did. -/
def timerDueSpec : ChangeSpec := { name := "timerDue", fn := fun _ => fun
  | [d1, d2, d3] => { results := [.lit (.bool true)], args := [d1, d2, d3] }
  | _ => none }
def timerDueRow : OpenClaim := { program := "ytjdanngkmkgidaa", sum := "c9229631ebf9d49d2d77e109810c4093c1c804f5d061d36c51126e623830dda9", func := "inkhorn/inkhornlaw17.TimerDue", spec := "timerDue", unfollowed := true, recurses := true, apart := false }
def TimerDueSaid : Prop := timerDueRow.holds Try.pinned (OpenSpec.ofChange timerDueSpec)

/-- ITS FALSE NEIGHBOUR: 'it returns false'. Refute it at one input. -/
def timerDueWrong : ChangeSpec := { name := "timerDue", fn := fun _ => fun
  | [d1, d2, d3] => { results := [.lit (.bool false)], args := [d1, d2, d3] }
  | _ => none }
def TimerDueWrongFalsely : Prop := timerDueRow.holds Try.pinned (OpenSpec.ofChange timerDueWrong)

/-- 'inkhornlaw17.TimerCancelled': WHATEVER THE INPUT: true; the input reads as it did. -/
def timerCancelledSpec : ChangeSpec := { name := "timerCancelled", fn := fun _ => fun
  | [d1, d2] => { results := [.lit (.bool true)], args := [d1, d2] }
  | _ => none }
def timerCancelledRow : OpenClaim := { program := "ytjdanngkmkgidaa", sum := "c9229631ebf9d49d2d77e109810c4093c1c804f5d061d36c51126e623830dda9", func := "inkhorn/inkhornlaw17.TimerCancelled", spec := "timerCancelled", unfollowed := true, recurses := true, apart := false }
def TimerCancelledSaid : Prop := timerCancelledRow.holds Try.pinned (OpenSpec.ofChange timerCancelledSpec)

/-- ITS FALSE NEIGHBOUR: 'it returns false'. Refute it at one input. -/
def timerCancelledWrong : ChangeSpec := { name := "timerCancelled", fn := fun _ => fun
  | [d1, d2] => { results := [.lit (.bool false)], args := [d1, d2] }
  | _ => none }
def TimerCancelledWrongFalsely : Prop := timerCancelledRow.holds Try.pinned (OpenSpec.ofChange timerCancelledWrong)

/-- 'inkhornlaw17.TimerScript': WHATEVER THE INPUT: true; the input reads as it did. -/
def timerScriptSpec : ChangeSpec := { name := "timerScript", fn := fun _ => fun
  | [d1, d2, d3] => { results := [.lit (.bool true)], args := [d1, d2, d3] }
  | _ => none }
def timerScriptRow : OpenClaim := { program := "ytjdanngkmkgidaa", sum := "c9229631ebf9d49d2d77e109810c4093c1c804f5d061d36c51126e623830dda9", func := "inkhorn/inkhornlaw17.TimerScript", spec := "timerScript", unfollowed := true, recurses := true, apart := false }
def TimerScriptSaid : Prop := timerScriptRow.holds Try.pinned (OpenSpec.ofChange timerScriptSpec)

/-- ITS FALSE NEIGHBOUR: 'it returns false'. Refute it at one input. -/
def timerScriptWrong : ChangeSpec := { name := "timerScript", fn := fun _ => fun
  | [d1, d2, d3] => { results := [.lit (.bool false)], args := [d1, d2, d3] }
  | _ => none }
def TimerScriptWrongFalsely : Prop := timerScriptRow.holds Try.pinned (OpenSpec.ofChange timerScriptWrong)

/-- 'inkhornlaw17.TimerNone': WHATEVER THE INPUT: true; the input reads as it did. -/
def timerNoneSpec : ChangeSpec := { name := "timerNone", fn := fun _ => fun
  | [d] => { results := [.lit (.bool true)], args := [d] }
  | _ => none }
def timerNoneRow : OpenClaim := { program := "ytjdanngkmkgidaa", sum := "c9229631ebf9d49d2d77e109810c4093c1c804f5d061d36c51126e623830dda9", func := "inkhorn/inkhornlaw17.TimerNone", spec := "timerNone", unfollowed := true, recurses := true, apart := false }
def TimerNoneSaid : Prop := timerNoneRow.holds Try.pinned (OpenSpec.ofChange timerNoneSpec)

/-- ITS FALSE NEIGHBOUR: 'it returns false'. Refute it at one input. -/
def timerNoneWrong : ChangeSpec := { name := "timerNone", fn := fun _ => fun
  | [d] => { results := [.lit (.bool false)], args := [d] }
  | _ => none }
def TimerNoneWrongFalsely : Prop := timerNoneRow.holds Try.pinned (OpenSpec.ofChange timerNoneWrong)

/-- 'inkhornlaw27.FairBounds': WHATEVER THE INPUT: true; the input reads as it did. -/
def fairBoundsSpec : ChangeSpec := { name := "fairBounds", fn := fun _ => fun
  | [d1, d2] => { results := [.lit (.bool true)], args := [d1, d2] }
  | _ => none }
def fairBoundsRow : OpenClaim := { program := "ytjdanngkmkgidaa", sum := "c9229631ebf9d49d2d77e109810c4093c1c804f5d061d36c51126e623830dda9", func := "inkhorn/inkhornlaw27.FairBounds", spec := "fairBounds", inPlace := ["internal/bytealg.abigen_runtime_cmpstring"], unfollowed := true, recurses := true, apart := false }
def FairBoundsSaid : Prop := fairBoundsRow.holds Try.pinned (OpenSpec.ofChange fairBoundsSpec)

/-- ITS FALSE NEIGHBOUR: 'it returns false'. Refute it at one input. -/
def fairBoundsWrong : ChangeSpec := { name := "fairBounds", fn := fun _ => fun
  | [d1, d2] => { results := [.lit (.bool false)], args := [d1, d2] }
  | _ => none }
def FairBoundsWrongFalsely : Prop := fairBoundsRow.holds Try.pinned (OpenSpec.ofChange fairBoundsWrong)

/-- 'inkhornlaw27.FairLost': WHATEVER THE INPUT: true; the input reads as it did. -/
def fairLostSpec : ChangeSpec := { name := "fairLost", fn := fun _ => fun
  | [d1, d2, d3, d4, d5, d6] => { results := [.lit (.bool true)], args := [d1, d2, d3, d4, d5, d6] }
  | _ => none }
def fairLostRow : OpenClaim := { program := "ytjdanngkmkgidaa", sum := "c9229631ebf9d49d2d77e109810c4093c1c804f5d061d36c51126e623830dda9", func := "inkhorn/inkhornlaw27.FairLost", spec := "fairLost", inPlace := ["internal/bytealg.abigen_runtime_cmpstring"], unfollowed := true, recurses := true, apart := false }
def FairLostSaid : Prop := fairLostRow.holds Try.pinned (OpenSpec.ofChange fairLostSpec)

/-- ITS FALSE NEIGHBOUR: 'it returns false'. Refute it at one input. -/
def fairLostWrong : ChangeSpec := { name := "fairLost", fn := fun _ => fun
  | [d1, d2, d3, d4, d5, d6] => { results := [.lit (.bool false)], args := [d1, d2, d3, d4, d5, d6] }
  | _ => none }
def FairLostWrongFalsely : Prop := fairLostRow.holds Try.pinned (OpenSpec.ofChange fairLostWrong)

/-- 'inkhornlaw27.FairFewer': WHATEVER THE INPUT: true; the input reads as it did. -/
def fairFewerSpec : ChangeSpec := { name := "fairFewer", fn := fun _ => fun
  | [d1, d2, d3, d4, d5, d6] => { results := [.lit (.bool true)], args := [d1, d2, d3, d4, d5, d6] }
  | _ => none }
def fairFewerRow : OpenClaim := { program := "ytjdanngkmkgidaa", sum := "c9229631ebf9d49d2d77e109810c4093c1c804f5d061d36c51126e623830dda9", func := "inkhorn/inkhornlaw27.FairFewer", spec := "fairFewer", inPlace := ["internal/bytealg.abigen_runtime_cmpstring"], unfollowed := true, recurses := true, apart := false }
def FairFewerSaid : Prop := fairFewerRow.holds Try.pinned (OpenSpec.ofChange fairFewerSpec)

/-- ITS FALSE NEIGHBOUR: 'it returns false'. Refute it at one input. -/
def fairFewerWrong : ChangeSpec := { name := "fairFewer", fn := fun _ => fun
  | [d1, d2, d3, d4, d5, d6] => { results := [.lit (.bool false)], args := [d1, d2, d3, d4, d5, d6] }
  | _ => none }
def FairFewerWrongFalsely : Prop := fairFewerRow.holds Try.pinned (OpenSpec.ofChange fairFewerWrong)

/- THE SECOND FORM. 'bulk': how many values and letters a reading holds, each counted each time it is reached (what is shared counts as often as it is met; a slice's spare places count too). A statement '..UptoSaid' is the law's where the arguments, and the package variables that the reading takes, are together of bulk at most 1048576: NARROWER than '..Said'. Prove '..Said' where nothing that the law and all that it calls make is longer than what came in: it says more and counts as full. Else prove '..UptoSaid'. A law counts once. -/
mutual
def uptoBulk {H : Type} : DataW H → Nat
  | .lit (.string bytes) => bytes.length + 1
  | .lit _ => 1
  | .nil => 1
  | .ptr d => uptoBulk d + 1
  | .slice elems spare => uptoBulkAll elems + uptoBulkAll spare + 1
  | .agg parts => uptoBulkAll parts + 1
  | .iface _ d => uptoBulk d + 1
  | .map entries => uptoBulkEntries entries + 1
  | .held _ => 1
def uptoBulkAll {H : Type} : List (DataW H) → Nat
  | [] => 0
  | d :: r => uptoBulk d + uptoBulkAll r
def uptoBulkEntries {H : Type} : List (Lit × DataW H) → Nat
  | [] => 0
  | x :: r => uptoBulkEntry x + uptoBulkEntries r
def uptoBulkEntry {H : Type} : Lit × DataW H → Nat
  | (.string bytes, d) => bytes.length + uptoBulk d + 1
  | (_, d) => uptoBulk d + 1
 end
def uptoSmall : (H : Type) → List (DataW H) → Bool := fun _ ds => decide (uptoBulkAll ds ≤ 1048576)
def OpenSpec.upto (s : _root_.Go.ChangeSpec) : _root_.Go.OpenSpec := { _root_.Go.OpenSpec.ofChange s with cond := some uptoSmall }

/-- 'inkhornlaw17.TimerTurned', WHERE WHAT IT READS IS OF BULK AT MOST 1048576: true; the input reads as it did. -/
def timerTurnedUptoRow : OpenClaim := { program := "ytjdanngkmkgidaa", sum := "c9229631ebf9d49d2d77e109810c4093c1c804f5d061d36c51126e623830dda9", func := "inkhorn/inkhornlaw17.TimerTurned", spec := "timerTurned", unfollowed := true, recurses := true, apart := false, narrowed := true }
def TimerTurnedUptoSaid : Prop := timerTurnedUptoRow.holds Try.pinned (OpenSpec.upto timerTurnedSpec)

/-- 'inkhornlaw17.TimerDue', WHERE WHAT IT READS IS OF BULK AT MOST 1048576: true; the input reads as it did. -/
def timerDueUptoRow : OpenClaim := { program := "ytjdanngkmkgidaa", sum := "c9229631ebf9d49d2d77e109810c4093c1c804f5d061d36c51126e623830dda9", func := "inkhorn/inkhornlaw17.TimerDue", spec := "timerDue", unfollowed := true, recurses := true, apart := false, narrowed := true }
def TimerDueUptoSaid : Prop := timerDueUptoRow.holds Try.pinned (OpenSpec.upto timerDueSpec)

/-- 'inkhornlaw17.TimerCancelled', WHERE WHAT IT READS IS OF BULK AT MOST 1048576: true; the input reads as it did. -/
def timerCancelledUptoRow : OpenClaim := { program := "ytjdanngkmkgidaa", sum := "c9229631ebf9d49d2d77e109810c4093c1c804f5d061d36c51126e623830dda9", func := "inkhorn/inkhornlaw17.TimerCancelled", spec := "timerCancelled", unfollowed := true, recurses := true, apart := false, narrowed := true }
def TimerCancelledUptoSaid : Prop := timerCancelledUptoRow.holds Try.pinned (OpenSpec.upto timerCancelledSpec)

/-- 'inkhornlaw17.TimerScript', WHERE WHAT IT READS IS OF BULK AT MOST 1048576: true; the input reads as it did. -/
def timerScriptUptoRow : OpenClaim := { program := "ytjdanngkmkgidaa", sum := "c9229631ebf9d49d2d77e109810c4093c1c804f5d061d36c51126e623830dda9", func := "inkhorn/inkhornlaw17.TimerScript", spec := "timerScript", unfollowed := true, recurses := true, apart := false, narrowed := true }
def TimerScriptUptoSaid : Prop := timerScriptUptoRow.holds Try.pinned (OpenSpec.upto timerScriptSpec)

/-- 'inkhornlaw17.TimerNone', WHERE WHAT IT READS IS OF BULK AT MOST 1048576: true; the input reads as it did. -/
def timerNoneUptoRow : OpenClaim := { program := "ytjdanngkmkgidaa", sum := "c9229631ebf9d49d2d77e109810c4093c1c804f5d061d36c51126e623830dda9", func := "inkhorn/inkhornlaw17.TimerNone", spec := "timerNone", unfollowed := true, recurses := true, apart := false, narrowed := true }
def TimerNoneUptoSaid : Prop := timerNoneUptoRow.holds Try.pinned (OpenSpec.upto timerNoneSpec)

/-- 'inkhornlaw27.FairBounds', WHERE WHAT IT READS IS OF BULK AT MOST 1048576: true; the input reads as it did. -/
def fairBoundsUptoRow : OpenClaim := { program := "ytjdanngkmkgidaa", sum := "c9229631ebf9d49d2d77e109810c4093c1c804f5d061d36c51126e623830dda9", func := "inkhorn/inkhornlaw27.FairBounds", spec := "fairBounds", inPlace := ["internal/bytealg.abigen_runtime_cmpstring"], unfollowed := true, recurses := true, apart := false, narrowed := true }
def FairBoundsUptoSaid : Prop := fairBoundsUptoRow.holds Try.pinned (OpenSpec.upto fairBoundsSpec)

/-- 'inkhornlaw27.FairLost', WHERE WHAT IT READS IS OF BULK AT MOST 1048576: true; the input reads as it did. -/
def fairLostUptoRow : OpenClaim := { program := "ytjdanngkmkgidaa", sum := "c9229631ebf9d49d2d77e109810c4093c1c804f5d061d36c51126e623830dda9", func := "inkhorn/inkhornlaw27.FairLost", spec := "fairLost", inPlace := ["internal/bytealg.abigen_runtime_cmpstring"], unfollowed := true, recurses := true, apart := false, narrowed := true }
def FairLostUptoSaid : Prop := fairLostUptoRow.holds Try.pinned (OpenSpec.upto fairLostSpec)

/-- 'inkhornlaw27.FairFewer', WHERE WHAT IT READS IS OF BULK AT MOST 1048576: true; the input reads as it did. -/
def fairFewerUptoRow : OpenClaim := { program := "ytjdanngkmkgidaa", sum := "c9229631ebf9d49d2d77e109810c4093c1c804f5d061d36c51126e623830dda9", func := "inkhorn/inkhornlaw27.FairFewer", spec := "fairFewer", inPlace := ["internal/bytealg.abigen_runtime_cmpstring"], unfollowed := true, recurses := true, apart := false, narrowed := true }
def FairFewerUptoSaid : Prop := fairFewerUptoRow.holds Try.pinned (OpenSpec.upto fairFewerSpec)

end Rows
end Go.Proofs.Ytjdanngkmkgidaa
