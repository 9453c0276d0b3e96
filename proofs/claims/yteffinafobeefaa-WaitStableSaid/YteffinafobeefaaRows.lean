/-
  No cell of these rows narrows 'for every input' (looked for: loops, veiled, ifaces, maps, wideKeys, modest, calm, conditions, laid).
  DERIVED. THE GIVEN ROWS OF THIS SEAT. 7 by the template 'for every input the law returns true; each argument reads behind the call as it read before'; 0 by the template 'total and deterministic' (their statements: YteffinafobeefaaTotals.lean).
  GIVEN WITH THE SEED: the statements are not yours to turn. If you find one false, say at which input.
  Laid BY PROGRAM, IN A SANDBOX (cutbox-rows.mjs): the forced cells as the released guide's own fill.sh prints them over the translation 0e7745bbd16a2de9… (all of the seat's roots in one cut). By AI agents, Wed Nov 11 2026. No macro, syntax, notation, axiom, sorry.
-/
import Derived.Test.YteffinafobeefaaChecked
import GoSem.Claim
import GoSem.ClaimJoined
import GoSem.ClaimMapViews
import Derived.JoinedTies
import Derived.KernelRfl
namespace Go.Proofs.Yteffinafobeefaa
/- THE CELL 'sum', in the pinned program and in every row, IS THE sha256 OF THE DUMP (.gsa) THAT YteffinafobeefaaProg.lean LOADS. Nothing in Lean hashes anything: it is a label: what it is worth is what the hold of that sum in a sandbox is worth. -/
noncomputable def Try.pinned : Pinned := { name := "yteffinafobeefaa", sum := "0e7745bbd16a2de9c6a4145b88f42710c3a640fc0103d1a4960dff85fda28d21", checked := Try.checked }
namespace Rows
def none {H : Type} : Left H := { results := [], args := [] }

/-- 'perilunelaw24.WaitAdds': WHATEVER THE INPUT: true; the input reads as it did. -/
def waitAddsSpec : ChangeSpec := { name := "waitAdds", fn := fun _ => fun
  | [d1, d2] => { results := [.lit (.bool true)], args := [d1, d2] }
  | _ => none }
def waitAddsRow : OpenClaim := { program := "yteffinafobeefaa", sum := "0e7745bbd16a2de9c6a4145b88f42710c3a640fc0103d1a4960dff85fda28d21", func := "perilune/perilunelaw24.WaitAdds", spec := "waitAdds", apart := false }
def WaitAddsSaid : Prop := waitAddsRow.holds Try.pinned (OpenSpec.ofChange waitAddsSpec)

/-- ITS FALSE NEIGHBOUR: 'it returns false'. Refute it at one input. -/
def waitAddsWrong : ChangeSpec := { name := "waitAdds", fn := fun _ => fun
  | [d1, d2] => { results := [.lit (.bool false)], args := [d1, d2] }
  | _ => none }
def WaitAddsWrongFalsely : Prop := waitAddsRow.holds Try.pinned (OpenSpec.ofChange waitAddsWrong)

/-- 'perilunelaw24.WaitStable': WHATEVER THE INPUT: true; the input reads as it did. -/
def waitStableSpec : ChangeSpec := { name := "waitStable", fn := fun _ => fun
  | [d] => { results := [.lit (.bool true)], args := [d] }
  | _ => none }
def waitStableRow : OpenClaim := { program := "yteffinafobeefaa", sum := "0e7745bbd16a2de9c6a4145b88f42710c3a640fc0103d1a4960dff85fda28d21", func := "perilune/perilunelaw24.WaitStable", spec := "waitStable", apart := false }
def WaitStableSaid : Prop := waitStableRow.holds Try.pinned (OpenSpec.ofChange waitStableSpec)

/-- ITS FALSE NEIGHBOUR: 'it returns false'. Refute it at one input. -/
def waitStableWrong : ChangeSpec := { name := "waitStable", fn := fun _ => fun
  | [d] => { results := [.lit (.bool false)], args := [d] }
  | _ => none }
def WaitStableWrongFalsely : Prop := waitStableRow.holds Try.pinned (OpenSpec.ofChange waitStableWrong)

/-- 'perilunelaw24.WaitTwice': WHATEVER THE INPUT: true; the input reads as it did. -/
def waitTwiceSpec : ChangeSpec := { name := "waitTwice", fn := fun _ => fun
  | [d1, d2, d3] => { results := [.lit (.bool true)], args := [d1, d2, d3] }
  | _ => none }
def waitTwiceRow : OpenClaim := { program := "yteffinafobeefaa", sum := "0e7745bbd16a2de9c6a4145b88f42710c3a640fc0103d1a4960dff85fda28d21", func := "perilune/perilunelaw24.WaitTwice", spec := "waitTwice", apart := false }
def WaitTwiceSaid : Prop := waitTwiceRow.holds Try.pinned (OpenSpec.ofChange waitTwiceSpec)

/-- ITS FALSE NEIGHBOUR: 'it returns false'. Refute it at one input. -/
def waitTwiceWrong : ChangeSpec := { name := "waitTwice", fn := fun _ => fun
  | [d1, d2, d3] => { results := [.lit (.bool false)], args := [d1, d2, d3] }
  | _ => none }
def WaitTwiceWrongFalsely : Prop := waitTwiceRow.holds Try.pinned (OpenSpec.ofChange waitTwiceWrong)

/-- 'perilunelaw24.WaitCancels': WHATEVER THE INPUT: true; the input reads as it did. -/
def waitCancelsSpec : ChangeSpec := { name := "waitCancels", fn := fun _ => fun
  | [d1, d2, d3] => { results := [.lit (.bool true)], args := [d1, d2, d3] }
  | _ => none }
def waitCancelsRow : OpenClaim := { program := "yteffinafobeefaa", sum := "0e7745bbd16a2de9c6a4145b88f42710c3a640fc0103d1a4960dff85fda28d21", func := "perilune/perilunelaw24.WaitCancels", spec := "waitCancels", apart := false }
def WaitCancelsSaid : Prop := waitCancelsRow.holds Try.pinned (OpenSpec.ofChange waitCancelsSpec)

/-- ITS FALSE NEIGHBOUR: 'it returns false'. Refute it at one input. -/
def waitCancelsWrong : ChangeSpec := { name := "waitCancels", fn := fun _ => fun
  | [d1, d2, d3] => { results := [.lit (.bool false)], args := [d1, d2, d3] }
  | _ => none }
def WaitCancelsWrongFalsely : Prop := waitCancelsRow.holds Try.pinned (OpenSpec.ofChange waitCancelsWrong)

/-- 'perilunelaw24.WaitDivides': WHATEVER THE INPUT: true; the input reads as it did. -/
def waitDividesSpec : ChangeSpec := { name := "waitDivides", fn := fun _ => fun
  | [d1, d2] => { results := [.lit (.bool true)], args := [d1, d2] }
  | _ => none }
def waitDividesRow : OpenClaim := { program := "yteffinafobeefaa", sum := "0e7745bbd16a2de9c6a4145b88f42710c3a640fc0103d1a4960dff85fda28d21", func := "perilune/perilunelaw24.WaitDivides", spec := "waitDivides", apart := false }
def WaitDividesSaid : Prop := waitDividesRow.holds Try.pinned (OpenSpec.ofChange waitDividesSpec)

/-- ITS FALSE NEIGHBOUR: 'it returns false'. Refute it at one input. -/
def waitDividesWrong : ChangeSpec := { name := "waitDivides", fn := fun _ => fun
  | [d1, d2] => { results := [.lit (.bool false)], args := [d1, d2] }
  | _ => none }
def WaitDividesWrongFalsely : Prop := waitDividesRow.holds Try.pinned (OpenSpec.ofChange waitDividesWrong)

/-- 'perilunelaw24.WaitDeltas': WHATEVER THE INPUT: true; the input reads as it did. -/
def waitDeltasSpec : ChangeSpec := { name := "waitDeltas", fn := fun _ => fun
  | [d1, d2] => { results := [.lit (.bool true)], args := [d1, d2] }
  | _ => none }
def waitDeltasRow : OpenClaim := { program := "yteffinafobeefaa", sum := "0e7745bbd16a2de9c6a4145b88f42710c3a640fc0103d1a4960dff85fda28d21", func := "perilune/perilunelaw24.WaitDeltas", spec := "waitDeltas", apart := false }
def WaitDeltasSaid : Prop := waitDeltasRow.holds Try.pinned (OpenSpec.ofChange waitDeltasSpec)

/-- ITS FALSE NEIGHBOUR: 'it returns false'. Refute it at one input. -/
def waitDeltasWrong : ChangeSpec := { name := "waitDeltas", fn := fun _ => fun
  | [d1, d2] => { results := [.lit (.bool false)], args := [d1, d2] }
  | _ => none }
def WaitDeltasWrongFalsely : Prop := waitDeltasRow.holds Try.pinned (OpenSpec.ofChange waitDeltasWrong)

/-- 'perilunelaw24.WaitFrom': WHATEVER THE INPUT: true; the input reads as it did. -/
def waitFromSpec : ChangeSpec := { name := "waitFrom", fn := fun _ => fun
  | [d] => { results := [.lit (.bool true)], args := [d] }
  | _ => none }
def waitFromRow : OpenClaim := { program := "yteffinafobeefaa", sum := "0e7745bbd16a2de9c6a4145b88f42710c3a640fc0103d1a4960dff85fda28d21", func := "perilune/perilunelaw24.WaitFrom", spec := "waitFrom", apart := false }
def WaitFromSaid : Prop := waitFromRow.holds Try.pinned (OpenSpec.ofChange waitFromSpec)

/-- ITS FALSE NEIGHBOUR: 'it returns false'. Refute it at one input. -/
def waitFromWrong : ChangeSpec := { name := "waitFrom", fn := fun _ => fun
  | [d] => { results := [.lit (.bool false)], args := [d] }
  | _ => none }
def WaitFromWrongFalsely : Prop := waitFromRow.holds Try.pinned (OpenSpec.ofChange waitFromWrong)

/- THE SECOND FORM. 'bulk': how many values and letters a reading holds, each counted each time it is reached (what is shared counts as often as it is met; a slice's spare places count too). A statement '..UptoSaid' is the law's where the arguments, and the package variables that the reading takes, are together of bulk at most 1048576: NARROWER than '..Said'. Prove '..Said' where nothing that the law and all that it calls make is longer than what came in: it says more and counts as full. Else prove '..UptoSaid'. A law counts once. -/
mutual
def uptoBulk {H : Type} : DataW H → Nat
  | .lit (.string bytes) => bytes.length + 1
  | .lit _ => 1
  | .nil => 1
  | .ptr d => uptoBulk d + 1
  | .slice elems spare => uptoBulkAll elems + uptoBulkAll spare + 1
  | .agg parts => uptoBulkAll parts + 1
  | .iface _ d => uptoBulk d + 1
  | .map entries => uptoBulkEntries entries + 1
  | .held _ => 1
def uptoBulkAll {H : Type} : List (DataW H) → Nat
  | [] => 0
  | d :: r => uptoBulk d + uptoBulkAll r
def uptoBulkEntries {H : Type} : List (Lit × DataW H) → Nat
  | [] => 0
  | x :: r => uptoBulkEntry x + uptoBulkEntries r
def uptoBulkEntry {H : Type} : Lit × DataW H → Nat
  | (.string bytes, d) => bytes.length + uptoBulk d + 1
  | (_, d) => uptoBulk d + 1
 end
def uptoSmall : (H : Type) → List (DataW H) → Bool := fun _ ds => decide (uptoBulkAll ds ≤ 1048576)
def OpenSpec.upto (s : _root_.Go.ChangeSpec) : _root_.Go.OpenSpec := { _root_.Go.OpenSpec.ofChange s with cond := some uptoSmall }

/-- 'perilunelaw24.WaitAdds', WHERE WHAT IT READS IS OF BULK AT MOST 1048576: true; the input reads as it did. -/
def waitAddsUptoRow : OpenClaim := { program := "yteffinafobeefaa", sum := "0e7745bbd16a2de9c6a4145b88f42710c3a640fc0103d1a4960dff85fda28d21", func := "perilune/perilunelaw24.WaitAdds", spec := "waitAdds", apart := false, narrowed := true }
def WaitAddsUptoSaid : Prop := waitAddsUptoRow.holds Try.pinned (OpenSpec.upto waitAddsSpec)

/-- 'perilunelaw24.WaitStable', WHERE WHAT IT READS IS OF BULK AT MOST 1048576: true; the input reads as it did. -/
def waitStableUptoRow : OpenClaim := { program := "yteffinafobeefaa", sum := "0e7745bbd16a2de9c6a4145b88f42710c3a640fc0103d1a4960dff85fda28d21", func := "perilune/perilunelaw24.WaitStable", spec := "waitStable", apart := false, narrowed := true }
def WaitStableUptoSaid : Prop := waitStableUptoRow.holds Try.pinned (OpenSpec.upto waitStableSpec)

/-- 'perilunelaw24.WaitTwice', WHERE WHAT IT READS IS OF BULK AT MOST 1048576: true; the input reads as it did. -/
def waitTwiceUptoRow : OpenClaim := { program := "yteffinafobeefaa", sum := "0e7745bbd16a2de9c6a4145b88f42710c3a640fc0103d1a4960dff85fda28d21", func := "perilune/perilunelaw24.WaitTwice", spec := "waitTwice", apart := false, narrowed := true }
def WaitTwiceUptoSaid : Prop := waitTwiceUptoRow.holds Try.pinned (OpenSpec.upto waitTwiceSpec)

/-- 'perilunelaw24.WaitCancels', WHERE WHAT IT READS IS OF BULK AT MOST 1048576: true; the input reads as it did. -/
def waitCancelsUptoRow : OpenClaim := { program := "yteffinafobeefaa", sum := "0e7745bbd16a2de9c6a4145b88f42710c3a640fc0103d1a4960dff85fda28d21", func := "perilune/perilunelaw24.WaitCancels", spec := "waitCancels", apart := false, narrowed := true }
def WaitCancelsUptoSaid : Prop := waitCancelsUptoRow.holds Try.pinned (OpenSpec.upto waitCancelsSpec)

/-- 'perilunelaw24.WaitDivides', WHERE WHAT IT READS IS OF BULK AT MOST 1048576: true; the input reads as it did. -/
def waitDividesUptoRow : OpenClaim := { program := "yteffinafobeefaa", sum := "0e7745bbd16a2de9c6a4145b88f42710c3a640fc0103d1a4960dff85fda28d21", func := "perilune/perilunelaw24.WaitDivides", spec := "waitDivides", apart := false, narrowed := true }
def WaitDividesUptoSaid : Prop := waitDividesUptoRow.holds Try.pinned (OpenSpec.upto waitDividesSpec)

/-- 'perilunelaw24.WaitDeltas', WHERE WHAT IT READS IS OF BULK AT MOST 1048576: true; the input reads as it did. -/
def waitDeltasUptoRow : OpenClaim := { program := "yteffinafobeefaa", sum := "0e7745bbd16a2de9c6a4145b88f42710c3a640fc0103d1a4960dff85fda28d21", func := "perilune/perilunelaw24.WaitDeltas", spec := "waitDeltas", apart := false, narrowed := true }
def WaitDeltasUptoSaid : Prop := waitDeltasUptoRow.holds Try.pinned (OpenSpec.upto waitDeltasSpec)

/-- 'perilunelaw24.WaitFrom', WHERE WHAT IT READS IS OF BULK AT MOST 1048576: true; the input reads as it did. -/
def waitFromUptoRow : OpenClaim := { program := "yteffinafobeefaa", sum := "0e7745bbd16a2de9c6a4145b88f42710c3a640fc0103d1a4960dff85fda28d21", func := "perilune/perilunelaw24.WaitFrom", spec := "waitFrom", apart := false, narrowed := true }
def WaitFromUptoSaid : Prop := waitFromUptoRow.holds Try.pinned (OpenSpec.upto waitFromSpec)

end Rows
end Go.Proofs.Yteffinafobeefaa
