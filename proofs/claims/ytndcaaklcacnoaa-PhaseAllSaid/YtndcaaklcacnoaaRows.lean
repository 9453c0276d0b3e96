/-
  No cell of these rows narrows 'for every input' (looked for: loops, veiled, ifaces, maps, wideKeys, modest, calm, conditions, laid).
  DERIVED. THE GIVEN ROWS OF THIS SEAT. 7 by the template 'for every input the law returns true; each argument reads behind the call as it read before'; 0 by the template 'total and deterministic' (their statements: YtndcaaklcacnoaaTotals.lean).
  GIVEN WITH THE SEED: the statements are not yours to turn. If you find one false, say at which input.
  Laid BY PROGRAM, IN A SANDBOX (cutbox-rows.mjs): the forced cells as the released guide's own fill.sh prints them over the translation 49602969955889ab… (all of the seat's roots in one cut). By AI agents, Wed Nov 11 2026. No macro, syntax, notation, axiom, sorry.
-/
import Derived.Test.YtndcaaklcacnoaaChecked
import GoSem.Claim
import GoSem.ClaimJoined
import GoSem.ClaimMapViews
import Derived.JoinedTies
import Derived.KernelRfl
namespace Go.Proofs.Ytndcaaklcacnoaa
/- THE CELL 'sum', in the pinned program and in every row, IS THE sha256 OF THE DUMP (.gsa) THAT YtndcaaklcacnoaaProg.lean LOADS. Nothing in Lean hashes anything: it is a label: what it is worth is what the hold of that sum in a sandbox is worth. -/
noncomputable def Try.pinned : Pinned := { name := "ytndcaaklcacnoaa", sum := "49602969955889ab5ee40a15af3a50aa1e94df4eb100d97a69f4682fc1021f04", checked := Try.checked }
namespace Rows
def none {H : Type} : Left H := { results := [], args := [] }

/-- 'perilunelaw25.PhaseSets': WHATEVER THE INPUT: true; the input reads as it did. -/
def phaseSetsSpec : ChangeSpec := { name := "phaseSets", fn := fun _ => fun
  | [d1, d2] => { results := [.lit (.bool true)], args := [d1, d2] }
  | _ => none }
def phaseSetsRow : OpenClaim := { program := "ytndcaaklcacnoaa", sum := "49602969955889ab5ee40a15af3a50aa1e94df4eb100d97a69f4682fc1021f04", func := "perilune/perilunelaw25.PhaseSets", spec := "phaseSets", apart := false }
def PhaseSetsSaid : Prop := phaseSetsRow.holds Try.pinned (OpenSpec.ofChange phaseSetsSpec)

/-- ITS FALSE NEIGHBOUR: 'it returns false'. Refute it at one input. -/
def phaseSetsWrong : ChangeSpec := { name := "phaseSets", fn := fun _ => fun
  | [d1, d2] => { results := [.lit (.bool false)], args := [d1, d2] }
  | _ => none }
def PhaseSetsWrongFalsely : Prop := phaseSetsRow.holds Try.pinned (OpenSpec.ofChange phaseSetsWrong)

/-- 'perilunelaw25.PhaseGets': WHATEVER THE INPUT: true; the input reads as it did. -/
def phaseGetsSpec : ChangeSpec := { name := "phaseGets", fn := fun _ => fun
  | [d1, d2] => { results := [.lit (.bool true)], args := [d1, d2] }
  | _ => none }
def phaseGetsRow : OpenClaim := { program := "ytndcaaklcacnoaa", sum := "49602969955889ab5ee40a15af3a50aa1e94df4eb100d97a69f4682fc1021f04", func := "perilune/perilunelaw25.PhaseGets", spec := "phaseGets", apart := false }
def PhaseGetsSaid : Prop := phaseGetsRow.holds Try.pinned (OpenSpec.ofChange phaseGetsSpec)

/-- ITS FALSE NEIGHBOUR: 'it returns false'. Refute it at one input. -/
def phaseGetsWrong : ChangeSpec := { name := "phaseGets", fn := fun _ => fun
  | [d1, d2] => { results := [.lit (.bool false)], args := [d1, d2] }
  | _ => none }
def PhaseGetsWrongFalsely : Prop := phaseGetsRow.holds Try.pinned (OpenSpec.ofChange phaseGetsWrong)

/-- 'perilunelaw25.PhaseBack': WHATEVER THE INPUT: true; the input reads as it did. -/
def phaseBackSpec : ChangeSpec := { name := "phaseBack", fn := fun _ => fun
  | [d1, d2, d3] => { results := [.lit (.bool true)], args := [d1, d2, d3] }
  | _ => none }
def phaseBackRow : OpenClaim := { program := "ytndcaaklcacnoaa", sum := "49602969955889ab5ee40a15af3a50aa1e94df4eb100d97a69f4682fc1021f04", func := "perilune/perilunelaw25.PhaseBack", spec := "phaseBack", apart := false }
def PhaseBackSaid : Prop := phaseBackRow.holds Try.pinned (OpenSpec.ofChange phaseBackSpec)

/-- ITS FALSE NEIGHBOUR: 'it returns false'. Refute it at one input. -/
def phaseBackWrong : ChangeSpec := { name := "phaseBack", fn := fun _ => fun
  | [d1, d2, d3] => { results := [.lit (.bool false)], args := [d1, d2, d3] }
  | _ => none }
def PhaseBackWrongFalsely : Prop := phaseBackRow.holds Try.pinned (OpenSpec.ofChange phaseBackWrong)

/-- 'perilunelaw25.PhaseDamage': WHATEVER THE INPUT: true; the input reads as it did. -/
def phaseDamageSpec : ChangeSpec := { name := "phaseDamage", fn := fun _ => fun
  | [d1, d2, d3, d4] => { results := [.lit (.bool true)], args := [d1, d2, d3, d4] }
  | _ => none }
def phaseDamageRow : OpenClaim := { program := "ytndcaaklcacnoaa", sum := "49602969955889ab5ee40a15af3a50aa1e94df4eb100d97a69f4682fc1021f04", func := "perilune/perilunelaw25.PhaseDamage", spec := "phaseDamage", apart := false }
def PhaseDamageSaid : Prop := phaseDamageRow.holds Try.pinned (OpenSpec.ofChange phaseDamageSpec)

/-- ITS FALSE NEIGHBOUR: 'it returns false'. Refute it at one input. -/
def phaseDamageWrong : ChangeSpec := { name := "phaseDamage", fn := fun _ => fun
  | [d1, d2, d3, d4] => { results := [.lit (.bool false)], args := [d1, d2, d3, d4] }
  | _ => none }
def PhaseDamageWrongFalsely : Prop := phaseDamageRow.holds Try.pinned (OpenSpec.ofChange phaseDamageWrong)

/-- 'perilunelaw25.PhaseHigh': WHATEVER THE INPUT: true; the input reads as it did. -/
def phaseHighSpec : ChangeSpec := { name := "phaseHigh", fn := fun _ => fun
  | [d1, d2, d3] => { results := [.lit (.bool true)], args := [d1, d2, d3] }
  | _ => none }
def phaseHighRow : OpenClaim := { program := "ytndcaaklcacnoaa", sum := "49602969955889ab5ee40a15af3a50aa1e94df4eb100d97a69f4682fc1021f04", func := "perilune/perilunelaw25.PhaseHigh", spec := "phaseHigh", apart := false }
def PhaseHighSaid : Prop := phaseHighRow.holds Try.pinned (OpenSpec.ofChange phaseHighSpec)

/-- ITS FALSE NEIGHBOUR: 'it returns false'. Refute it at one input. -/
def phaseHighWrong : ChangeSpec := { name := "phaseHigh", fn := fun _ => fun
  | [d1, d2, d3] => { results := [.lit (.bool false)], args := [d1, d2, d3] }
  | _ => none }
def PhaseHighWrongFalsely : Prop := phaseHighRow.holds Try.pinned (OpenSpec.ofChange phaseHighWrong)

/-- 'perilunelaw25.PhaseAll': WHATEVER THE INPUT: true; the input reads as it did. -/
def phaseAllSpec : ChangeSpec := { name := "phaseAll", fn := fun _ => fun
  | [d1, d2] => { results := [.lit (.bool true)], args := [d1, d2] }
  | _ => none }
def phaseAllRow : OpenClaim := { program := "ytndcaaklcacnoaa", sum := "49602969955889ab5ee40a15af3a50aa1e94df4eb100d97a69f4682fc1021f04", func := "perilune/perilunelaw25.PhaseAll", spec := "phaseAll", apart := false }
def PhaseAllSaid : Prop := phaseAllRow.holds Try.pinned (OpenSpec.ofChange phaseAllSpec)

/-- ITS FALSE NEIGHBOUR: 'it returns false'. Refute it at one input. -/
def phaseAllWrong : ChangeSpec := { name := "phaseAll", fn := fun _ => fun
  | [d1, d2] => { results := [.lit (.bool false)], args := [d1, d2] }
  | _ => none }
def PhaseAllWrongFalsely : Prop := phaseAllRow.holds Try.pinned (OpenSpec.ofChange phaseAllWrong)

/-- 'perilunelaw25.PhaseClear': WHATEVER THE INPUT: true; the input reads as it did. -/
def phaseClearSpec : ChangeSpec := { name := "phaseClear", fn := fun _ => fun
  | [d] => { results := [.lit (.bool true)], args := [d] }
  | _ => none }
def phaseClearRow : OpenClaim := { program := "ytndcaaklcacnoaa", sum := "49602969955889ab5ee40a15af3a50aa1e94df4eb100d97a69f4682fc1021f04", func := "perilune/perilunelaw25.PhaseClear", spec := "phaseClear", apart := false }
def PhaseClearSaid : Prop := phaseClearRow.holds Try.pinned (OpenSpec.ofChange phaseClearSpec)

/-- ITS FALSE NEIGHBOUR: 'it returns false'. Refute it at one input. -/
def phaseClearWrong : ChangeSpec := { name := "phaseClear", fn := fun _ => fun
  | [d] => { results := [.lit (.bool false)], args := [d] }
  | _ => none }
def PhaseClearWrongFalsely : Prop := phaseClearRow.holds Try.pinned (OpenSpec.ofChange phaseClearWrong)

/- THE SECOND FORM. 'bulk': how many values and letters a reading holds, each counted each time it is reached (what is shared counts as often as it is met; a slice's spare places count too). A statement '..UptoSaid' is the law's where the arguments, and the package variables that the reading takes, are together of bulk at most 1048576: NARROWER than '..Said'. Prove '..Said' where nothing that the law and all that it calls make is longer than what came in: it says more and counts as full. Else prove '..UptoSaid'. A law counts once. -/
mutual
def uptoBulk {H : Type} : DataW H → Nat
  | .lit (.string bytes) => bytes.length + 1
  | .lit _ => 1
  | .nil => 1
  | .ptr d => uptoBulk d + 1
  | .slice elems spare => uptoBulkAll elems + uptoBulkAll spare + 1
  | .agg parts => uptoBulkAll parts + 1
  | .iface _ d => uptoBulk d + 1
  | .map entries => uptoBulkEntries entries + 1
  | .held _ => 1
def uptoBulkAll {H : Type} : List (DataW H) → Nat
  | [] => 0
  | d :: r => uptoBulk d + uptoBulkAll r
def uptoBulkEntries {H : Type} : List (Lit × DataW H) → Nat
  | [] => 0
  | x :: r => uptoBulkEntry x + uptoBulkEntries r
def uptoBulkEntry {H : Type} : Lit × DataW H → Nat
  | (.string bytes, d) => bytes.length + uptoBulk d + 1
  | (_, d) => uptoBulk d + 1
 end
def uptoSmall : (H : Type) → List (DataW H) → Bool := fun _ ds => decide (uptoBulkAll ds ≤ 1048576)
def OpenSpec.upto (s : _root_.Go.ChangeSpec) : _root_.Go.OpenSpec := { _root_.Go.OpenSpec.ofChange s with cond := some uptoSmall }

/-- 'perilunelaw25.PhaseSets', WHERE WHAT IT READS IS OF BULK AT MOST 1048576: true; the input reads as it did. -/
def phaseSetsUptoRow : OpenClaim := { program := "ytndcaaklcacnoaa", sum := "49602969955889ab5ee40a15af3a50aa1e94df4eb100d97a69f4682fc1021f04", func := "perilune/perilunelaw25.PhaseSets", spec := "phaseSets", apart := false, narrowed := true }
def PhaseSetsUptoSaid : Prop := phaseSetsUptoRow.holds Try.pinned (OpenSpec.upto phaseSetsSpec)

/-- 'perilunelaw25.PhaseGets', WHERE WHAT IT READS IS OF BULK AT MOST 1048576: true; the input reads as it did. -/
def phaseGetsUptoRow : OpenClaim := { program := "ytndcaaklcacnoaa", sum := "49602969955889ab5ee40a15af3a50aa1e94df4eb100d97a69f4682fc1021f04", func := "perilune/perilunelaw25.PhaseGets", spec := "phaseGets", apart := false, narrowed := true }
def PhaseGetsUptoSaid : Prop := phaseGetsUptoRow.holds Try.pinned (OpenSpec.upto phaseGetsSpec)

/-- 'perilunelaw25.PhaseBack', WHERE WHAT IT READS IS OF BULK AT MOST 1048576: true; the input reads as it did. -/
def phaseBackUptoRow : OpenClaim := { program := "ytndcaaklcacnoaa", sum := "49602969955889ab5ee40a15af3a50aa1e94df4eb100d97a69f4682fc1021f04", func := "perilune/perilunelaw25.PhaseBack", spec := "phaseBack", apart := false, narrowed := true }
def PhaseBackUptoSaid : Prop := phaseBackUptoRow.holds Try.pinned (OpenSpec.upto phaseBackSpec)

/-- 'perilunelaw25.PhaseDamage', WHERE WHAT IT READS IS OF BULK AT MOST 1048576: true; the input reads as it did. -/
def phaseDamageUptoRow : OpenClaim := { program := "ytndcaaklcacnoaa", sum := "49602969955889ab5ee40a15af3a50aa1e94df4eb100d97a69f4682fc1021f04", func := "perilune/perilunelaw25.PhaseDamage", spec := "phaseDamage", apart := false, narrowed := true }
def PhaseDamageUptoSaid : Prop := phaseDamageUptoRow.holds Try.pinned (OpenSpec.upto phaseDamageSpec)

/-- 'perilunelaw25.PhaseHigh', WHERE WHAT IT READS IS OF BULK AT MOST 1048576: true; the input reads as it did. -/
def phaseHighUptoRow : OpenClaim := { program := "ytndcaaklcacnoaa", sum := "49602969955889ab5ee40a15af3a50aa1e94df4eb100d97a69f4682fc1021f04", func := "perilune/perilunelaw25.PhaseHigh", spec := "phaseHigh", apart := false, narrowed := true }
def PhaseHighUptoSaid : Prop := phaseHighUptoRow.holds Try.pinned (OpenSpec.upto phaseHighSpec)

/-- 'perilunelaw25.PhaseAll', WHERE WHAT IT READS IS OF BULK AT MOST 1048576: true; the input reads as it did. -/
def phaseAllUptoRow : OpenClaim := { program := "ytndcaaklcacnoaa", sum := "49602969955889ab5ee40a15af3a50aa1e94df4eb100d97a69f4682fc1021f04", func := "perilune/perilunelaw25.PhaseAll", spec := "phaseAll", apart := false, narrowed := true }
def PhaseAllUptoSaid : Prop := phaseAllUptoRow.holds Try.pinned (OpenSpec.upto phaseAllSpec)

/-- 'perilunelaw25.PhaseClear', WHERE WHAT IT READS IS OF BULK AT MOST 1048576: true; the input reads as it did. -/
def phaseClearUptoRow : OpenClaim := { program := "ytndcaaklcacnoaa", sum := "49602969955889ab5ee40a15af3a50aa1e94df4eb100d97a69f4682fc1021f04", func := "perilune/perilunelaw25.PhaseClear", spec := "phaseClear", apart := false, narrowed := true }
def PhaseClearUptoSaid : Prop := phaseClearUptoRow.holds Try.pinned (OpenSpec.upto phaseClearSpec)

end Rows
end Go.Proofs.Ytndcaaklcacnoaa
