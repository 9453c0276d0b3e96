/-
  No cell of these rows narrows 'for every input' (looked for: loops, veiled, ifaces, maps, wideKeys, modest, calm, conditions, laid).
  DERIVED. THE GIVEN ROWS OF THIS SEAT. 8 by the template 'for every input the law returns true; each argument reads behind the call as it read before'; 0 by the template 'total and deterministic' (their statements: YtdncfnlhkacpaaaTotals.lean).
  GIVEN WITH THE SEED: the statements are not yours to turn. If you find one false, say at which input.
  Laid BY PROGRAM, IN A SANDBOX (cutbox-rows.mjs): the forced cells as the released guide's own fill.sh prints them over the translation e039ef2f95cf7bf4… (all of the seat's roots in one cut). By AI agents, Wed Nov 11 2026. No macro, syntax, notation, axiom, sorry.
-/
import Derived.Test.YtdncfnlhkacpaaaChecked
import GoSem.Claim
import GoSem.ClaimJoined
import GoSem.ClaimMapViews
import Derived.JoinedTies
import Derived.KernelRfl
namespace Go.Proofs.Ytdncfnlhkacpaaa
/- THE CELL 'sum', in the pinned program and in every row, IS THE sha256 OF THE DUMP (.gsa) THAT YtdncfnlhkacpaaaProg.lean LOADS. Nothing in Lean hashes anything: it is a label: what it is worth is what the hold of that sum in a sandbox is worth. -/
noncomputable def Try.pinned : Pinned := { name := "ytdncfnlhkacpaaa", sum := "e039ef2f95cf7bf489f16e9427f7203833f3abf4aa05c38033993000581a59c6", checked := Try.checked }
namespace Rows
def none {H : Type} : Left H := { results := [], args := [] }

/-- 'perilunelaw32.UplinkKeys': WHATEVER THE INPUT: true; the input reads as it did. -/
def uplinkKeysSpec : ChangeSpec := { name := "uplinkKeys", fn := fun _ => fun
  | [d1, d2] => { results := [.lit (.bool true)], args := [d1, d2] }
  | _ => none }
def uplinkKeysRow : OpenClaim := { program := "ytdncfnlhkacpaaa", sum := "e039ef2f95cf7bf489f16e9427f7203833f3abf4aa05c38033993000581a59c6", func := "perilune/perilunelaw32.UplinkKeys", spec := "uplinkKeys", apart := false }
def UplinkKeysSaid : Prop := uplinkKeysRow.holds Try.pinned (OpenSpec.ofChange uplinkKeysSpec)

/-- ITS FALSE NEIGHBOUR: 'it returns false'. Refute it at one input. -/
def uplinkKeysWrong : ChangeSpec := { name := "uplinkKeys", fn := fun _ => fun
  | [d1, d2] => { results := [.lit (.bool false)], args := [d1, d2] }
  | _ => none }
def UplinkKeysWrongFalsely : Prop := uplinkKeysRow.holds Try.pinned (OpenSpec.ofChange uplinkKeysWrong)

/-- 'perilunelaw32.UplinkReceives': WHATEVER THE INPUT: true; the input reads as it did. -/
def uplinkReceivesSpec : ChangeSpec := { name := "uplinkReceives", fn := fun _ => fun
  | [d1, d2] => { results := [.lit (.bool true)], args := [d1, d2] }
  | _ => none }
def uplinkReceivesRow : OpenClaim := { program := "ytdncfnlhkacpaaa", sum := "e039ef2f95cf7bf489f16e9427f7203833f3abf4aa05c38033993000581a59c6", func := "perilune/perilunelaw32.UplinkReceives", spec := "uplinkReceives", apart := false }
def UplinkReceivesSaid : Prop := uplinkReceivesRow.holds Try.pinned (OpenSpec.ofChange uplinkReceivesSpec)

/-- ITS FALSE NEIGHBOUR: 'it returns false'. Refute it at one input. -/
def uplinkReceivesWrong : ChangeSpec := { name := "uplinkReceives", fn := fun _ => fun
  | [d1, d2] => { results := [.lit (.bool false)], args := [d1, d2] }
  | _ => none }
def UplinkReceivesWrongFalsely : Prop := uplinkReceivesRow.holds Try.pinned (OpenSpec.ofChange uplinkReceivesWrong)

/-- 'perilunelaw32.UplinkFar': WHATEVER THE INPUT: true; the input reads as it did. -/
def uplinkFarSpec : ChangeSpec := { name := "uplinkFar", fn := fun _ => fun
  | [d1, d2] => { results := [.lit (.bool true)], args := [d1, d2] }
  | _ => none }
def uplinkFarRow : OpenClaim := { program := "ytdncfnlhkacpaaa", sum := "e039ef2f95cf7bf489f16e9427f7203833f3abf4aa05c38033993000581a59c6", func := "perilune/perilunelaw32.UplinkFar", spec := "uplinkFar", apart := false }
def UplinkFarSaid : Prop := uplinkFarRow.holds Try.pinned (OpenSpec.ofChange uplinkFarSpec)

/-- ITS FALSE NEIGHBOUR: 'it returns false'. Refute it at one input. -/
def uplinkFarWrong : ChangeSpec := { name := "uplinkFar", fn := fun _ => fun
  | [d1, d2] => { results := [.lit (.bool false)], args := [d1, d2] }
  | _ => none }
def UplinkFarWrongFalsely : Prop := uplinkFarRow.holds Try.pinned (OpenSpec.ofChange uplinkFarWrong)

/-- 'perilunelaw32.UplinkLocks': WHATEVER THE INPUT: true; the input reads as it did. -/
def uplinkLocksSpec : ChangeSpec := { name := "uplinkLocks", fn := fun _ => fun
  | [d1, d2] => { results := [.lit (.bool true)], args := [d1, d2] }
  | _ => none }
def uplinkLocksRow : OpenClaim := { program := "ytdncfnlhkacpaaa", sum := "e039ef2f95cf7bf489f16e9427f7203833f3abf4aa05c38033993000581a59c6", func := "perilune/perilunelaw32.UplinkLocks", spec := "uplinkLocks", apart := false }
def UplinkLocksSaid : Prop := uplinkLocksRow.holds Try.pinned (OpenSpec.ofChange uplinkLocksSpec)

/-- ITS FALSE NEIGHBOUR: 'it returns false'. Refute it at one input. -/
def uplinkLocksWrong : ChangeSpec := { name := "uplinkLocks", fn := fun _ => fun
  | [d1, d2] => { results := [.lit (.bool false)], args := [d1, d2] }
  | _ => none }
def UplinkLocksWrongFalsely : Prop := uplinkLocksRow.holds Try.pinned (OpenSpec.ofChange uplinkLocksWrong)

/-- 'perilunelaw32.UplinkAll': WHATEVER THE INPUT: true; the input reads as it did. -/
def uplinkAllSpec : ChangeSpec := { name := "uplinkAll", fn := fun _ => fun
  | [d] => { results := [.lit (.bool true)], args := [d] }
  | _ => none }
def uplinkAllRow : OpenClaim := { program := "ytdncfnlhkacpaaa", sum := "e039ef2f95cf7bf489f16e9427f7203833f3abf4aa05c38033993000581a59c6", func := "perilune/perilunelaw32.UplinkAll", spec := "uplinkAll", apart := false }
def UplinkAllSaid : Prop := uplinkAllRow.holds Try.pinned (OpenSpec.ofChange uplinkAllSpec)

/-- ITS FALSE NEIGHBOUR: 'it returns false'. Refute it at one input. -/
def uplinkAllWrong : ChangeSpec := { name := "uplinkAll", fn := fun _ => fun
  | [d] => { results := [.lit (.bool false)], args := [d] }
  | _ => none }
def UplinkAllWrongFalsely : Prop := uplinkAllRow.holds Try.pinned (OpenSpec.ofChange uplinkAllWrong)

/-- 'perilunelaw32.UplinkDamage': WHATEVER THE INPUT: true; the input reads as it did. -/
def uplinkDamageSpec : ChangeSpec := { name := "uplinkDamage", fn := fun _ => fun
  | [d] => { results := [.lit (.bool true)], args := [d] }
  | _ => none }
def uplinkDamageRow : OpenClaim := { program := "ytdncfnlhkacpaaa", sum := "e039ef2f95cf7bf489f16e9427f7203833f3abf4aa05c38033993000581a59c6", func := "perilune/perilunelaw32.UplinkDamage", spec := "uplinkDamage", apart := false }
def UplinkDamageSaid : Prop := uplinkDamageRow.holds Try.pinned (OpenSpec.ofChange uplinkDamageSpec)

/-- ITS FALSE NEIGHBOUR: 'it returns false'. Refute it at one input. -/
def uplinkDamageWrong : ChangeSpec := { name := "uplinkDamage", fn := fun _ => fun
  | [d] => { results := [.lit (.bool false)], args := [d] }
  | _ => none }
def UplinkDamageWrongFalsely : Prop := uplinkDamageRow.holds Try.pinned (OpenSpec.ofChange uplinkDamageWrong)

/-- 'perilunelaw32.UplinkSteps': WHATEVER THE INPUT: true; the input reads as it did. -/
def uplinkStepsSpec : ChangeSpec := { name := "uplinkSteps", fn := fun _ => fun
  | [d1, d2] => { results := [.lit (.bool true)], args := [d1, d2] }
  | _ => none }
def uplinkStepsRow : OpenClaim := { program := "ytdncfnlhkacpaaa", sum := "e039ef2f95cf7bf489f16e9427f7203833f3abf4aa05c38033993000581a59c6", func := "perilune/perilunelaw32.UplinkSteps", spec := "uplinkSteps", apart := false }
def UplinkStepsSaid : Prop := uplinkStepsRow.holds Try.pinned (OpenSpec.ofChange uplinkStepsSpec)

/-- ITS FALSE NEIGHBOUR: 'it returns false'. Refute it at one input. -/
def uplinkStepsWrong : ChangeSpec := { name := "uplinkSteps", fn := fun _ => fun
  | [d1, d2] => { results := [.lit (.bool false)], args := [d1, d2] }
  | _ => none }
def UplinkStepsWrongFalsely : Prop := uplinkStepsRow.holds Try.pinned (OpenSpec.ofChange uplinkStepsWrong)

/-- 'perilunelaw32.UplinkKnown': WHATEVER THE INPUT: true; the input reads as it did. -/
def uplinkKnownSpec : ChangeSpec := { name := "uplinkKnown", fn := fun _ => fun
  | [] => { results := [.lit (.bool true)], args := [] }
  | _ => none }
def uplinkKnownRow : OpenClaim := { program := "ytdncfnlhkacpaaa", sum := "e039ef2f95cf7bf489f16e9427f7203833f3abf4aa05c38033993000581a59c6", func := "perilune/perilunelaw32.UplinkKnown", spec := "uplinkKnown", apart := false }
def UplinkKnownSaid : Prop := uplinkKnownRow.holds Try.pinned (OpenSpec.ofChange uplinkKnownSpec)

/-- ITS FALSE NEIGHBOUR: 'it returns false'. Refute it at one input. -/
def uplinkKnownWrong : ChangeSpec := { name := "uplinkKnown", fn := fun _ => fun
  | [] => { results := [.lit (.bool false)], args := [] }
  | _ => none }
def UplinkKnownWrongFalsely : Prop := uplinkKnownRow.holds Try.pinned (OpenSpec.ofChange uplinkKnownWrong)

/- THE SECOND FORM. 'bulk': how many values and letters a reading holds, each counted each time it is reached (what is shared counts as often as it is met; a slice's spare places count too). A statement '..UptoSaid' is the law's where the arguments, and the package variables that the reading takes, are together of bulk at most 1048576: NARROWER than '..Said'. Prove '..Said' where nothing that the law and all that it calls make is longer than what came in: it says more and counts as full. Else prove '..UptoSaid'. A law counts once. -/
mutual
def uptoBulk {H : Type} : DataW H → Nat
  | .lit (.string bytes) => bytes.length + 1
  | .lit _ => 1
  | .nil => 1
  | .ptr d => uptoBulk d + 1
  | .slice elems spare => uptoBulkAll elems + uptoBulkAll spare + 1
  | .agg parts => uptoBulkAll parts + 1
  | .iface _ d => uptoBulk d + 1
  | .map entries => uptoBulkEntries entries + 1
  | .held _ => 1
def uptoBulkAll {H : Type} : List (DataW H) → Nat
  | [] => 0
  | d :: r => uptoBulk d + uptoBulkAll r
def uptoBulkEntries {H : Type} : List (Lit × DataW H) → Nat
  | [] => 0
  | x :: r => uptoBulkEntry x + uptoBulkEntries r
def uptoBulkEntry {H : Type} : Lit × DataW H → Nat
  | (.string bytes, d) => bytes.length + uptoBulk d + 1
  | (_, d) => uptoBulk d + 1
 end
def uptoSmall : (H : Type) → List (DataW H) → Bool := fun _ ds => decide (uptoBulkAll ds ≤ 1048576)
def OpenSpec.upto (s : _root_.Go.ChangeSpec) : _root_.Go.OpenSpec := { _root_.Go.OpenSpec.ofChange s with cond := some uptoSmall }

/-- 'perilunelaw32.UplinkKeys', WHERE WHAT IT READS IS OF BULK AT MOST 1048576: true; the input reads as it did. -/
def uplinkKeysUptoRow : OpenClaim := { program := "ytdncfnlhkacpaaa", sum := "e039ef2f95cf7bf489f16e9427f7203833f3abf4aa05c38033993000581a59c6", func := "perilune/perilunelaw32.UplinkKeys", spec := "uplinkKeys", apart := false, narrowed := true }
def UplinkKeysUptoSaid : Prop := uplinkKeysUptoRow.holds Try.pinned (OpenSpec.upto uplinkKeysSpec)

/-- 'perilunelaw32.UplinkReceives', WHERE WHAT IT READS IS OF BULK AT MOST 1048576: true; the input reads as it did. -/
def uplinkReceivesUptoRow : OpenClaim := { program := "ytdncfnlhkacpaaa", sum := "e039ef2f95cf7bf489f16e9427f7203833f3abf4aa05c38033993000581a59c6", func := "perilune/perilunelaw32.UplinkReceives", spec := "uplinkReceives", apart := false, narrowed := true }
def UplinkReceivesUptoSaid : Prop := uplinkReceivesUptoRow.holds Try.pinned (OpenSpec.upto uplinkReceivesSpec)

/-- 'perilunelaw32.UplinkFar', WHERE WHAT IT READS IS OF BULK AT MOST 1048576: true; the input reads as it did. -/
def uplinkFarUptoRow : OpenClaim := { program := "ytdncfnlhkacpaaa", sum := "e039ef2f95cf7bf489f16e9427f7203833f3abf4aa05c38033993000581a59c6", func := "perilune/perilunelaw32.UplinkFar", spec := "uplinkFar", apart := false, narrowed := true }
def UplinkFarUptoSaid : Prop := uplinkFarUptoRow.holds Try.pinned (OpenSpec.upto uplinkFarSpec)

/-- 'perilunelaw32.UplinkLocks', WHERE WHAT IT READS IS OF BULK AT MOST 1048576: true; the input reads as it did. -/
def uplinkLocksUptoRow : OpenClaim := { program := "ytdncfnlhkacpaaa", sum := "e039ef2f95cf7bf489f16e9427f7203833f3abf4aa05c38033993000581a59c6", func := "perilune/perilunelaw32.UplinkLocks", spec := "uplinkLocks", apart := false, narrowed := true }
def UplinkLocksUptoSaid : Prop := uplinkLocksUptoRow.holds Try.pinned (OpenSpec.upto uplinkLocksSpec)

/-- 'perilunelaw32.UplinkAll', WHERE WHAT IT READS IS OF BULK AT MOST 1048576: true; the input reads as it did. -/
def uplinkAllUptoRow : OpenClaim := { program := "ytdncfnlhkacpaaa", sum := "e039ef2f95cf7bf489f16e9427f7203833f3abf4aa05c38033993000581a59c6", func := "perilune/perilunelaw32.UplinkAll", spec := "uplinkAll", apart := false, narrowed := true }
def UplinkAllUptoSaid : Prop := uplinkAllUptoRow.holds Try.pinned (OpenSpec.upto uplinkAllSpec)

/-- 'perilunelaw32.UplinkDamage', WHERE WHAT IT READS IS OF BULK AT MOST 1048576: true; the input reads as it did. -/
def uplinkDamageUptoRow : OpenClaim := { program := "ytdncfnlhkacpaaa", sum := "e039ef2f95cf7bf489f16e9427f7203833f3abf4aa05c38033993000581a59c6", func := "perilune/perilunelaw32.UplinkDamage", spec := "uplinkDamage", apart := false, narrowed := true }
def UplinkDamageUptoSaid : Prop := uplinkDamageUptoRow.holds Try.pinned (OpenSpec.upto uplinkDamageSpec)

/-- 'perilunelaw32.UplinkSteps', WHERE WHAT IT READS IS OF BULK AT MOST 1048576: true; the input reads as it did. -/
def uplinkStepsUptoRow : OpenClaim := { program := "ytdncfnlhkacpaaa", sum := "e039ef2f95cf7bf489f16e9427f7203833f3abf4aa05c38033993000581a59c6", func := "perilune/perilunelaw32.UplinkSteps", spec := "uplinkSteps", apart := false, narrowed := true }
def UplinkStepsUptoSaid : Prop := uplinkStepsUptoRow.holds Try.pinned (OpenSpec.upto uplinkStepsSpec)

/-- 'perilunelaw32.UplinkKnown', WHERE WHAT IT READS IS OF BULK AT MOST 1048576: true; the input reads as it did. -/
def uplinkKnownUptoRow : OpenClaim := { program := "ytdncfnlhkacpaaa", sum := "e039ef2f95cf7bf489f16e9427f7203833f3abf4aa05c38033993000581a59c6", func := "perilune/perilunelaw32.UplinkKnown", spec := "uplinkKnown", apart := false, narrowed := true }
def UplinkKnownUptoSaid : Prop := uplinkKnownUptoRow.holds Try.pinned (OpenSpec.upto uplinkKnownSpec)

end Rows
end Go.Proofs.Ytdncfnlhkacpaaa
