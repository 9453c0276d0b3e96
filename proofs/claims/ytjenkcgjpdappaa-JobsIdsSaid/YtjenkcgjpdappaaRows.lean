/-
  No cell of these rows narrows 'for every input' (looked for: loops, veiled, ifaces, maps, wideKeys, modest, calm, conditions, laid).
  DERIVED. THE GIVEN ROWS OF THIS SEAT. 9 by the template 'for every input the law returns true; each argument reads behind the call as it read before'; 0 by the template 'total and deterministic' (their statements: YtjenkcgjpdappaaTotals.lean).
  GIVEN WITH THE SEED: the statements are not yours to turn. If you find one false, say at which input.
  Laid BY PROGRAM, IN A SANDBOX (cutbox-rows.mjs): the forced cells as the released guide's own fill.sh prints them over the translation d0015101d2d01ac3… (all of the seat's roots in one cut). By AI agents, Wed Nov 11 2026. No macro, syntax, notation, axiom, sorry.
-/
import Derived.Test.YtjenkcgjpdappaaChecked
import GoSem.Claim
import GoSem.ClaimJoined
import GoSem.ClaimMapViews
import Derived.JoinedTies
import Derived.KernelRfl
namespace Go.Proofs.Ytjenkcgjpdappaa
/- THE CELL 'sum', in the pinned program and in every row, IS THE sha256 OF THE DUMP (.gsa) THAT YtjenkcgjpdappaaProg.lean LOADS. Nothing in Lean hashes anything: it is a label: what it is worth is what the hold of that sum in a sandbox is worth. -/
noncomputable def Try.pinned : Pinned := { name := "ytjenkcgjpdappaa", sum := "d0015101d2d01ac343b217d2f243933acea4c8fc94018ae1051adb7a33d33646", checked := Try.checked }
namespace Rows
def none {H : Type} : Left H := { results := [], args := [] }

/-- 'perilunelaw23.JobsIds': WHATEVER THE INPUT: true; the input reads as it did. -/
def jobsIdsSpec : ChangeSpec := { name := "jobsIds", fn := fun _ => fun
  | [d] => { results := [.lit (.bool true)], args := [d] }
  | _ => none }
def jobsIdsRow : OpenClaim := { program := "ytjenkcgjpdappaa", sum := "d0015101d2d01ac343b217d2f243933acea4c8fc94018ae1051adb7a33d33646", func := "perilune/perilunelaw23.JobsIds", spec := "jobsIds", apart := false }
def JobsIdsSaid : Prop := jobsIdsRow.holds Try.pinned (OpenSpec.ofChange jobsIdsSpec)

/-- ITS FALSE NEIGHBOUR: 'it returns false'. Refute it at one input. -/
def jobsIdsWrong : ChangeSpec := { name := "jobsIds", fn := fun _ => fun
  | [d] => { results := [.lit (.bool false)], args := [d] }
  | _ => none }
def JobsIdsWrongFalsely : Prop := jobsIdsRow.holds Try.pinned (OpenSpec.ofChange jobsIdsWrong)

/-- 'perilunelaw23.JobsOne': WHATEVER THE INPUT: true; the input reads as it did. -/
def jobsOneSpec : ChangeSpec := { name := "jobsOne", fn := fun _ => fun
  | [d1, d2] => { results := [.lit (.bool true)], args := [d1, d2] }
  | _ => none }
def jobsOneRow : OpenClaim := { program := "ytjenkcgjpdappaa", sum := "d0015101d2d01ac343b217d2f243933acea4c8fc94018ae1051adb7a33d33646", func := "perilune/perilunelaw23.JobsOne", spec := "jobsOne", apart := false }
def JobsOneSaid : Prop := jobsOneRow.holds Try.pinned (OpenSpec.ofChange jobsOneSpec)

/-- ITS FALSE NEIGHBOUR: 'it returns false'. Refute it at one input. -/
def jobsOneWrong : ChangeSpec := { name := "jobsOne", fn := fun _ => fun
  | [d1, d2] => { results := [.lit (.bool false)], args := [d1, d2] }
  | _ => none }
def JobsOneWrongFalsely : Prop := jobsOneRow.holds Try.pinned (OpenSpec.ofChange jobsOneWrong)

/-- 'perilunelaw23.JobsSpend': WHATEVER THE INPUT: true; the input reads as it did. -/
def jobsSpendSpec : ChangeSpec := { name := "jobsSpend", fn := fun _ => fun
  | [d1, d2, d3] => { results := [.lit (.bool true)], args := [d1, d2, d3] }
  | _ => none }
def jobsSpendRow : OpenClaim := { program := "ytjenkcgjpdappaa", sum := "d0015101d2d01ac343b217d2f243933acea4c8fc94018ae1051adb7a33d33646", func := "perilune/perilunelaw23.JobsSpend", spec := "jobsSpend", apart := false }
def JobsSpendSaid : Prop := jobsSpendRow.holds Try.pinned (OpenSpec.ofChange jobsSpendSpec)

/-- ITS FALSE NEIGHBOUR: 'it returns false'. Refute it at one input. -/
def jobsSpendWrong : ChangeSpec := { name := "jobsSpend", fn := fun _ => fun
  | [d1, d2, d3] => { results := [.lit (.bool false)], args := [d1, d2, d3] }
  | _ => none }
def JobsSpendWrongFalsely : Prop := jobsSpendRow.holds Try.pinned (OpenSpec.ofChange jobsSpendWrong)

/-- 'perilunelaw23.JobsUrgent': WHATEVER THE INPUT: true; the input reads as it did. -/
def jobsUrgentSpec : ChangeSpec := { name := "jobsUrgent", fn := fun _ => fun
  | [d] => { results := [.lit (.bool true)], args := [d] }
  | _ => none }
def jobsUrgentRow : OpenClaim := { program := "ytjenkcgjpdappaa", sum := "d0015101d2d01ac343b217d2f243933acea4c8fc94018ae1051adb7a33d33646", func := "perilune/perilunelaw23.JobsUrgent", spec := "jobsUrgent", apart := false }
def JobsUrgentSaid : Prop := jobsUrgentRow.holds Try.pinned (OpenSpec.ofChange jobsUrgentSpec)

/-- ITS FALSE NEIGHBOUR: 'it returns false'. Refute it at one input. -/
def jobsUrgentWrong : ChangeSpec := { name := "jobsUrgent", fn := fun _ => fun
  | [d] => { results := [.lit (.bool false)], args := [d] }
  | _ => none }
def JobsUrgentWrongFalsely : Prop := jobsUrgentRow.holds Try.pinned (OpenSpec.ofChange jobsUrgentWrong)

/-- 'perilunelaw23.JobsReady': WHATEVER THE INPUT: true; the input reads as it did. -/
def jobsReadySpec : ChangeSpec := { name := "jobsReady", fn := fun _ => fun
  | [d1, d2] => { results := [.lit (.bool true)], args := [d1, d2] }
  | _ => none }
def jobsReadyRow : OpenClaim := { program := "ytjenkcgjpdappaa", sum := "d0015101d2d01ac343b217d2f243933acea4c8fc94018ae1051adb7a33d33646", func := "perilune/perilunelaw23.JobsReady", spec := "jobsReady", apart := false }
def JobsReadySaid : Prop := jobsReadyRow.holds Try.pinned (OpenSpec.ofChange jobsReadySpec)

/-- ITS FALSE NEIGHBOUR: 'it returns false'. Refute it at one input. -/
def jobsReadyWrong : ChangeSpec := { name := "jobsReady", fn := fun _ => fun
  | [d1, d2] => { results := [.lit (.bool false)], args := [d1, d2] }
  | _ => none }
def JobsReadyWrongFalsely : Prop := jobsReadyRow.holds Try.pinned (OpenSpec.ofChange jobsReadyWrong)

/-- 'perilunelaw23.JobsRequest': WHATEVER THE INPUT: true; the input reads as it did. -/
def jobsRequestSpec : ChangeSpec := { name := "jobsRequest", fn := fun _ => fun
  | [d1, d2, d3, d4] => { results := [.lit (.bool true)], args := [d1, d2, d3, d4] }
  | _ => none }
def jobsRequestRow : OpenClaim := { program := "ytjenkcgjpdappaa", sum := "d0015101d2d01ac343b217d2f243933acea4c8fc94018ae1051adb7a33d33646", func := "perilune/perilunelaw23.JobsRequest", spec := "jobsRequest", apart := false }
def JobsRequestSaid : Prop := jobsRequestRow.holds Try.pinned (OpenSpec.ofChange jobsRequestSpec)

/-- ITS FALSE NEIGHBOUR: 'it returns false'. Refute it at one input. -/
def jobsRequestWrong : ChangeSpec := { name := "jobsRequest", fn := fun _ => fun
  | [d1, d2, d3, d4] => { results := [.lit (.bool false)], args := [d1, d2, d3, d4] }
  | _ => none }
def JobsRequestWrongFalsely : Prop := jobsRequestRow.holds Try.pinned (OpenSpec.ofChange jobsRequestWrong)

/-- 'perilunelaw23.JobsShed': WHATEVER THE INPUT: true; the input reads as it did. -/
def jobsShedSpec : ChangeSpec := { name := "jobsShed", fn := fun _ => fun
  | [d1, d2] => { results := [.lit (.bool true)], args := [d1, d2] }
  | _ => none }
def jobsShedRow : OpenClaim := { program := "ytjenkcgjpdappaa", sum := "d0015101d2d01ac343b217d2f243933acea4c8fc94018ae1051adb7a33d33646", func := "perilune/perilunelaw23.JobsShed", spec := "jobsShed", apart := false }
def JobsShedSaid : Prop := jobsShedRow.holds Try.pinned (OpenSpec.ofChange jobsShedSpec)

/-- ITS FALSE NEIGHBOUR: 'it returns false'. Refute it at one input. -/
def jobsShedWrong : ChangeSpec := { name := "jobsShed", fn := fun _ => fun
  | [d1, d2] => { results := [.lit (.bool false)], args := [d1, d2] }
  | _ => none }
def JobsShedWrongFalsely : Prop := jobsShedRow.holds Try.pinned (OpenSpec.ofChange jobsShedWrong)

/-- 'perilunelaw23.JobsEnd': WHATEVER THE INPUT: true; the input reads as it did. -/
def jobsEndSpec : ChangeSpec := { name := "jobsEnd", fn := fun _ => fun
  | [d1, d2, d3] => { results := [.lit (.bool true)], args := [d1, d2, d3] }
  | _ => none }
def jobsEndRow : OpenClaim := { program := "ytjenkcgjpdappaa", sum := "d0015101d2d01ac343b217d2f243933acea4c8fc94018ae1051adb7a33d33646", func := "perilune/perilunelaw23.JobsEnd", spec := "jobsEnd", apart := false }
def JobsEndSaid : Prop := jobsEndRow.holds Try.pinned (OpenSpec.ofChange jobsEndSpec)

/-- ITS FALSE NEIGHBOUR: 'it returns false'. Refute it at one input. -/
def jobsEndWrong : ChangeSpec := { name := "jobsEnd", fn := fun _ => fun
  | [d1, d2, d3] => { results := [.lit (.bool false)], args := [d1, d2, d3] }
  | _ => none }
def JobsEndWrongFalsely : Prop := jobsEndRow.holds Try.pinned (OpenSpec.ofChange jobsEndWrong)

/-- 'perilunelaw23.JobsSleep': WHATEVER THE INPUT: true; the input reads as it did. -/
def jobsSleepSpec : ChangeSpec := { name := "jobsSleep", fn := fun _ => fun
  | [d1, d2, d3] => { results := [.lit (.bool true)], args := [d1, d2, d3] }
  | _ => none }
def jobsSleepRow : OpenClaim := { program := "ytjenkcgjpdappaa", sum := "d0015101d2d01ac343b217d2f243933acea4c8fc94018ae1051adb7a33d33646", func := "perilune/perilunelaw23.JobsSleep", spec := "jobsSleep", apart := false }
def JobsSleepSaid : Prop := jobsSleepRow.holds Try.pinned (OpenSpec.ofChange jobsSleepSpec)

/-- ITS FALSE NEIGHBOUR: 'it returns false'. Refute it at one input. -/
def jobsSleepWrong : ChangeSpec := { name := "jobsSleep", fn := fun _ => fun
  | [d1, d2, d3] => { results := [.lit (.bool false)], args := [d1, d2, d3] }
  | _ => none }
def JobsSleepWrongFalsely : Prop := jobsSleepRow.holds Try.pinned (OpenSpec.ofChange jobsSleepWrong)

/- THE SECOND FORM. 'bulk': how many values and letters a reading holds, each counted each time it is reached (what is shared counts as often as it is met; a slice's spare places count too). A statement '..UptoSaid' is the law's where the arguments, and the package variables that the reading takes, are together of bulk at most 1048576: NARROWER than '..Said'. Prove '..Said' where nothing that the law and all that it calls make is longer than what came in: it says more and counts as full. Else prove '..UptoSaid'. A law counts once. -/
mutual
def uptoBulk {H : Type} : DataW H → Nat
  | .lit (.string bytes) => bytes.length + 1
  | .lit _ => 1
  | .nil => 1
  | .ptr d => uptoBulk d + 1
  | .slice elems spare => uptoBulkAll elems + uptoBulkAll spare + 1
  | .agg parts => uptoBulkAll parts + 1
  | .iface _ d => uptoBulk d + 1
  | .map entries => uptoBulkEntries entries + 1
  | .held _ => 1
def uptoBulkAll {H : Type} : List (DataW H) → Nat
  | [] => 0
  | d :: r => uptoBulk d + uptoBulkAll r
def uptoBulkEntries {H : Type} : List (Lit × DataW H) → Nat
  | [] => 0
  | x :: r => uptoBulkEntry x + uptoBulkEntries r
def uptoBulkEntry {H : Type} : Lit × DataW H → Nat
  | (.string bytes, d) => bytes.length + uptoBulk d + 1
  | (_, d) => uptoBulk d + 1
 end
def uptoSmall : (H : Type) → List (DataW H) → Bool := fun _ ds => decide (uptoBulkAll ds ≤ 1048576)
def OpenSpec.upto (s : _root_.Go.ChangeSpec) : _root_.Go.OpenSpec := { _root_.Go.OpenSpec.ofChange s with cond := some uptoSmall }

/-- 'perilunelaw23.JobsIds', WHERE WHAT IT READS IS OF BULK AT MOST 1048576: true; the input reads as it did. -/
def jobsIdsUptoRow : OpenClaim := { program := "ytjenkcgjpdappaa", sum := "d0015101d2d01ac343b217d2f243933acea4c8fc94018ae1051adb7a33d33646", func := "perilune/perilunelaw23.JobsIds", spec := "jobsIds", apart := false, narrowed := true }
def JobsIdsUptoSaid : Prop := jobsIdsUptoRow.holds Try.pinned (OpenSpec.upto jobsIdsSpec)

/-- 'perilunelaw23.JobsOne', WHERE WHAT IT READS IS OF BULK AT MOST 1048576: true; the input reads as it did. -/
def jobsOneUptoRow : OpenClaim := { program := "ytjenkcgjpdappaa", sum := "d0015101d2d01ac343b217d2f243933acea4c8fc94018ae1051adb7a33d33646", func := "perilune/perilunelaw23.JobsOne", spec := "jobsOne", apart := false, narrowed := true }
def JobsOneUptoSaid : Prop := jobsOneUptoRow.holds Try.pinned (OpenSpec.upto jobsOneSpec)

/-- 'perilunelaw23.JobsSpend', WHERE WHAT IT READS IS OF BULK AT MOST 1048576: true; the input reads as it did. -/
def jobsSpendUptoRow : OpenClaim := { program := "ytjenkcgjpdappaa", sum := "d0015101d2d01ac343b217d2f243933acea4c8fc94018ae1051adb7a33d33646", func := "perilune/perilunelaw23.JobsSpend", spec := "jobsSpend", apart := false, narrowed := true }
def JobsSpendUptoSaid : Prop := jobsSpendUptoRow.holds Try.pinned (OpenSpec.upto jobsSpendSpec)

/-- 'perilunelaw23.JobsUrgent', WHERE WHAT IT READS IS OF BULK AT MOST 1048576: true; the input reads as it did. -/
def jobsUrgentUptoRow : OpenClaim := { program := "ytjenkcgjpdappaa", sum := "d0015101d2d01ac343b217d2f243933acea4c8fc94018ae1051adb7a33d33646", func := "perilune/perilunelaw23.JobsUrgent", spec := "jobsUrgent", apart := false, narrowed := true }
def JobsUrgentUptoSaid : Prop := jobsUrgentUptoRow.holds Try.pinned (OpenSpec.upto jobsUrgentSpec)

/-- 'perilunelaw23.JobsReady', WHERE WHAT IT READS IS OF BULK AT MOST 1048576: true; the input reads as it did. -/
def jobsReadyUptoRow : OpenClaim := { program := "ytjenkcgjpdappaa", sum := "d0015101d2d01ac343b217d2f243933acea4c8fc94018ae1051adb7a33d33646", func := "perilune/perilunelaw23.JobsReady", spec := "jobsReady", apart := false, narrowed := true }
def JobsReadyUptoSaid : Prop := jobsReadyUptoRow.holds Try.pinned (OpenSpec.upto jobsReadySpec)

/-- 'perilunelaw23.JobsRequest', WHERE WHAT IT READS IS OF BULK AT MOST 1048576: true; the input reads as it did. -/
def jobsRequestUptoRow : OpenClaim := { program := "ytjenkcgjpdappaa", sum := "d0015101d2d01ac343b217d2f243933acea4c8fc94018ae1051adb7a33d33646", func := "perilune/perilunelaw23.JobsRequest", spec := "jobsRequest", apart := false, narrowed := true }
def JobsRequestUptoSaid : Prop := jobsRequestUptoRow.holds Try.pinned (OpenSpec.upto jobsRequestSpec)

/-- 'perilunelaw23.JobsShed', WHERE WHAT IT READS IS OF BULK AT MOST 1048576: true; the input reads as it did. -/
def jobsShedUptoRow : OpenClaim := { program := "ytjenkcgjpdappaa", sum := "d0015101d2d01ac343b217d2f243933acea4c8fc94018ae1051adb7a33d33646", func := "perilune/perilunelaw23.JobsShed", spec := "jobsShed", apart := false, narrowed := true }
def JobsShedUptoSaid : Prop := jobsShedUptoRow.holds Try.pinned (OpenSpec.upto jobsShedSpec)

/-- 'perilunelaw23.JobsEnd', WHERE WHAT IT READS IS OF BULK AT MOST 1048576: true; the input reads as it did. -/
def jobsEndUptoRow : OpenClaim := { program := "ytjenkcgjpdappaa", sum := "d0015101d2d01ac343b217d2f243933acea4c8fc94018ae1051adb7a33d33646", func := "perilune/perilunelaw23.JobsEnd", spec := "jobsEnd", apart := false, narrowed := true }
def JobsEndUptoSaid : Prop := jobsEndUptoRow.holds Try.pinned (OpenSpec.upto jobsEndSpec)

/-- 'perilunelaw23.JobsSleep', WHERE WHAT IT READS IS OF BULK AT MOST 1048576: true; the input reads as it did. -/
def jobsSleepUptoRow : OpenClaim := { program := "ytjenkcgjpdappaa", sum := "d0015101d2d01ac343b217d2f243933acea4c8fc94018ae1051adb7a33d33646", func := "perilune/perilunelaw23.JobsSleep", spec := "jobsSleep", apart := false, narrowed := true }
def JobsSleepUptoSaid : Prop := jobsSleepUptoRow.holds Try.pinned (OpenSpec.upto jobsSleepSpec)

end Rows
end Go.Proofs.Ytjenkcgjpdappaa
