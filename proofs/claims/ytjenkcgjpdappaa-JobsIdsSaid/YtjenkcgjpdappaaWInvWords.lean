/- Words of the print, cut to what this claim's texts use. -/
import Derived.Test.YtjenkcgjpdappaaWInv
import Derived.Test.YtjenkcgjpdappaaWFootNe
namespace Go.Proofs.YtjenkcgjpdappaaW.PrintWords
open Go.RowKit
end Go.Proofs.YtjenkcgjpdappaaW.PrintWords
namespace Go.Proofs.YtjenkcgjpdappaaW.PrintLast
section
variable {ops : Array Oper} {a : Act} {o og : Oper} {g : Nat} {t : Tmp} {u : Bool}
end
end Go.Proofs.YtjenkcgjpdappaaW.PrintLast
