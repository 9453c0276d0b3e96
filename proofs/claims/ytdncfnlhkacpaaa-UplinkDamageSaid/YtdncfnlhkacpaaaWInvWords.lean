/- Words of the print, cut to what this claim's texts use. -/
import Derived.Test.YtdncfnlhkacpaaaWInv
import Derived.Test.YtdncfnlhkacpaaaWFootNe
namespace Go.Proofs.YtdncfnlhkacpaaaW.PrintWords
open Go.RowKit
end Go.Proofs.YtdncfnlhkacpaaaW.PrintWords
namespace Go.Proofs.YtdncfnlhkacpaaaW.PrintLast
section
variable {ops : Array Oper} {a : Act} {o og : Oper} {g : Nat} {t : Tmp} {u : Bool}
end
end Go.Proofs.YtdncfnlhkacpaaaW.PrintLast
