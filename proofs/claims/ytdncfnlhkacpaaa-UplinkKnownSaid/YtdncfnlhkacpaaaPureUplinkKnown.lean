/- Plain facts: UplinkKnown answers true (a closed function: it is run). No condition. -/
import Derived.Test.YtdncfnlhkacpaaaZx12
namespace Go.Proofs.Ytdncfnlhkacpaaa.Pure
open Go.RowKit Go.Proofs.Ytdncfnlhkacpaaa.Z Go.Proofs.YtdncfnlhkacpaaaW.PrintWords Go.Proofs.YtdncfnlhkacpaaaW.PrintLast

theorem UplinkKnown : perilunelaw32_UplinkKnown.Pure := ⟨80, by decide +kernel⟩

end Go.Proofs.Ytdncfnlhkacpaaa.Pure
