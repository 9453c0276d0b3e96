-- Printed by a session's own program (wip/turnprint.py, wip/myprint.sh) over the translation's print.
import Derived.Test.YtndcaaklcacnoaaPx0
import Derived.Test.YtndcaaklcacnoaaPx1
import Derived.Test.YtndcaaklcacnoaaPx2
import Derived.Test.YtndcaaklcacnoaaPx3
import Derived.Test.YtndcaaklcacnoaaPx4
import Derived.Test.YtndcaaklcacnoaaPx5
import Derived.Test.YtndcaaklcacnoaaPx6
namespace Go.Proofs.Ytndcaaklcacnoaa.P
open Go.RowKit Go.Proofs.YtndcaaklcacnoaaW.PrintWords Go.Proofs.YtndcaaklcacnoaaW.PrintLast Go.Proofs.YtndcaaklcacnoaaW.PrintMore
attribute [local go_sem] max2_int min2_int max_two min_two max_three min_three max_four min_four   -- for this text's walks alone
set_option linter.unusedVariables false
set_option linter.unusedSimpArgs false

end Go.Proofs.Ytndcaaklcacnoaa.P
