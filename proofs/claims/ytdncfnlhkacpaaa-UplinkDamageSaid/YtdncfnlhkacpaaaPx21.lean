-- Printed by a session's own program (wip/turnprint.py, wip/myprint.sh) over the translation's print.
import Derived.Test.YtdncfnlhkacpaaaPx0
import Derived.Test.YtdncfnlhkacpaaaPx1
import Derived.Test.YtdncfnlhkacpaaaPx2
import Derived.Test.YtdncfnlhkacpaaaPx5
import Derived.Test.YtdncfnlhkacpaaaPx10
import Derived.Test.YtdncfnlhkacpaaaPx15
import Derived.Test.YtdncfnlhkacpaaaPx17
namespace Go.Proofs.Ytdncfnlhkacpaaa.P
open Go.RowKit Go.Proofs.YtdncfnlhkacpaaaW.PrintWords Go.Proofs.YtdncfnlhkacpaaaW.PrintLast Go.Proofs.YtdncfnlhkacpaaaW.PrintMore
attribute [local go_sem] max2_int min2_int max_two min_two max_three min_three max_four min_four   -- for this text's walks alone
set_option linter.unusedVariables false
set_option linter.unusedSimpArgs false

attribute [local go_sem high] eqA22 eqA31
/-! ### perilunelaw32_UplinkDamage: function 8 -/
mutual
def perilunelaw32_UplinkDamage.l0 : Nat → List (S46) → List (S22) → List Int → Int → Bool → Int → Option (Bool)
  | 0, _, _, _, _, _, _ => none
  | k + 1, x0, x3, x4, x6, x218000, x218001 => if x6 < (x0.length : Int) then (if 0 ≤ x6 then ((uplink_Word.f k (Int.tmod (wrap64 ((rd_T46 x0 x6).f0)) 32)).bind fun bt227 => (if ((rd_T46 x0 x6).f1) < 16 then (if 0 ≤ ((rd_T46 x0 x6).f1) then (perilunelaw32_UplinkDamage.j1 k x0 x3 x4 x6 (Int.tmod (wrap64 ((rd_T46 x0 x6).f0)) 32) x218000 x218001 bt227.1 bt227.2.1 bt227.2.2.1 bt227.2.2.2.1 bt227.2.2.2.2.1 bt227.2.2.2.2.2.1 bt227.2.2.2.2.2.2.1 bt227.2.2.2.2.2.2.2.1 bt227.2.2.2.2.2.2.2.2.1 bt227.2.2.2.2.2.2.2.2.2.1 bt227.2.2.2.2.2.2.2.2.2.2.1 bt227.2.2.2.2.2.2.2.2.2.2.2.1 bt227.2.2.2.2.2.2.2.2.2.2.2.2.1 bt227.2.2.2.2.2.2.2.2.2.2.2.2.2.1 bt227.2.2.2.2.2.2.2.2.2.2.2.2.2.2.1 bt227.2.2.2.2.2.2.2.2.2.2.2.2.2.2.2.1 (pt 0 ((rd_T46 x0 x6).f1) ((1 - (pk16 bt227.1 bt227.2.1 bt227.2.2.1 bt227.2.2.2.1 bt227.2.2.2.2.1 bt227.2.2.2.2.2.1 bt227.2.2.2.2.2.2.1 bt227.2.2.2.2.2.2.2.1 bt227.2.2.2.2.2.2.2.2.1 bt227.2.2.2.2.2.2.2.2.2.1 bt227.2.2.2.2.2.2.2.2.2.2.1 bt227.2.2.2.2.2.2.2.2.2.2.2.1 bt227.2.2.2.2.2.2.2.2.2.2.2.2.1 bt227.2.2.2.2.2.2.2.2.2.2.2.2.2.1 bt227.2.2.2.2.2.2.2.2.2.2.2.2.2.2.1 bt227.2.2.2.2.2.2.2.2.2.2.2.2.2.2.2.1 ((rd_T46 x0 x6).f1))) % 256) bt227.1) (pt 1 ((rd_T46 x0 x6).f1) ((1 - (pk16 bt227.1 bt227.2.1 bt227.2.2.1 bt227.2.2.2.1 bt227.2.2.2.2.1 bt227.2.2.2.2.2.1 bt227.2.2.2.2.2.2.1 bt227.2.2.2.2.2.2.2.1 bt227.2.2.2.2.2.2.2.2.1 bt227.2.2.2.2.2.2.2.2.2.1 bt227.2.2.2.2.2.2.2.2.2.2.1 bt227.2.2.2.2.2.2.2.2.2.2.2.1 bt227.2.2.2.2.2.2.2.2.2.2.2.2.1 bt227.2.2.2.2.2.2.2.2.2.2.2.2.2.1 bt227.2.2.2.2.2.2.2.2.2.2.2.2.2.2.1 bt227.2.2.2.2.2.2.2.2.2.2.2.2.2.2.2.1 ((rd_T46 x0 x6).f1))) % 256) bt227.2.1) (pt 2 ((rd_T46 x0 x6).f1) ((1 - (pk16 bt227.1 bt227.2.1 bt227.2.2.1 bt227.2.2.2.1 bt227.2.2.2.2.1 bt227.2.2.2.2.2.1 bt227.2.2.2.2.2.2.1 bt227.2.2.2.2.2.2.2.1 bt227.2.2.2.2.2.2.2.2.1 bt227.2.2.2.2.2.2.2.2.2.1 bt227.2.2.2.2.2.2.2.2.2.2.1 bt227.2.2.2.2.2.2.2.2.2.2.2.1 bt227.2.2.2.2.2.2.2.2.2.2.2.2.1 bt227.2.2.2.2.2.2.2.2.2.2.2.2.2.1 bt227.2.2.2.2.2.2.2.2.2.2.2.2.2.2.1 bt227.2.2.2.2.2.2.2.2.2.2.2.2.2.2.2.1 ((rd_T46 x0 x6).f1))) % 256) bt227.2.2.1) (pt 3 ((rd_T46 x0 x6).f1) ((1 - (pk16 bt227.1 bt227.2.1 bt227.2.2.1 bt227.2.2.2.1 bt227.2.2.2.2.1 bt227.2.2.2.2.2.1 bt227.2.2.2.2.2.2.1 bt227.2.2.2.2.2.2.2.1 bt227.2.2.2.2.2.2.2.2.1 bt227.2.2.2.2.2.2.2.2.2.1 bt227.2.2.2.2.2.2.2.2.2.2.1 bt227.2.2.2.2.2.2.2.2.2.2.2.1 bt227.2.2.2.2.2.2.2.2.2.2.2.2.1 bt227.2.2.2.2.2.2.2.2.2.2.2.2.2.1 bt227.2.2.2.2.2.2.2.2.2.2.2.2.2.2.1 bt227.2.2.2.2.2.2.2.2.2.2.2.2.2.2.2.1 ((rd_T46 x0 x6).f1))) % 256) bt227.2.2.2.1) (pt 4 ((rd_T46 x0 x6).f1) ((1 - (pk16 bt227.1 bt227.2.1 bt227.2.2.1 bt227.2.2.2.1 bt227.2.2.2.2.1 bt227.2.2.2.2.2.1 bt227.2.2.2.2.2.2.1 bt227.2.2.2.2.2.2.2.1 bt227.2.2.2.2.2.2.2.2.1 bt227.2.2.2.2.2.2.2.2.2.1 bt227.2.2.2.2.2.2.2.2.2.2.1 bt227.2.2.2.2.2.2.2.2.2.2.2.1 bt227.2.2.2.2.2.2.2.2.2.2.2.2.1 bt227.2.2.2.2.2.2.2.2.2.2.2.2.2.1 bt227.2.2.2.2.2.2.2.2.2.2.2.2.2.2.1 bt227.2.2.2.2.2.2.2.2.2.2.2.2.2.2.2.1 ((rd_T46 x0 x6).f1))) % 256) bt227.2.2.2.2.1) (pt 5 ((rd_T46 x0 x6).f1) ((1 - (pk16 bt227.1 bt227.2.1 bt227.2.2.1 bt227.2.2.2.1 bt227.2.2.2.2.1 bt227.2.2.2.2.2.1 bt227.2.2.2.2.2.2.1 bt227.2.2.2.2.2.2.2.1 bt227.2.2.2.2.2.2.2.2.1 bt227.2.2.2.2.2.2.2.2.2.1 bt227.2.2.2.2.2.2.2.2.2.2.1 bt227.2.2.2.2.2.2.2.2.2.2.2.1 bt227.2.2.2.2.2.2.2.2.2.2.2.2.1 bt227.2.2.2.2.2.2.2.2.2.2.2.2.2.1 bt227.2.2.2.2.2.2.2.2.2.2.2.2.2.2.1 bt227.2.2.2.2.2.2.2.2.2.2.2.2.2.2.2.1 ((rd_T46 x0 x6).f1))) % 256) bt227.2.2.2.2.2.1) (pt 6 ((rd_T46 x0 x6).f1) ((1 - (pk16 bt227.1 bt227.2.1 bt227.2.2.1 bt227.2.2.2.1 bt227.2.2.2.2.1 bt227.2.2.2.2.2.1 bt227.2.2.2.2.2.2.1 bt227.2.2.2.2.2.2.2.1 bt227.2.2.2.2.2.2.2.2.1 bt227.2.2.2.2.2.2.2.2.2.1 bt227.2.2.2.2.2.2.2.2.2.2.1 bt227.2.2.2.2.2.2.2.2.2.2.2.1 bt227.2.2.2.2.2.2.2.2.2.2.2.2.1 bt227.2.2.2.2.2.2.2.2.2.2.2.2.2.1 bt227.2.2.2.2.2.2.2.2.2.2.2.2.2.2.1 bt227.2.2.2.2.2.2.2.2.2.2.2.2.2.2.2.1 ((rd_T46 x0 x6).f1))) % 256) bt227.2.2.2.2.2.2.1) (pt 7 ((rd_T46 x0 x6).f1) ((1 - (pk16 bt227.1 bt227.2.1 bt227.2.2.1 bt227.2.2.2.1 bt227.2.2.2.2.1 bt227.2.2.2.2.2.1 bt227.2.2.2.2.2.2.1 bt227.2.2.2.2.2.2.2.1 bt227.2.2.2.2.2.2.2.2.1 bt227.2.2.2.2.2.2.2.2.2.1 bt227.2.2.2.2.2.2.2.2.2.2.1 bt227.2.2.2.2.2.2.2.2.2.2.2.1 bt227.2.2.2.2.2.2.2.2.2.2.2.2.1 bt227.2.2.2.2.2.2.2.2.2.2.2.2.2.1 bt227.2.2.2.2.2.2.2.2.2.2.2.2.2.2.1 bt227.2.2.2.2.2.2.2.2.2.2.2.2.2.2.2.1 ((rd_T46 x0 x6).f1))) % 256) bt227.2.2.2.2.2.2.2.1) (pt 8 ((rd_T46 x0 x6).f1) ((1 - (pk16 bt227.1 bt227.2.1 bt227.2.2.1 bt227.2.2.2.1 bt227.2.2.2.2.1 bt227.2.2.2.2.2.1 bt227.2.2.2.2.2.2.1 bt227.2.2.2.2.2.2.2.1 bt227.2.2.2.2.2.2.2.2.1 bt227.2.2.2.2.2.2.2.2.2.1 bt227.2.2.2.2.2.2.2.2.2.2.1 bt227.2.2.2.2.2.2.2.2.2.2.2.1 bt227.2.2.2.2.2.2.2.2.2.2.2.2.1 bt227.2.2.2.2.2.2.2.2.2.2.2.2.2.1 bt227.2.2.2.2.2.2.2.2.2.2.2.2.2.2.1 bt227.2.2.2.2.2.2.2.2.2.2.2.2.2.2.2.1 ((rd_T46 x0 x6).f1))) % 256) bt227.2.2.2.2.2.2.2.2.1) (pt 9 ((rd_T46 x0 x6).f1) ((1 - (pk16 bt227.1 bt227.2.1 bt227.2.2.1 bt227.2.2.2.1 bt227.2.2.2.2.1 bt227.2.2.2.2.2.1 bt227.2.2.2.2.2.2.1 bt227.2.2.2.2.2.2.2.1 bt227.2.2.2.2.2.2.2.2.1 bt227.2.2.2.2.2.2.2.2.2.1 bt227.2.2.2.2.2.2.2.2.2.2.1 bt227.2.2.2.2.2.2.2.2.2.2.2.1 bt227.2.2.2.2.2.2.2.2.2.2.2.2.1 bt227.2.2.2.2.2.2.2.2.2.2.2.2.2.1 bt227.2.2.2.2.2.2.2.2.2.2.2.2.2.2.1 bt227.2.2.2.2.2.2.2.2.2.2.2.2.2.2.2.1 ((rd_T46 x0 x6).f1))) % 256) bt227.2.2.2.2.2.2.2.2.2.1) (pt 10 ((rd_T46 x0 x6).f1) ((1 - (pk16 bt227.1 bt227.2.1 bt227.2.2.1 bt227.2.2.2.1 bt227.2.2.2.2.1 bt227.2.2.2.2.2.1 bt227.2.2.2.2.2.2.1 bt227.2.2.2.2.2.2.2.1 bt227.2.2.2.2.2.2.2.2.1 bt227.2.2.2.2.2.2.2.2.2.1 bt227.2.2.2.2.2.2.2.2.2.2.1 bt227.2.2.2.2.2.2.2.2.2.2.2.1 bt227.2.2.2.2.2.2.2.2.2.2.2.2.1 bt227.2.2.2.2.2.2.2.2.2.2.2.2.2.1 bt227.2.2.2.2.2.2.2.2.2.2.2.2.2.2.1 bt227.2.2.2.2.2.2.2.2.2.2.2.2.2.2.2.1 ((rd_T46 x0 x6).f1))) % 256) bt227.2.2.2.2.2.2.2.2.2.2.1) (pt 11 ((rd_T46 x0 x6).f1) ((1 - (pk16 bt227.1 bt227.2.1 bt227.2.2.1 bt227.2.2.2.1 bt227.2.2.2.2.1 bt227.2.2.2.2.2.1 bt227.2.2.2.2.2.2.1 bt227.2.2.2.2.2.2.2.1 bt227.2.2.2.2.2.2.2.2.1 bt227.2.2.2.2.2.2.2.2.2.1 bt227.2.2.2.2.2.2.2.2.2.2.1 bt227.2.2.2.2.2.2.2.2.2.2.2.1 bt227.2.2.2.2.2.2.2.2.2.2.2.2.1 bt227.2.2.2.2.2.2.2.2.2.2.2.2.2.1 bt227.2.2.2.2.2.2.2.2.2.2.2.2.2.2.1 bt227.2.2.2.2.2.2.2.2.2.2.2.2.2.2.2.1 ((rd_T46 x0 x6).f1))) % 256) bt227.2.2.2.2.2.2.2.2.2.2.2.1) (pt 12 ((rd_T46 x0 x6).f1) ((1 - (pk16 bt227.1 bt227.2.1 bt227.2.2.1 bt227.2.2.2.1 bt227.2.2.2.2.1 bt227.2.2.2.2.2.1 bt227.2.2.2.2.2.2.1 bt227.2.2.2.2.2.2.2.1 bt227.2.2.2.2.2.2.2.2.1 bt227.2.2.2.2.2.2.2.2.2.1 bt227.2.2.2.2.2.2.2.2.2.2.1 bt227.2.2.2.2.2.2.2.2.2.2.2.1 bt227.2.2.2.2.2.2.2.2.2.2.2.2.1 bt227.2.2.2.2.2.2.2.2.2.2.2.2.2.1 bt227.2.2.2.2.2.2.2.2.2.2.2.2.2.2.1 bt227.2.2.2.2.2.2.2.2.2.2.2.2.2.2.2.1 ((rd_T46 x0 x6).f1))) % 256) bt227.2.2.2.2.2.2.2.2.2.2.2.2.1) (pt 13 ((rd_T46 x0 x6).f1) ((1 - (pk16 bt227.1 bt227.2.1 bt227.2.2.1 bt227.2.2.2.1 bt227.2.2.2.2.1 bt227.2.2.2.2.2.1 bt227.2.2.2.2.2.2.1 bt227.2.2.2.2.2.2.2.1 bt227.2.2.2.2.2.2.2.2.1 bt227.2.2.2.2.2.2.2.2.2.1 bt227.2.2.2.2.2.2.2.2.2.2.1 bt227.2.2.2.2.2.2.2.2.2.2.2.1 bt227.2.2.2.2.2.2.2.2.2.2.2.2.1 bt227.2.2.2.2.2.2.2.2.2.2.2.2.2.1 bt227.2.2.2.2.2.2.2.2.2.2.2.2.2.2.1 bt227.2.2.2.2.2.2.2.2.2.2.2.2.2.2.2.1 ((rd_T46 x0 x6).f1))) % 256) bt227.2.2.2.2.2.2.2.2.2.2.2.2.2.1) (pt 14 ((rd_T46 x0 x6).f1) ((1 - (pk16 bt227.1 bt227.2.1 bt227.2.2.1 bt227.2.2.2.1 bt227.2.2.2.2.1 bt227.2.2.2.2.2.1 bt227.2.2.2.2.2.2.1 bt227.2.2.2.2.2.2.2.1 bt227.2.2.2.2.2.2.2.2.1 bt227.2.2.2.2.2.2.2.2.2.1 bt227.2.2.2.2.2.2.2.2.2.2.1 bt227.2.2.2.2.2.2.2.2.2.2.2.1 bt227.2.2.2.2.2.2.2.2.2.2.2.2.1 bt227.2.2.2.2.2.2.2.2.2.2.2.2.2.1 bt227.2.2.2.2.2.2.2.2.2.2.2.2.2.2.1 bt227.2.2.2.2.2.2.2.2.2.2.2.2.2.2.2.1 ((rd_T46 x0 x6).f1))) % 256) bt227.2.2.2.2.2.2.2.2.2.2.2.2.2.2.1) (pt 15 ((rd_T46 x0 x6).f1) ((1 - (pk16 bt227.1 bt227.2.1 bt227.2.2.1 bt227.2.2.2.1 bt227.2.2.2.2.1 bt227.2.2.2.2.2.1 bt227.2.2.2.2.2.2.1 bt227.2.2.2.2.2.2.2.1 bt227.2.2.2.2.2.2.2.2.1 bt227.2.2.2.2.2.2.2.2.2.1 bt227.2.2.2.2.2.2.2.2.2.2.1 bt227.2.2.2.2.2.2.2.2.2.2.2.1 bt227.2.2.2.2.2.2.2.2.2.2.2.2.1 bt227.2.2.2.2.2.2.2.2.2.2.2.2.2.1 bt227.2.2.2.2.2.2.2.2.2.2.2.2.2.2.1 bt227.2.2.2.2.2.2.2.2.2.2.2.2.2.2.2.1 ((rd_T46 x0 x6).f1))) % 256) bt227.2.2.2.2.2.2.2.2.2.2.2.2.2.2.2.1)) else (none)) else (perilunelaw32_UplinkDamage.j1 k x0 x3 x4 x6 (Int.tmod (wrap64 ((rd_T46 x0 x6).f0)) 32) x218000 x218001 bt227.1 bt227.2.1 bt227.2.2.1 bt227.2.2.2.1 bt227.2.2.2.2.1 bt227.2.2.2.2.2.1 bt227.2.2.2.2.2.2.1 bt227.2.2.2.2.2.2.2.1 bt227.2.2.2.2.2.2.2.2.1 bt227.2.2.2.2.2.2.2.2.2.1 bt227.2.2.2.2.2.2.2.2.2.2.1 bt227.2.2.2.2.2.2.2.2.2.2.2.1 bt227.2.2.2.2.2.2.2.2.2.2.2.2.1 bt227.2.2.2.2.2.2.2.2.2.2.2.2.2.1 bt227.2.2.2.2.2.2.2.2.2.2.2.2.2.2.1 bt227.2.2.2.2.2.2.2.2.2.2.2.2.2.2.2.1 bt227.1 bt227.2.1 bt227.2.2.1 bt227.2.2.2.1 bt227.2.2.2.2.1 bt227.2.2.2.2.2.1 bt227.2.2.2.2.2.2.1 bt227.2.2.2.2.2.2.2.1 bt227.2.2.2.2.2.2.2.2.1 bt227.2.2.2.2.2.2.2.2.2.1 bt227.2.2.2.2.2.2.2.2.2.2.1 bt227.2.2.2.2.2.2.2.2.2.2.2.1 bt227.2.2.2.2.2.2.2.2.2.2.2.2.1 bt227.2.2.2.2.2.2.2.2.2.2.2.2.2.1 bt227.2.2.2.2.2.2.2.2.2.2.2.2.2.2.1 bt227.2.2.2.2.2.2.2.2.2.2.2.2.2.2.2.1))) else (none)) else ((uplink_All.f k x3).bind fun bt218 => ((periluneref32_Same.f k bt218.1 x4).bind fun t224 => (if t224 = true then (if (bt218.2.1 == x218000 && (bt218.2.2 == x218001)) = true then ((perilunelaw32_awake.f k).bind fun t225 => (some t225)) else (some false)) else (some false))))
def perilunelaw32_UplinkDamage.j1 : Nat → List (S46) → List (S22) → List Int → Int → Int → Bool → Int → Int → Int → Int → Int → Int → Int → Int → Int → Int → Int → Int → Int → Int → Int → Int → Int → Int → Int → Int → Int → Int → Int → Int → Int → Int → Int → Int → Int → Int → Int → Int → Int → Option (Bool)
  | 0, _, _, _, _, _, _, _, _, _, _, _, _, _, _, _, _, _, _, _, _, _, _, _, _, _, _, _, _, _, _, _, _, _, _, _, _, _, _, _ => none
  | k + 1, x0, x3, x4, x6, x7, x218000, x218001, x245000, x245001, x245002, x245003, x245004, x245005, x245006, x245007, x245008, x245009, x245010, x245011, x245012, x245013, x245014, x245015, x246000, x246001, x246002, x246003, x246004, x246005, x246006, x246007, x246008, x246009, x246010, x246011, x246012, x246013, x246014, x246015 => if 0 ≤ x6 then (if x6 < (x0.length : Int) then (if ((rd_T46 x0 x6).f2) < 16 then (perilunelaw32_UplinkDamage.j2 k x0 x3 x4 x6 x7 (((rd_T46 x0 x6).f2) != ((rd_T46 x0 x6).f1)) x218000 x218001 x245000 x245001 x245002 x245003 x245004 x245005 x245006 x245007 x245008 x245009 x245010 x245011 x245012 x245013 x245014 x245015 x246000 x246001 x246002 x246003 x246004 x246005 x246006 x246007 x246008 x246009 x246010 x246011 x246012 x246013 x246014 x246015) else (perilunelaw32_UplinkDamage.j2 k x0 x3 x4 x6 x7 false x218000 x218001 x245000 x245001 x245002 x245003 x245004 x245005 x245006 x245007 x245008 x245009 x245010 x245011 x245012 x245013 x245014 x245015 x246000 x246001 x246002 x246003 x246004 x246005 x246006 x246007 x246008 x246009 x246010 x246011 x246012 x246013 x246014 x246015)) else (none)) else (none)
def perilunelaw32_UplinkDamage.j2 : Nat → List (S46) → List (S22) → List Int → Int → Int → Bool → Bool → Int → Int → Int → Int → Int → Int → Int → Int → Int → Int → Int → Int → Int → Int → Int → Int → Int → Int → Int → Int → Int → Int → Int → Int → Int → Int → Int → Int → Int → Int → Int → Int → Int → Option (Bool)
  | 0, _, _, _, _, _, _, _, _, _, _, _, _, _, _, _, _, _, _, _, _, _, _, _, _, _, _, _, _, _, _, _, _, _, _, _, _, _, _, _, _ => none
  | k + 1, x0, x3, x4, x6, x7, x75, x218000, x218001, x245000, x245001, x245002, x245003, x245004, x245005, x245006, x245007, x245008, x245009, x245010, x245011, x245012, x245013, x245014, x245015, x246000, x246001, x246002, x246003, x246004, x246005, x246006, x246007, x246008, x246009, x246010, x246011, x246012, x246013, x246014, x246015 => if x75 = true then (if 0 ≤ x6 then (if x6 < (x0.length : Int) then (if 0 ≤ ((rd_T46 x0 x6).f2) then (if ((rd_T46 x0 x6).f2) < 16 then (perilunelaw32_UplinkDamage.j3 k x0 x3 x4 x6 x7 x218000 x218001 x245000 x245001 x245002 x245003 x245004 x245005 x245006 x245007 x245008 x245009 x245010 x245011 x245012 x245013 x245014 x245015 (pt 0 ((rd_T46 x0 x6).f2) ((1 - (pk16 x246000 x246001 x246002 x246003 x246004 x246005 x246006 x246007 x246008 x246009 x246010 x246011 x246012 x246013 x246014 x246015 ((rd_T46 x0 x6).f2))) % 256) x246000) (pt 1 ((rd_T46 x0 x6).f2) ((1 - (pk16 x246000 x246001 x246002 x246003 x246004 x246005 x246006 x246007 x246008 x246009 x246010 x246011 x246012 x246013 x246014 x246015 ((rd_T46 x0 x6).f2))) % 256) x246001) (pt 2 ((rd_T46 x0 x6).f2) ((1 - (pk16 x246000 x246001 x246002 x246003 x246004 x246005 x246006 x246007 x246008 x246009 x246010 x246011 x246012 x246013 x246014 x246015 ((rd_T46 x0 x6).f2))) % 256) x246002) (pt 3 ((rd_T46 x0 x6).f2) ((1 - (pk16 x246000 x246001 x246002 x246003 x246004 x246005 x246006 x246007 x246008 x246009 x246010 x246011 x246012 x246013 x246014 x246015 ((rd_T46 x0 x6).f2))) % 256) x246003) (pt 4 ((rd_T46 x0 x6).f2) ((1 - (pk16 x246000 x246001 x246002 x246003 x246004 x246005 x246006 x246007 x246008 x246009 x246010 x246011 x246012 x246013 x246014 x246015 ((rd_T46 x0 x6).f2))) % 256) x246004) (pt 5 ((rd_T46 x0 x6).f2) ((1 - (pk16 x246000 x246001 x246002 x246003 x246004 x246005 x246006 x246007 x246008 x246009 x246010 x246011 x246012 x246013 x246014 x246015 ((rd_T46 x0 x6).f2))) % 256) x246005) (pt 6 ((rd_T46 x0 x6).f2) ((1 - (pk16 x246000 x246001 x246002 x246003 x246004 x246005 x246006 x246007 x246008 x246009 x246010 x246011 x246012 x246013 x246014 x246015 ((rd_T46 x0 x6).f2))) % 256) x246006) (pt 7 ((rd_T46 x0 x6).f2) ((1 - (pk16 x246000 x246001 x246002 x246003 x246004 x246005 x246006 x246007 x246008 x246009 x246010 x246011 x246012 x246013 x246014 x246015 ((rd_T46 x0 x6).f2))) % 256) x246007) (pt 8 ((rd_T46 x0 x6).f2) ((1 - (pk16 x246000 x246001 x246002 x246003 x246004 x246005 x246006 x246007 x246008 x246009 x246010 x246011 x246012 x246013 x246014 x246015 ((rd_T46 x0 x6).f2))) % 256) x246008) (pt 9 ((rd_T46 x0 x6).f2) ((1 - (pk16 x246000 x246001 x246002 x246003 x246004 x246005 x246006 x246007 x246008 x246009 x246010 x246011 x246012 x246013 x246014 x246015 ((rd_T46 x0 x6).f2))) % 256) x246009) (pt 10 ((rd_T46 x0 x6).f2) ((1 - (pk16 x246000 x246001 x246002 x246003 x246004 x246005 x246006 x246007 x246008 x246009 x246010 x246011 x246012 x246013 x246014 x246015 ((rd_T46 x0 x6).f2))) % 256) x246010) (pt 11 ((rd_T46 x0 x6).f2) ((1 - (pk16 x246000 x246001 x246002 x246003 x246004 x246005 x246006 x246007 x246008 x246009 x246010 x246011 x246012 x246013 x246014 x246015 ((rd_T46 x0 x6).f2))) % 256) x246011) (pt 12 ((rd_T46 x0 x6).f2) ((1 - (pk16 x246000 x246001 x246002 x246003 x246004 x246005 x246006 x246007 x246008 x246009 x246010 x246011 x246012 x246013 x246014 x246015 ((rd_T46 x0 x6).f2))) % 256) x246012) (pt 13 ((rd_T46 x0 x6).f2) ((1 - (pk16 x246000 x246001 x246002 x246003 x246004 x246005 x246006 x246007 x246008 x246009 x246010 x246011 x246012 x246013 x246014 x246015 ((rd_T46 x0 x6).f2))) % 256) x246013) (pt 14 ((rd_T46 x0 x6).f2) ((1 - (pk16 x246000 x246001 x246002 x246003 x246004 x246005 x246006 x246007 x246008 x246009 x246010 x246011 x246012 x246013 x246014 x246015 ((rd_T46 x0 x6).f2))) % 256) x246014) (pt 15 ((rd_T46 x0 x6).f2) ((1 - (pk16 x246000 x246001 x246002 x246003 x246004 x246005 x246006 x246007 x246008 x246009 x246010 x246011 x246012 x246013 x246014 x246015 ((rd_T46 x0 x6).f2))) % 256) x246015)) else (none)) else (none)) else (none)) else (none)) else (perilunelaw32_UplinkDamage.j3 k x0 x3 x4 x6 x7 x218000 x218001 x245000 x245001 x245002 x245003 x245004 x245005 x245006 x245007 x245008 x245009 x245010 x245011 x245012 x245013 x245014 x245015 x246000 x246001 x246002 x246003 x246004 x246005 x246006 x246007 x246008 x246009 x246010 x246011 x246012 x246013 x246014 x246015)
def perilunelaw32_UplinkDamage.j3 : Nat → List (S46) → List (S22) → List Int → Int → Int → Bool → Int → Int → Int → Int → Int → Int → Int → Int → Int → Int → Int → Int → Int → Int → Int → Int → Int → Int → Int → Int → Int → Int → Int → Int → Int → Int → Int → Int → Int → Int → Int → Int → Int → Option (Bool)
  | 0, _, _, _, _, _, _, _, _, _, _, _, _, _, _, _, _, _, _, _, _, _, _, _, _, _, _, _, _, _, _, _, _, _, _, _, _, _, _, _ => none
  | k + 1, x0, x3, x4, x6, x7, x218000, x218001, x245000, x245001, x245002, x245003, x245004, x245005, x245006, x245007, x245008, x245009, x245010, x245011, x245012, x245013, x245014, x245015, x246000, x246001, x246002, x246003, x246004, x246005, x246006, x246007, x246008, x246009, x246010, x246011, x246012, x246013, x246014, x246015 => perilunelaw32_UplinkDamage.l1 k x0 x3 x4 x6 x7 0 x218000 x218001 x245000 x245001 x245002 x245003 x245004 x245005 x245006 x245007 x245008 x245009 x245010 x245011 x245012 x245013 x245014 x245015 x246000 x246001 x246002 x246003 x246004 x246005 x246006 x246007 x246008 x246009 x246010 x246011 x246012 x246013 x246014 x246015
def perilunelaw32_UplinkDamage.l1 : Nat → List (S46) → List (S22) → List Int → Int → Int → Int → Bool → Int → Int → Int → Int → Int → Int → Int → Int → Int → Int → Int → Int → Int → Int → Int → Int → Int → Int → Int → Int → Int → Int → Int → Int → Int → Int → Int → Int → Int → Int → Int → Int → Int → Option (Bool)
  | 0, _, _, _, _, _, _, _, _, _, _, _, _, _, _, _, _, _, _, _, _, _, _, _, _, _, _, _, _, _, _, _, _, _, _, _, _, _, _, _, _ => none
  | k + 1, x0, x3, x4, x6, x7, x11, x218000, x218001, x245000, x245001, x245002, x245003, x245004, x245005, x245006, x245007, x245008, x245009, x245010, x245011, x245012, x245013, x245014, x245015, x246000, x246001, x246002, x246003, x246004, x246005, x246006, x246007, x246008, x246009, x246010, x246011, x246012, x246013, x246014, x246015 => if x11 < 16 then (if 0 ≤ x6 then (if x6 < (x0.length : Int) then (if 0 ≤ x11 then (if (Go.bits .and .u16 (shr .u16 ((rd_T46 x0 x6).f3) x11) 1) = 1 then (perilunelaw32_UplinkDamage.l1 k x0 x3 x4 x6 x7 (wrap64 (x11 + 1)) x218000 x218001 x245000 x245001 x245002 x245003 x245004 x245005 x245006 x245007 x245008 x245009 x245010 x245011 x245012 x245013 x245014 x245015 (pt 0 x11 2 x246000) (pt 1 x11 2 x246001) (pt 2 x11 2 x246002) (pt 3 x11 2 x246003) (pt 4 x11 2 x246004) (pt 5 x11 2 x246005) (pt 6 x11 2 x246006) (pt 7 x11 2 x246007) (pt 8 x11 2 x246008) (pt 9 x11 2 x246009) (pt 10 x11 2 x246010) (pt 11 x11 2 x246011) (pt 12 x11 2 x246012) (pt 13 x11 2 x246013) (pt 14 x11 2 x246014) (pt 15 x11 2 x246015)) else (perilunelaw32_UplinkDamage.l1 k x0 x3 x4 x6 x7 (wrap64 (x11 + 1)) x218000 x218001 x245000 x245001 x245002 x245003 x245004 x245005 x245006 x245007 x245008 x245009 x245010 x245011 x245012 x245013 x245014 x245015 x246000 x246001 x246002 x246003 x246004 x246005 x246006 x246007 x246008 x246009 x246010 x246011 x246012 x246013 x246014 x246015)) else (none)) else (none)) else (none)) else (if x3.length < 8796093022208 then ((some (x3 ++ [(⟨x246000, x246001, x246002, x246003, x246004, x246005, x246006, x246007, x246008, x246009, x246010, x246011, x246012, x246013, x246014, x246015⟩ : S22)] : List (S22))).bind fun y262 => (if (!(x246000 == x245000) || (!(x246001 == x245001) || (!(x246002 == x245002) || (!(x246003 == x245003) || (!(x246004 == x245004) || (!(x246005 == x245005) || (!(x246006 == x245006) || (!(x246007 == x245007) || (!(x246008 == x245008) || (!(x246009 == x245009) || (!(x246010 == x245010) || (!(x246011 == x245011) || (!(x246012 == x245012) || (!(x246013 == x245013) || (!(x246014 == x245014) || (!(x246015 == x245015))))))))))))))))) = true then (perilunelaw32_UplinkDamage.l0 k x0 y262 x4 (wrap64 (x6 + 1)) true (wrap64 (x218001 + 1))) else (if x218000 = true then (perilunelaw32_UplinkDamage.l0 k x0 y262 x4 (wrap64 (x6 + 1)) (x7 != 18) x218001) else (if x4.length < 17592186044416 then (perilunelaw32_UplinkDamage.l0 k x0 y262 (x4 ++ [x7]) (wrap64 (x6 + 1)) x218000 x218001) else (none))))) else (none))
end
def perilunelaw32_UplinkDamage.f (k : Nat) (l0 : List (S46)) : Option (Bool) := if (l0.length : Int) > 400 then ((perilunelaw32_awake.f k).bind fun t216 => (some t216)) else (perilunelaw32_UplinkDamage.l0 k l0 ([] : List (S22)) ([] : List Int) 0 false 0)
theorem perilunelaw32_UplinkDamage.mono_l : ∀ k, (∀ y0 y1 y2 y3 y4 y5, LeO (perilunelaw32_UplinkDamage.l0 k y0 y1 y2 y3 y4 y5) (perilunelaw32_UplinkDamage.l0 (k + 1) y0 y1 y2 y3 y4 y5)) ∧ (∀ y0 y1 y2 y3 y4 y5 y6 y7 y8 y9 y10 y11 y12 y13 y14 y15 y16 y17 y18 y19 y20 y21 y22 y23 y24 y25 y26 y27 y28 y29 y30 y31 y32 y33 y34 y35 y36 y37 y38, LeO (perilunelaw32_UplinkDamage.j1 k y0 y1 y2 y3 y4 y5 y6 y7 y8 y9 y10 y11 y12 y13 y14 y15 y16 y17 y18 y19 y20 y21 y22 y23 y24 y25 y26 y27 y28 y29 y30 y31 y32 y33 y34 y35 y36 y37 y38) (perilunelaw32_UplinkDamage.j1 (k + 1) y0 y1 y2 y3 y4 y5 y6 y7 y8 y9 y10 y11 y12 y13 y14 y15 y16 y17 y18 y19 y20 y21 y22 y23 y24 y25 y26 y27 y28 y29 y30 y31 y32 y33 y34 y35 y36 y37 y38)) ∧ (∀ y0 y1 y2 y3 y4 y5 y6 y7 y8 y9 y10 y11 y12 y13 y14 y15 y16 y17 y18 y19 y20 y21 y22 y23 y24 y25 y26 y27 y28 y29 y30 y31 y32 y33 y34 y35 y36 y37 y38 y39, LeO (perilunelaw32_UplinkDamage.j2 k y0 y1 y2 y3 y4 y5 y6 y7 y8 y9 y10 y11 y12 y13 y14 y15 y16 y17 y18 y19 y20 y21 y22 y23 y24 y25 y26 y27 y28 y29 y30 y31 y32 y33 y34 y35 y36 y37 y38 y39) (perilunelaw32_UplinkDamage.j2 (k + 1) y0 y1 y2 y3 y4 y5 y6 y7 y8 y9 y10 y11 y12 y13 y14 y15 y16 y17 y18 y19 y20 y21 y22 y23 y24 y25 y26 y27 y28 y29 y30 y31 y32 y33 y34 y35 y36 y37 y38 y39)) ∧ (∀ y0 y1 y2 y3 y4 y5 y6 y7 y8 y9 y10 y11 y12 y13 y14 y15 y16 y17 y18 y19 y20 y21 y22 y23 y24 y25 y26 y27 y28 y29 y30 y31 y32 y33 y34 y35 y36 y37 y38, LeO (perilunelaw32_UplinkDamage.j3 k y0 y1 y2 y3 y4 y5 y6 y7 y8 y9 y10 y11 y12 y13 y14 y15 y16 y17 y18 y19 y20 y21 y22 y23 y24 y25 y26 y27 y28 y29 y30 y31 y32 y33 y34 y35 y36 y37 y38) (perilunelaw32_UplinkDamage.j3 (k + 1) y0 y1 y2 y3 y4 y5 y6 y7 y8 y9 y10 y11 y12 y13 y14 y15 y16 y17 y18 y19 y20 y21 y22 y23 y24 y25 y26 y27 y28 y29 y30 y31 y32 y33 y34 y35 y36 y37 y38)) ∧ (∀ y0 y1 y2 y3 y4 y5 y6 y7 y8 y9 y10 y11 y12 y13 y14 y15 y16 y17 y18 y19 y20 y21 y22 y23 y24 y25 y26 y27 y28 y29 y30 y31 y32 y33 y34 y35 y36 y37 y38 y39, LeO (perilunelaw32_UplinkDamage.l1 k y0 y1 y2 y3 y4 y5 y6 y7 y8 y9 y10 y11 y12 y13 y14 y15 y16 y17 y18 y19 y20 y21 y22 y23 y24 y25 y26 y27 y28 y29 y30 y31 y32 y33 y34 y35 y36 y37 y38 y39) (perilunelaw32_UplinkDamage.l1 (k + 1) y0 y1 y2 y3 y4 y5 y6 y7 y8 y9 y10 y11 y12 y13 y14 y15 y16 y17 y18 y19 y20 y21 y22 y23 y24 y25 y26 y27 y28 y29 y30 y31 y32 y33 y34 y35 y36 y37 y38 y39))
  | 0 => ⟨fun _ _ _ _ _ _ r h => by simp [perilunelaw32_UplinkDamage.l0] at h, fun _ _ _ _ _ _ _ _ _ _ _ _ _ _ _ _ _ _ _ _ _ _ _ _ _ _ _ _ _ _ _ _ _ _ _ _ _ _ _ r h => by simp [perilunelaw32_UplinkDamage.j1] at h, fun _ _ _ _ _ _ _ _ _ _ _ _ _ _ _ _ _ _ _ _ _ _ _ _ _ _ _ _ _ _ _ _ _ _ _ _ _ _ _ _ r h => by simp [perilunelaw32_UplinkDamage.j2] at h, fun _ _ _ _ _ _ _ _ _ _ _ _ _ _ _ _ _ _ _ _ _ _ _ _ _ _ _ _ _ _ _ _ _ _ _ _ _ _ _ r h => by simp [perilunelaw32_UplinkDamage.j3] at h, fun _ _ _ _ _ _ _ _ _ _ _ _ _ _ _ _ _ _ _ _ _ _ _ _ _ _ _ _ _ _ _ _ _ _ _ _ _ _ _ _ r h => by simp [perilunelaw32_UplinkDamage.l1] at h⟩
  | k + 1 => by
    obtain ⟨ih0, ih1, ih2, ih3, ih4⟩ := perilunelaw32_UplinkDamage.mono_l k
    refine ⟨?_, ?_, ?_, ?_, ?_⟩
    · intro y0 y1 y2 y3 y4 y5
      unfold perilunelaw32_UplinkDamage.l0
      repeat' first
      | (with_reducible exact ih0 _ _ _ _ _ _)
      | (with_reducible exact ih1 _ _ _ _ _ _ _ _ _ _ _ _ _ _ _ _ _ _ _ _ _ _ _ _ _ _ _ _ _ _ _ _ _ _ _ _ _ _ _)
      | (with_reducible exact ih2 _ _ _ _ _ _ _ _ _ _ _ _ _ _ _ _ _ _ _ _ _ _ _ _ _ _ _ _ _ _ _ _ _ _ _ _ _ _ _ _)
      | (with_reducible exact ih3 _ _ _ _ _ _ _ _ _ _ _ _ _ _ _ _ _ _ _ _ _ _ _ _ _ _ _ _ _ _ _ _ _ _ _ _ _ _ _)
      | (with_reducible exact ih4 _ _ _ _ _ _ _ _ _ _ _ _ _ _ _ _ _ _ _ _ _ _ _ _ _ _ _ _ _ _ _ _ _ _ _ _ _ _ _ _)
      | (with_reducible exact perilunelaw32_awake.mono _)
      | (with_reducible exact periluneref32_Same.mono _ _ _)
      | (with_reducible exact uplink_All.mono _ _)
      | (with_reducible exact uplink_Word.mono _ _)
      | (with_reducible exact LeO.refl _)
      | (with_reducible exact LeO.none _)
      | (with_reducible refine LeO.ite ?_ ?_)
      | (with_reducible refine LeO.bind ?_ (fun _ => ?_))
      | exact ih0 _ _ _ _ _ _
      | exact ih1 _ _ _ _ _ _ _ _ _ _ _ _ _ _ _ _ _ _ _ _ _ _ _ _ _ _ _ _ _ _ _ _ _ _ _ _ _ _ _
      | exact ih2 _ _ _ _ _ _ _ _ _ _ _ _ _ _ _ _ _ _ _ _ _ _ _ _ _ _ _ _ _ _ _ _ _ _ _ _ _ _ _ _
      | exact ih3 _ _ _ _ _ _ _ _ _ _ _ _ _ _ _ _ _ _ _ _ _ _ _ _ _ _ _ _ _ _ _ _ _ _ _ _ _ _ _
      | exact ih4 _ _ _ _ _ _ _ _ _ _ _ _ _ _ _ _ _ _ _ _ _ _ _ _ _ _ _ _ _ _ _ _ _ _ _ _ _ _ _ _
      | exact perilunelaw32_awake.mono _
      | exact periluneref32_Same.mono _ _ _
      | exact uplink_All.mono _ _
      | exact uplink_Word.mono _ _
      | exact LeO.none _
      | refine LeO.ite ?_ ?_
      | refine LeO.bind ?_ (fun _ => ?_)
    · intro y0 y1 y2 y3 y4 y5 y6 y7 y8 y9 y10 y11 y12 y13 y14 y15 y16 y17 y18 y19 y20 y21 y22 y23 y24 y25 y26 y27 y28 y29 y30 y31 y32 y33 y34 y35 y36 y37 y38
      unfold perilunelaw32_UplinkDamage.j1
      repeat' first
      | (with_reducible exact ih0 _ _ _ _ _ _)
      | (with_reducible exact ih1 _ _ _ _ _ _ _ _ _ _ _ _ _ _ _ _ _ _ _ _ _ _ _ _ _ _ _ _ _ _ _ _ _ _ _ _ _ _ _)
      | (with_reducible exact ih2 _ _ _ _ _ _ _ _ _ _ _ _ _ _ _ _ _ _ _ _ _ _ _ _ _ _ _ _ _ _ _ _ _ _ _ _ _ _ _ _)
      | (with_reducible exact ih3 _ _ _ _ _ _ _ _ _ _ _ _ _ _ _ _ _ _ _ _ _ _ _ _ _ _ _ _ _ _ _ _ _ _ _ _ _ _ _)
      | (with_reducible exact ih4 _ _ _ _ _ _ _ _ _ _ _ _ _ _ _ _ _ _ _ _ _ _ _ _ _ _ _ _ _ _ _ _ _ _ _ _ _ _ _ _)
      | (with_reducible exact perilunelaw32_awake.mono _)
      | (with_reducible exact periluneref32_Same.mono _ _ _)
      | (with_reducible exact uplink_All.mono _ _)
      | (with_reducible exact uplink_Word.mono _ _)
      | (with_reducible exact LeO.refl _)
      | (with_reducible exact LeO.none _)
      | (with_reducible refine LeO.ite ?_ ?_)
      | (with_reducible refine LeO.bind ?_ (fun _ => ?_))
      | exact ih0 _ _ _ _ _ _
      | exact ih1 _ _ _ _ _ _ _ _ _ _ _ _ _ _ _ _ _ _ _ _ _ _ _ _ _ _ _ _ _ _ _ _ _ _ _ _ _ _ _
      | exact ih2 _ _ _ _ _ _ _ _ _ _ _ _ _ _ _ _ _ _ _ _ _ _ _ _ _ _ _ _ _ _ _ _ _ _ _ _ _ _ _ _
      | exact ih3 _ _ _ _ _ _ _ _ _ _ _ _ _ _ _ _ _ _ _ _ _ _ _ _ _ _ _ _ _ _ _ _ _ _ _ _ _ _ _
      | exact ih4 _ _ _ _ _ _ _ _ _ _ _ _ _ _ _ _ _ _ _ _ _ _ _ _ _ _ _ _ _ _ _ _ _ _ _ _ _ _ _ _
      | exact perilunelaw32_awake.mono _
      | exact periluneref32_Same.mono _ _ _
      | exact uplink_All.mono _ _
      | exact uplink_Word.mono _ _
      | exact LeO.none _
      | refine LeO.ite ?_ ?_
      | refine LeO.bind ?_ (fun _ => ?_)
    · intro y0 y1 y2 y3 y4 y5 y6 y7 y8 y9 y10 y11 y12 y13 y14 y15 y16 y17 y18 y19 y20 y21 y22 y23 y24 y25 y26 y27 y28 y29 y30 y31 y32 y33 y34 y35 y36 y37 y38 y39
      unfold perilunelaw32_UplinkDamage.j2
      repeat' first
      | (with_reducible exact ih0 _ _ _ _ _ _)
      | (with_reducible exact ih1 _ _ _ _ _ _ _ _ _ _ _ _ _ _ _ _ _ _ _ _ _ _ _ _ _ _ _ _ _ _ _ _ _ _ _ _ _ _ _)
      | (with_reducible exact ih2 _ _ _ _ _ _ _ _ _ _ _ _ _ _ _ _ _ _ _ _ _ _ _ _ _ _ _ _ _ _ _ _ _ _ _ _ _ _ _ _)
      | (with_reducible exact ih3 _ _ _ _ _ _ _ _ _ _ _ _ _ _ _ _ _ _ _ _ _ _ _ _ _ _ _ _ _ _ _ _ _ _ _ _ _ _ _)
      | (with_reducible exact ih4 _ _ _ _ _ _ _ _ _ _ _ _ _ _ _ _ _ _ _ _ _ _ _ _ _ _ _ _ _ _ _ _ _ _ _ _ _ _ _ _)
      | (with_reducible exact perilunelaw32_awake.mono _)
      | (with_reducible exact periluneref32_Same.mono _ _ _)
      | (with_reducible exact uplink_All.mono _ _)
      | (with_reducible exact uplink_Word.mono _ _)
      | (with_reducible exact LeO.refl _)
      | (with_reducible exact LeO.none _)
      | (with_reducible refine LeO.ite ?_ ?_)
      | (with_reducible refine LeO.bind ?_ (fun _ => ?_))
      | exact ih0 _ _ _ _ _ _
      | exact ih1 _ _ _ _ _ _ _ _ _ _ _ _ _ _ _ _ _ _ _ _ _ _ _ _ _ _ _ _ _ _ _ _ _ _ _ _ _ _ _
      | exact ih2 _ _ _ _ _ _ _ _ _ _ _ _ _ _ _ _ _ _ _ _ _ _ _ _ _ _ _ _ _ _ _ _ _ _ _ _ _ _ _ _
      | exact ih3 _ _ _ _ _ _ _ _ _ _ _ _ _ _ _ _ _ _ _ _ _ _ _ _ _ _ _ _ _ _ _ _ _ _ _ _ _ _ _
      | exact ih4 _ _ _ _ _ _ _ _ _ _ _ _ _ _ _ _ _ _ _ _ _ _ _ _ _ _ _ _ _ _ _ _ _ _ _ _ _ _ _ _
      | exact perilunelaw32_awake.mono _
      | exact periluneref32_Same.mono _ _ _
      | exact uplink_All.mono _ _
      | exact uplink_Word.mono _ _
      | exact LeO.none _
      | refine LeO.ite ?_ ?_
      | refine LeO.bind ?_ (fun _ => ?_)
    · intro y0 y1 y2 y3 y4 y5 y6 y7 y8 y9 y10 y11 y12 y13 y14 y15 y16 y17 y18 y19 y20 y21 y22 y23 y24 y25 y26 y27 y28 y29 y30 y31 y32 y33 y34 y35 y36 y37 y38
      unfold perilunelaw32_UplinkDamage.j3
      repeat' first
      | (with_reducible exact ih0 _ _ _ _ _ _)
      | (with_reducible exact ih1 _ _ _ _ _ _ _ _ _ _ _ _ _ _ _ _ _ _ _ _ _ _ _ _ _ _ _ _ _ _ _ _ _ _ _ _ _ _ _)
      | (with_reducible exact ih2 _ _ _ _ _ _ _ _ _ _ _ _ _ _ _ _ _ _ _ _ _ _ _ _ _ _ _ _ _ _ _ _ _ _ _ _ _ _ _ _)
      | (with_reducible exact ih3 _ _ _ _ _ _ _ _ _ _ _ _ _ _ _ _ _ _ _ _ _ _ _ _ _ _ _ _ _ _ _ _ _ _ _ _ _ _ _)
      | (with_reducible exact ih4 _ _ _ _ _ _ _ _ _ _ _ _ _ _ _ _ _ _ _ _ _ _ _ _ _ _ _ _ _ _ _ _ _ _ _ _ _ _ _ _)
      | (with_reducible exact perilunelaw32_awake.mono _)
      | (with_reducible exact periluneref32_Same.mono _ _ _)
      | (with_reducible exact uplink_All.mono _ _)
      | (with_reducible exact uplink_Word.mono _ _)
      | (with_reducible exact LeO.refl _)
      | (with_reducible exact LeO.none _)
      | (with_reducible refine LeO.ite ?_ ?_)
      | (with_reducible refine LeO.bind ?_ (fun _ => ?_))
      | exact ih0 _ _ _ _ _ _
      | exact ih1 _ _ _ _ _ _ _ _ _ _ _ _ _ _ _ _ _ _ _ _ _ _ _ _ _ _ _ _ _ _ _ _ _ _ _ _ _ _ _
      | exact ih2 _ _ _ _ _ _ _ _ _ _ _ _ _ _ _ _ _ _ _ _ _ _ _ _ _ _ _ _ _ _ _ _ _ _ _ _ _ _ _ _
      | exact ih3 _ _ _ _ _ _ _ _ _ _ _ _ _ _ _ _ _ _ _ _ _ _ _ _ _ _ _ _ _ _ _ _ _ _ _ _ _ _ _
      | exact ih4 _ _ _ _ _ _ _ _ _ _ _ _ _ _ _ _ _ _ _ _ _ _ _ _ _ _ _ _ _ _ _ _ _ _ _ _ _ _ _ _
      | exact perilunelaw32_awake.mono _
      | exact periluneref32_Same.mono _ _ _
      | exact uplink_All.mono _ _
      | exact uplink_Word.mono _ _
      | exact LeO.none _
      | refine LeO.ite ?_ ?_
      | refine LeO.bind ?_ (fun _ => ?_)
    · intro y0 y1 y2 y3 y4 y5 y6 y7 y8 y9 y10 y11 y12 y13 y14 y15 y16 y17 y18 y19 y20 y21 y22 y23 y24 y25 y26 y27 y28 y29 y30 y31 y32 y33 y34 y35 y36 y37 y38 y39
      unfold perilunelaw32_UplinkDamage.l1
      repeat' first
      | (with_reducible exact ih0 _ _ _ _ _ _)
      | (with_reducible exact ih1 _ _ _ _ _ _ _ _ _ _ _ _ _ _ _ _ _ _ _ _ _ _ _ _ _ _ _ _ _ _ _ _ _ _ _ _ _ _ _)
      | (with_reducible exact ih2 _ _ _ _ _ _ _ _ _ _ _ _ _ _ _ _ _ _ _ _ _ _ _ _ _ _ _ _ _ _ _ _ _ _ _ _ _ _ _ _)
      | (with_reducible exact ih3 _ _ _ _ _ _ _ _ _ _ _ _ _ _ _ _ _ _ _ _ _ _ _ _ _ _ _ _ _ _ _ _ _ _ _ _ _ _ _)
      | (with_reducible exact ih4 _ _ _ _ _ _ _ _ _ _ _ _ _ _ _ _ _ _ _ _ _ _ _ _ _ _ _ _ _ _ _ _ _ _ _ _ _ _ _ _)
      | (with_reducible exact perilunelaw32_awake.mono _)
      | (with_reducible exact periluneref32_Same.mono _ _ _)
      | (with_reducible exact uplink_All.mono _ _)
      | (with_reducible exact uplink_Word.mono _ _)
      | (with_reducible exact LeO.refl _)
      | (with_reducible exact LeO.none _)
      | (with_reducible refine LeO.ite ?_ ?_)
      | (with_reducible refine LeO.bind ?_ (fun _ => ?_))
      | exact ih0 _ _ _ _ _ _
      | exact ih1 _ _ _ _ _ _ _ _ _ _ _ _ _ _ _ _ _ _ _ _ _ _ _ _ _ _ _ _ _ _ _ _ _ _ _ _ _ _ _
      | exact ih2 _ _ _ _ _ _ _ _ _ _ _ _ _ _ _ _ _ _ _ _ _ _ _ _ _ _ _ _ _ _ _ _ _ _ _ _ _ _ _ _
      | exact ih3 _ _ _ _ _ _ _ _ _ _ _ _ _ _ _ _ _ _ _ _ _ _ _ _ _ _ _ _ _ _ _ _ _ _ _ _ _ _ _
      | exact ih4 _ _ _ _ _ _ _ _ _ _ _ _ _ _ _ _ _ _ _ _ _ _ _ _ _ _ _ _ _ _ _ _ _ _ _ _ _ _ _ _
      | exact perilunelaw32_awake.mono _
      | exact periluneref32_Same.mono _ _ _
      | exact uplink_All.mono _ _
      | exact uplink_Word.mono _ _
      | exact LeO.none _
      | refine LeO.ite ?_ ?_
      | refine LeO.bind ?_ (fun _ => ?_)
theorem perilunelaw32_UplinkDamage.mono : ∀ a0 k, LeO (perilunelaw32_UplinkDamage.f k a0) (perilunelaw32_UplinkDamage.f (k + 1) a0) := by
  intro a0 k
  obtain ⟨ih0, ih1, ih2, ih3, ih4⟩ := perilunelaw32_UplinkDamage.mono_l k
  unfold perilunelaw32_UplinkDamage.f
  repeat' first
      | (with_reducible exact ih0 _ _ _ _ _ _)
      | (with_reducible exact ih1 _ _ _ _ _ _ _ _ _ _ _ _ _ _ _ _ _ _ _ _ _ _ _ _ _ _ _ _ _ _ _ _ _ _ _ _ _ _ _)
      | (with_reducible exact ih2 _ _ _ _ _ _ _ _ _ _ _ _ _ _ _ _ _ _ _ _ _ _ _ _ _ _ _ _ _ _ _ _ _ _ _ _ _ _ _ _)
      | (with_reducible exact ih3 _ _ _ _ _ _ _ _ _ _ _ _ _ _ _ _ _ _ _ _ _ _ _ _ _ _ _ _ _ _ _ _ _ _ _ _ _ _ _)
      | (with_reducible exact ih4 _ _ _ _ _ _ _ _ _ _ _ _ _ _ _ _ _ _ _ _ _ _ _ _ _ _ _ _ _ _ _ _ _ _ _ _ _ _ _ _)
      | (with_reducible exact perilunelaw32_awake.mono _)
      | (with_reducible exact periluneref32_Same.mono _ _ _)
      | (with_reducible exact uplink_All.mono _ _)
      | (with_reducible exact uplink_Word.mono _ _)
      | (with_reducible exact LeO.refl _)
      | (with_reducible exact LeO.none _)
      | (with_reducible refine LeO.ite ?_ ?_)
      | (with_reducible refine LeO.bind ?_ (fun _ => ?_))
      | exact ih0 _ _ _ _ _ _
      | exact ih1 _ _ _ _ _ _ _ _ _ _ _ _ _ _ _ _ _ _ _ _ _ _ _ _ _ _ _ _ _ _ _ _ _ _ _ _ _ _ _
      | exact ih2 _ _ _ _ _ _ _ _ _ _ _ _ _ _ _ _ _ _ _ _ _ _ _ _ _ _ _ _ _ _ _ _ _ _ _ _ _ _ _ _
      | exact ih3 _ _ _ _ _ _ _ _ _ _ _ _ _ _ _ _ _ _ _ _ _ _ _ _ _ _ _ _ _ _ _ _ _ _ _ _ _ _ _
      | exact ih4 _ _ _ _ _ _ _ _ _ _ _ _ _ _ _ _ _ _ _ _ _ _ _ _ _ _ _ _ _ _ _ _ _ _ _ _ _ _ _ _
      | exact perilunelaw32_awake.mono _
      | exact periluneref32_Same.mono _ _ _
      | exact uplink_All.mono _ _
      | exact uplink_Word.mono _ _
      | exact LeO.none _
      | refine LeO.ite ?_ ?_
      | refine LeO.bind ?_ (fun _ => ?_)
def perilunelaw32_UplinkDamage.T13 : Bool × List (List Nat × List Nat) := (true, [([], []), ([], []), ([0, 1], [0, 1]), ([2], [2]), ([3], [3]), ([], []), ([], []), ([5, 6], [5, 6]), ([7], [7]), ([8], [8]), ([9], [9]), ([10], [10]), ([11], [11]), ([4, 0, 1, 2, 3, 4, 5, 6, 7, 8, 9, 10, 11, 12], [4]), ([13, 12, 0, 1, 2, 3, 4, 5, 6, 7, 8, 9, 10, 11, 12], [12, 13])])
def perilunelaw32_UplinkDamage.B13 : List Nat := [0, 0, 3, 7, 15, 0, 0, 96, 224, 480, 992, 2016, 4064, 8191, 16383]
theorem perilunelaw32_UplinkDamage.tab13 : rtab .any (opsOf Try.f8 13) = perilunelaw32_UplinkDamage.T13 := by kernel_rfl
theorem perilunelaw32_UplinkDamage.bits13 : waitsOk perilunelaw32_UplinkDamage.T13.2 perilunelaw32_UplinkDamage.B13 = true := by kernel_rfl
def perilunelaw32_UplinkDamage.T14 : Bool × List (List Nat × List Nat) := (true, [([], []), ([], []), ([0, 1], [0, 1]), ([2], [2]), ([3], [3]), ([4], [4]), ([5], [5]), ([6], [6]), ([6], [6]), ([7, 8, 6], [6, 7, 8]), ([9, 6], [6, 9]), ([10, 6], [6, 10]), ([6], [6]), ([6], [6]), ([12, 13, 6], [6, 12, 13]), ([14, 6], [6, 14]), ([15, 6], [6, 15]), ([11, 16, 6], [6, 11, 16]), ([6, 17], [6, 17])])
def perilunelaw32_UplinkDamage.B14 : List Nat := [0, 0, 3, 7, 15, 31, 63, 127, 127, 511, 1023, 2047, 127, 127, 12415, 28799, 61567, 131071, 262143]
theorem perilunelaw32_UplinkDamage.tab14 : rtab .any (opsOf Try.f8 14) = perilunelaw32_UplinkDamage.T14 := by kernel_rfl
theorem perilunelaw32_UplinkDamage.bits14 : waitsOk perilunelaw32_UplinkDamage.T14.2 perilunelaw32_UplinkDamage.B14 = true := by kernel_rfl
def perilunelaw32_UplinkDamage.T15 : Bool × List (List Nat × List Nat) := (true, [([], []), ([], []), ([0, 1], [0, 1]), ([2], [2]), ([3], [3]), ([], []), ([], []), ([5, 6], [5, 6]), ([7], [7]), ([8], [8]), ([9], [9]), ([10], [10]), ([11], [11]), ([4, 0, 1, 2, 3, 4, 5, 6, 7, 8, 9, 10, 11, 12], [4]), ([13, 12, 0, 1, 2, 3, 4, 5, 6, 7, 8, 9, 10, 11, 12], [12, 13])])
def perilunelaw32_UplinkDamage.B15 : List Nat := [0, 0, 3, 7, 15, 0, 0, 96, 224, 480, 992, 2016, 4064, 8191, 16383]
theorem perilunelaw32_UplinkDamage.tab15 : rtab .any (opsOf Try.f8 15) = perilunelaw32_UplinkDamage.T15 := by kernel_rfl
theorem perilunelaw32_UplinkDamage.bits15 : waitsOk perilunelaw32_UplinkDamage.T15.2 perilunelaw32_UplinkDamage.B15 = true := by kernel_rfl
set_option maxHeartbeats 8000000 in
set_option maxRecDepth 100000 in
theorem perilunelaw32_UplinkDamage.calls (k : Nat) (A0 : Option Addr) (c0 : Nat) (l0 : List (S46)) (r : Bool) (w : World) (hr0 : Kd.C k46 w A0 l0.length l0) (hc0 : l0.length ≤ c0) (h : perilunelaw32_UplinkDamage.f k l0 = some r) (hT_ : Aside0 (r = true)) :
    Calls Try.prog 8 #[.slice A0 l0.length c0] w fun e w' => e = .returned (.bool r) ∧ Below w.heap.size w w' := by
  have hu31 := Try.underlying31
  have hu22 := Try.underlying22
  have HR0 := Aside0.mk hr0
  have HC0 := Aside0.mk hc0
  clear hr0 hc0
  have HB := Aside0.mk (Below.refl w.heap.size w)
  have H : (if (l0.length : Int) > 400 then ((perilunelaw32_awake.f k).bind fun t216 => (some t216)) else (perilunelaw32_UplinkDamage.l0 k l0 ([] : List (S22)) ([] : List Int) 0 false 0)) = some r := h
  clear h
  by_cases c2 : (l0.length : Int) > 400
  · rw [if_pos c2] at H
    have c2b0 : decide (400 < (l0.length : Int)) = true := decide_eq_true c2
    have c2b1 : decide (400 < l0.length) = true := decide_eq_true (by omega)
    have c2b2 : 400 < l0.length := by omega
    clear c2
    replace H := Option.bind_eq_some_iff.mp H
    obtain ⟨t216, A30, H⟩ := H
    replace H : (some t216) = some r := H
    have A3 := Aside0.mk A30
    clear A30
    obtain rfl := Option.some.inj H
    go_enter Try.func8, Try.ntmps8
    go_wp2_with (first | ((with_reducible refine gate_callee (f := 15) rfl ?_); refine goesL_ (some 17) rfl rfl Try.func15 (by kernel_rfl) rfl #[] rfl (by (try simp only [List.map_toArray, List.map_cons, List.map_nil]); first | done | rfl | (simp only [List.length_drop, List.length_take]; rfl)) ?_; (with_reducible refine (perilunelaw32_awake.calls k  t216 _ A3.out).mono ?_); rintro e w4 ⟨rfl, hb⟩; refine ⟨_, rfl, ?_⟩; have n0_ := Aside0.mk (below_step (by repeat (first | (with_reducible first | exact HB.out | apply below_alloc | apply pw_below_drewN | apply below_drew1) | exact HB.out)) hb); clear HB; have HB := n0_; clear n0_; (try clear hb); (try clear hb2); (try clear hk); (try clear hi)))
    go_ret
    exact ⟨by first | rfl | (simp [errW_none, errW_some] <;> rfl) | (simp [*, errW_none, errW_some] <;> rfl), by repeat (first | (with_reducible first | exact HB.out | apply below_alloc | apply pw_below_drewN | apply below_drew1) | exact HB.out)⟩
  · rw [if_neg c2] at H
    have c2b0 : decide (400 < (l0.length : Int)) = false := decide_eq_false c2
    have c2b1 : decide (400 < l0.length) = false := decide_eq_false (by omega)
    clear c2
    have H' := Aside0.mk H
    clear H
    go_enter Try.func8, Try.ntmps8
    go_wp2_with (first | ((with_reducible refine gate_dst (N := 5) rfl ?_); refine box_event ?hg (N := 5) ?hd (cs := #[.bool false, .int .i64 0]) (t := 31) ?hr ?_; (case hd => rfl); (case hg => rfl); (case hr => first | (go_simp; done) | (go_simp; rfl)); intro gb217 hg w5 hbox hb; have n0_ := Aside0.mk (below_step (by repeat (first | (with_reducible first | exact HB.out | apply below_alloc | apply pw_below_drewN | apply below_drew1) | exact HB.out)) hb); have n1_ := Aside0.mk (hbox); have n2_ := Aside0.mk ((by rw [hg]; exact (below_size (by repeat (first | (with_reducible first | exact HB.out | apply below_alloc | apply pw_below_drewN | apply below_drew1) | exact HB.out))) : w.heap.size ≤ gb217)); have n3_ := Aside0.mk ((by rw [hg]; exact (below_size (by repeat (first | (with_reducible first | exact HB.out | apply below_alloc | apply pw_below_drewN | apply below_drew1) | exact HB.out))) : w.heap.size ≤ gb217)); clear HB; have HB := n0_; have BK217 := n1_; have GW217 := n2_; have GE217 := n3_; clear n0_ n1_ n2_ n3_; clear hb hbox hg))
    go_loopg [3, 4, 6] k (fun kq v3 v4 v6 w' => ∃ (x3_1 : List (S22)) (x4_1 : List Int) (x6_1 : Int) (x218000_1 : Bool) (x218001_1 : Int), v6 = .int .i64 x6_1 ∧ Aside0 (perilunelaw32_UplinkDamage.l0 kq l0 x3_1 x4_1 x6_1 x218000_1 x218001_1 = some r) ∧ Aside0 (kq ≤ k) ∧ Aside0 (Kd.R k22 22 w' w.heap.size (fun _ => True) v3 x3_1) ∧ Aside0 (Kd.R (Kd.int .i64) 3 w' w.heap.size (fun _ => True) v4 x4_1) ∧ Aside0 (w'.heap[gb217]? = some (.cells #[.bool x218000_1, .int .i64 x218001_1] 31 (0, 0))) ∧ Aside0 (Below w.heap.size w w'))
    case atStart => exact ⟨(([] : List (S22))), (([] : List Int)), (0), (false), (0), (by first | rfl | (simp; done) | (simp [*]; done)), H', ⟨Nat.le_refl _⟩, ⟨by first | exact Kd.R_nil _ _ _ _ _ | exact Kd.N_nil _ _ _ _ _ | exact Kd.V_nil _ _ _ _ _ | exact Kd.Q_nil _ _ _ _ _ | exact Kd.S_nil _ _ _ _ _⟩, ⟨by first | exact Kd.R_nil _ _ _ _ _ | exact Kd.N_nil _ _ _ _ _ | exact Kd.V_nil _ _ _ _ _ | exact Kd.Q_nil _ _ _ _ _ | exact Kd.S_nil _ _ _ _ _⟩, ⟨by (with_reducible repeat (first | refine blk_drewN ?_ _ | refine blk_drew ?_ | refine blk_alloc ?_ _)); exact BK217.out⟩, ⟨by repeat (first | (with_reducible first | exact HB.out | apply below_alloc | apply pw_below_drewN | apply below_drew1 | refine below_set ?_ GE217.out) | exact HB.out)⟩⟩
    case round =>
      clear H'
      try clear c1
      try clear c2
      try clear c2b0
      try clear c2b1
      try clear c2b2
      try clear p2
      obtain ⟨x3_1, x4_1, x6_1, x218000_1, x218001_1, rfl, HA, HK1, HO_3, HO_4, BK217, HB⟩ := hrel
      cases gk with
      | zero => exact absurd HA.out (by simp [perilunelaw32_UplinkDamage.l0])
      | succ k1 =>
        have H := HA.out
        clear HA
        simp only [perilunelaw32_UplinkDamage.l0] at H
        by_cases c6 : x6_1 < (l0.length : Int)
        · rw [if_pos c6] at H
          have c6b0 : decide (x6_1 < (l0.length : Int)) = true := decide_eq_true c6
          clear c6
          by_cases c7 : 0 ≤ x6_1
          · rw [if_pos c7] at H
            have c7b0 : decide (0 ≤ x6_1) = true := decide_eq_true c7
            clear c7
            replace H := Option.bind_eq_some_iff.mp H
            obtain ⟨⟨t227, t228, t229, t230, t231, t232, t233, t234, t235, t236, t237, t238, t239, t240, t241, t242, t243⟩, A80, H⟩ := H
            replace H : (if ((rd_T46 l0 x6_1).f1) < 16 then (if 0 ≤ ((rd_T46 l0 x6_1).f1) then (perilunelaw32_UplinkDamage.j1 k1 l0 x3_1 x4_1 x6_1 (Int.tmod (wrap64 ((rd_T46 l0 x6_1).f0)) 32) x218000_1 x218001_1 t227 t228 t229 t230 t231 t232 t233 t234 t235 t236 t237 t238 t239 t240 t241 t242 (pt 0 ((rd_T46 l0 x6_1).f1) ((1 - (pk16 t227 t228 t229 t230 t231 t232 t233 t234 t235 t236 t237 t238 t239 t240 t241 t242 ((rd_T46 l0 x6_1).f1))) % 256) t227) (pt 1 ((rd_T46 l0 x6_1).f1) ((1 - (pk16 t227 t228 t229 t230 t231 t232 t233 t234 t235 t236 t237 t238 t239 t240 t241 t242 ((rd_T46 l0 x6_1).f1))) % 256) t228) (pt 2 ((rd_T46 l0 x6_1).f1) ((1 - (pk16 t227 t228 t229 t230 t231 t232 t233 t234 t235 t236 t237 t238 t239 t240 t241 t242 ((rd_T46 l0 x6_1).f1))) % 256) t229) (pt 3 ((rd_T46 l0 x6_1).f1) ((1 - (pk16 t227 t228 t229 t230 t231 t232 t233 t234 t235 t236 t237 t238 t239 t240 t241 t242 ((rd_T46 l0 x6_1).f1))) % 256) t230) (pt 4 ((rd_T46 l0 x6_1).f1) ((1 - (pk16 t227 t228 t229 t230 t231 t232 t233 t234 t235 t236 t237 t238 t239 t240 t241 t242 ((rd_T46 l0 x6_1).f1))) % 256) t231) (pt 5 ((rd_T46 l0 x6_1).f1) ((1 - (pk16 t227 t228 t229 t230 t231 t232 t233 t234 t235 t236 t237 t238 t239 t240 t241 t242 ((rd_T46 l0 x6_1).f1))) % 256) t232) (pt 6 ((rd_T46 l0 x6_1).f1) ((1 - (pk16 t227 t228 t229 t230 t231 t232 t233 t234 t235 t236 t237 t238 t239 t240 t241 t242 ((rd_T46 l0 x6_1).f1))) % 256) t233) (pt 7 ((rd_T46 l0 x6_1).f1) ((1 - (pk16 t227 t228 t229 t230 t231 t232 t233 t234 t235 t236 t237 t238 t239 t240 t241 t242 ((rd_T46 l0 x6_1).f1))) % 256) t234) (pt 8 ((rd_T46 l0 x6_1).f1) ((1 - (pk16 t227 t228 t229 t230 t231 t232 t233 t234 t235 t236 t237 t238 t239 t240 t241 t242 ((rd_T46 l0 x6_1).f1))) % 256) t235) (pt 9 ((rd_T46 l0 x6_1).f1) ((1 - (pk16 t227 t228 t229 t230 t231 t232 t233 t234 t235 t236 t237 t238 t239 t240 t241 t242 ((rd_T46 l0 x6_1).f1))) % 256) t236) (pt 10 ((rd_T46 l0 x6_1).f1) ((1 - (pk16 t227 t228 t229 t230 t231 t232 t233 t234 t235 t236 t237 t238 t239 t240 t241 t242 ((rd_T46 l0 x6_1).f1))) % 256) t237) (pt 11 ((rd_T46 l0 x6_1).f1) ((1 - (pk16 t227 t228 t229 t230 t231 t232 t233 t234 t235 t236 t237 t238 t239 t240 t241 t242 ((rd_T46 l0 x6_1).f1))) % 256) t238) (pt 12 ((rd_T46 l0 x6_1).f1) ((1 - (pk16 t227 t228 t229 t230 t231 t232 t233 t234 t235 t236 t237 t238 t239 t240 t241 t242 ((rd_T46 l0 x6_1).f1))) % 256) t239) (pt 13 ((rd_T46 l0 x6_1).f1) ((1 - (pk16 t227 t228 t229 t230 t231 t232 t233 t234 t235 t236 t237 t238 t239 t240 t241 t242 ((rd_T46 l0 x6_1).f1))) % 256) t240) (pt 14 ((rd_T46 l0 x6_1).f1) ((1 - (pk16 t227 t228 t229 t230 t231 t232 t233 t234 t235 t236 t237 t238 t239 t240 t241 t242 ((rd_T46 l0 x6_1).f1))) % 256) t241) (pt 15 ((rd_T46 l0 x6_1).f1) ((1 - (pk16 t227 t228 t229 t230 t231 t232 t233 t234 t235 t236 t237 t238 t239 t240 t241 t242 ((rd_T46 l0 x6_1).f1))) % 256) t242)) else (none)) else (perilunelaw32_UplinkDamage.j1 k1 l0 x3_1 x4_1 x6_1 (Int.tmod (wrap64 ((rd_T46 l0 x6_1).f0)) 32) x218000_1 x218001_1 t227 t228 t229 t230 t231 t232 t233 t234 t235 t236 t237 t238 t239 t240 t241 t242 t227 t228 t229 t230 t231 t232 t233 t234 t235 t236 t237 t238 t239 t240 t241 t242)) = some r := H
            have A8 := Aside0.mk A80
            clear A80
            have HC9 := Aside0.mk H
            clear H
            have p226 : 0 ≤ (x6_1 : Int) := of_decide_eq_true (by first | (with_reducible assumption) | assumption)
            have q226 : x6_1 < (l0.length : Int) := of_decide_eq_true (by first | (with_reducible assumption) | assumption)
            obtain ⟨ad226, e226, hx226_0, hx226_1, hx226_2, hx226_3⟩ := at_T46 HR0.out x6_1 p226 q226
            cases e226
            replace hx226_0 := (HB.out.cell (World.block_lt_of_cell? w _ hx226_0)).trans hx226_0
            replace hx226_1 := (HB.out.cell (World.block_lt_of_cell? w _ hx226_1)).trans hx226_1
            replace hx226_2 := (HB.out.cell (World.block_lt_of_cell? w _ hx226_2)).trans hx226_2
            replace hx226_3 := (HB.out.cell (World.block_lt_of_cell? w _ hx226_3)).trans hx226_3
            replace p226 := eq_true p226
            replace q226 := eq_true q226
            go_upto_if 42 with (first | ((with_reducible refine gate_callee (f := 11) rfl ?_); refine goesL_ (some 33) rfl rfl Try.func11 (by kernel_rfl) rfl #[.int .i64 (Int.tmod (wrap64 ((rd_T46 l0 x6_1).f0)) 32)] rfl (by (try simp only [List.map_toArray, List.map_cons, List.map_nil]); first | done | rfl | (simp only [List.length_drop, List.length_take]; rfl)) ?_; (with_reducible refine (uplink_Word.calls k1 (Int.tmod (wrap64 ((rd_T46 l0 x6_1).f0)) 32) t227 t228 t229 t230 t231 t232 t233 t234 t235 t236 t237 t238 t239 t240 t241 t242 t243 _ A8.out).mono ?_); rintro e w10 ⟨rfl, hb⟩; refine ⟨_, rfl, ?_⟩; have n0_ := Aside0.mk (Kd.R_below (by (with_reducible repeat (first | apply Kd.R_alloc | apply Kd.R_drewN | apply Kd.R_drew)); exact HO_3.out) hb); have n1_ := Aside0.mk (Kd.R_below (by (with_reducible repeat (first | apply Kd.R_alloc | apply Kd.R_drewN | apply Kd.R_drew)); exact HO_4.out) hb); have n2_ := Aside0.mk (blk_below (g := gb217) (o := .cells #[.bool x218000_1, .int .i64 x218001_1] 31 (0, 0)) (by (with_reducible repeat (first | refine blk_drewN ?_ _ | refine blk_drew ?_ | refine blk_alloc ?_ _)); exact BK217.out) hb); have n3_ := Aside0.mk (below_step (by repeat (first | (with_reducible first | exact HB.out | apply below_alloc | apply pw_below_drewN | apply below_drew1 | refine below_set ?_ GE217.out) | exact HB.out)) hb); clear HO_3; clear HO_4; clear BK217; clear HB; have HO_3 := n0_; have HO_4 := n1_; have BK217 := n2_; have HB := n3_; clear n0_ n1_ n2_ n3_; (try clear hb); (try clear hb2); (try clear hk); (try clear hi)) | ((with_reducible refine gate_dst (N := 8) rfl ?_); refine box_event ?hg (N := 8) ?hd (cs := #[.int .u8 0, .int .u8 0, .int .u8 0, .int .u8 0, .int .u8 0, .int .u8 0, .int .u8 0, .int .u8 0, .int .u8 0, .int .u8 0, .int .u8 0, .int .u8 0, .int .u8 0, .int .u8 0, .int .u8 0, .int .u8 0]) (t := 22) ?hr ?_; (case hd => rfl); (case hg => rfl); (case hr => first | (go_simp; done) | (go_simp; rfl)); intro gb244 hg w11 hbox hb; have n0_ := Aside0.mk (Kd.R_below (Kd.R_elderB (by (with_reducible repeat (first | apply Kd.R_alloc | apply Kd.R_drewN | apply Kd.R_drew)); exact HO_3.out) gb244 (Nat.le_of_eq hg.symm)) hb); have n1_ := Aside0.mk (Kd.R_below (by (with_reducible repeat (first | apply Kd.R_alloc | apply Kd.R_drewN | apply Kd.R_drew)); exact HO_4.out) hb); have n2_ := Aside0.mk (blk_below (g := gb217) (o := .cells #[.bool x218000_1, .int .i64 x218001_1] 31 (0, 0)) (by (with_reducible repeat (first | refine blk_drewN ?_ _ | refine blk_drew ?_ | refine blk_alloc ?_ _)); exact BK217.out) hb); have n3_ := Aside0.mk (below_step (by repeat (first | (with_reducible first | exact HB.out | apply below_alloc | apply pw_below_drewN | apply below_drew1 | refine below_set ?_ GE217.out) | exact HB.out)) hb); have n4_ := Aside0.mk (hbox); have n5_ := Aside0.mk ((by rw [hg]; exact (below_size (by repeat (first | (with_reducible first | exact HB.out | apply below_alloc | apply pw_below_drewN | apply below_drew1 | refine below_set ?_ GE217.out) | exact HB.out))) : w.heap.size ≤ gb244)); have n6_ := Aside0.mk ((by rw [hg]; exact (below_size (by repeat (first | (with_reducible first | exact HB.out | apply below_alloc | apply pw_below_drewN | apply below_drew1 | refine below_set ?_ GE217.out) | exact HB.out))) : w.heap.size ≤ gb244)); have n7_ := Aside0.mk ((by rw [hg]; exact Nat.ne_of_lt (blk_lt (g := gb217) (o := .cells #[.bool x218000_1, .int .i64 x218001_1] 31 (0, 0)) (by (with_reducible repeat (first | refine blk_drewN ?_ _ | refine blk_drew ?_ | refine blk_alloc ?_ _)); exact BK217.out)) : gb217 ≠ gb244)); have n8_ := Aside0.mk ((by rw [hg]; exact Nat.ne_of_gt (blk_lt (g := gb217) (o := .cells #[.bool x218000_1, .int .i64 x218001_1] 31 (0, 0)) (by (with_reducible repeat (first | refine blk_drewN ?_ _ | refine blk_drew ?_ | refine blk_alloc ?_ _)); exact BK217.out)) : gb244 ≠ gb217)); clear HO_3; clear HO_4; clear BK217; clear HB; have HO_3 := n0_; have HO_4 := n1_; have BK217 := n2_; have HB := n3_; have BK244 := n4_; have GW244 := n5_; have GE244 := n6_; have NB217_244 := n7_; have NB244_217 := n8_; clear n0_ n1_ n2_ n3_ n4_ n5_ n6_ n7_ n8_; clear hb hbox hg) | ((with_reducible refine gate_store (t := 22) (p := 8) rfl ?_); refine seg_event (t := 22) (p := 8) (x := ?xo_w12) (g := gb244) (off := 0) (T := 22) (cur := #[.int .u8 0, .int .u8 0, .int .u8 0, .int .u8 0, .int .u8 0, .int .u8 0, .int .u8 0, .int .u8 0, .int .u8 0, .int .u8 0, .int .u8 0, .int .u8 0, .int .u8 0, .int .u8 0, .int .u8 0, .int .u8 0]) (vs := [.int .u8 t227, .int .u8 t228, .int .u8 t229, .int .u8 t230, .int .u8 t231, .int .u8 t232, .int .u8 t233, .int .u8 t234, .int .u8 t235, .int .u8 t236, .int .u8 t237, .int .u8 t238, .int .u8 t239, .int .u8 t240, .int .u8 t241, .int .u8 t242]) (new := #[.int .u8 t227, .int .u8 t228, .int .u8 t229, .int .u8 t230, .int .u8 t231, .int .u8 t232, .int .u8 t233, .int .u8 t234, .int .u8 t235, .int .u8 t236, .int .u8 t237, .int .u8 t238, .int .u8 t239, .int .u8 t240, .int .u8 t241, .int .u8 t242]) ?hg ?ho ?hn ?hp ?hv ?hb ?hi ?hf ?h1 ?hw ?_; (case ho => rfl); (case hg => rfl); (case hn => rfl); (case hp => rfl); (case hv => first | rfl | (go_simp; done) | (simp [*]; done)); (case hb => exact (by (with_reducible repeat (first | refine blk_drewN ?_ _ | refine blk_drew ?_ | refine blk_alloc ?_ _)); exact BK244.out)); (case hi => kernel_rfl); (case hf => exact Nat.le_of_ble_eq_true rfl); (case h1 => rfl); (case hw => rfl); intro w12 hbox hg hbl; have n0_ := Aside0.mk (Kd.R_grown (by (with_reducible repeat (first | apply Kd.R_alloc | apply Kd.R_drewN | apply Kd.R_drew)); exact HO_3.out) hg (by intro k_ hk e_; exact (hk.2) (Option.some.inj e_))); have n1_ := Aside0.mk (Kd.R_mono (Kd.R_grown (Kd.R_types (by (with_reducible repeat (first | apply Kd.R_alloc | apply Kd.R_drewN | apply Kd.R_drew)); exact HO_4.out) (show w11.heap[gb244]? = some (.cells #[.int .u8 0, .int .u8 0, .int .u8 0, .int .u8 0, .int .u8 0, .int .u8 0, .int .u8 0, .int .u8 0, .int .u8 0, .int .u8 0, .int .u8 0, .int .u8 0, .int .u8 0, .int .u8 0, .int .u8 0, .int .u8 0] 22 (0, 0)) from by (with_reducible repeat (first | refine blk_drewN ?_ _ | refine blk_drew ?_ | refine blk_alloc ?_ _)); exact BK244.out) (by decide)) hg (by intro k_ hk e_; exact hk.2 (Option.some.inj e_))) (by intro _ hk; exact hk.1)); have n2_ := Aside0.mk (blk_grown (g := gb217) (o := .cells #[.bool x218000_1, .int .i64 x218001_1] 31 (0, 0)) (by (with_reducible repeat (first | refine blk_drewN ?_ _ | refine blk_drew ?_ | refine blk_alloc ?_ _)); exact BK217.out) hg (fun e_ => NB217_244.out (Option.some.inj e_))); have n3_ := Aside0.mk (hbox); have n4_ := Aside0.mk (hbl _ _ (by repeat (first | (with_reducible first | exact HB.out | apply below_alloc | apply pw_below_drewN | apply below_drew1 | refine below_set ?_ GE217.out | refine below_set ?_ GE244.out) | exact HB.out)) GE244.out); clear HO_3; clear HO_4; clear BK217; clear BK244; clear HB; have HO_3 := n0_; have HO_4 := n1_; have BK217 := n2_; have BK244 := n3_; have HB := n4_; clear n0_ n1_ n2_ n3_ n4_; clear hbox hg hbl) | ((with_reducible refine gate_dst (N := 36) rfl ?_); refine seg_load_on (t := 22) (p := 8) (g := gb244) (off := 0) (T := 22) (cur := #[.int .u8 t227, .int .u8 t228, .int .u8 t229, .int .u8 t230, .int .u8 t231, .int .u8 t232, .int .u8 t233, .int .u8 t234, .int .u8 t235, .int .u8 t236, .int .u8 t237, .int .u8 t238, .int .u8 t239, .int .u8 t240, .int .u8 t241, .int .u8 t242]) (vs := [.int .u8 t227, .int .u8 t228, .int .u8 t229, .int .u8 t230, .int .u8 t231, .int .u8 t232, .int .u8 t233, .int .u8 t234, .int .u8 t235, .int .u8 t236, .int .u8 t237, .int .u8 t238, .int .u8 t239, .int .u8 t240, .int .u8 t241, .int .u8 t242]) ?hg ?ho ?hp ?hb Try.underlying22 ?hd ?hi ?hw ?_; (case ho => rfl); (case hg => first | rfl | (go_simp; done) | (simp [Region.wanted, yielded, *]; done)); (case hp => rfl); (case hb => exact (by (with_reducible repeat (first | refine blk_drewN ?_ _ | refine blk_drew ?_ | refine blk_alloc ?_ _)); exact BK244.out)); (case hd => rfl); (case hi => kernel_rfl); (case hw => rfl)) | ((with_reducible refine gate_dst (N := 10) rfl ?_); refine box_event ?hg (N := 10) ?hd (cs := #[.int .u8 0, .int .u8 0, .int .u8 0, .int .u8 0, .int .u8 0, .int .u8 0, .int .u8 0, .int .u8 0, .int .u8 0, .int .u8 0, .int .u8 0, .int .u8 0, .int .u8 0, .int .u8 0, .int .u8 0, .int .u8 0]) (t := 22) ?hr ?_; (case hd => rfl); (case hg => rfl); (case hr => first | (go_simp; done) | (go_simp; rfl)); intro gb245 hg w13 hbox hb; have n0_ := Aside0.mk (Kd.R_below (Kd.R_elderB (by (with_reducible repeat (first | apply Kd.R_alloc | apply Kd.R_drewN | apply Kd.R_drew)); exact HO_3.out) gb245 (Nat.le_of_eq hg.symm)) hb); have n1_ := Aside0.mk (Kd.R_below (by (with_reducible repeat (first | apply Kd.R_alloc | apply Kd.R_drewN | apply Kd.R_drew)); exact HO_4.out) hb); have n2_ := Aside0.mk (blk_below (g := gb217) (o := .cells #[.bool x218000_1, .int .i64 x218001_1] 31 (0, 0)) (by (with_reducible repeat (first | refine blk_drewN ?_ _ | refine blk_drew ?_ | refine blk_alloc ?_ _)); exact BK217.out) hb); have n3_ := Aside0.mk (blk_below (g := gb244) (o := .cells #[.int .u8 t227, .int .u8 t228, .int .u8 t229, .int .u8 t230, .int .u8 t231, .int .u8 t232, .int .u8 t233, .int .u8 t234, .int .u8 t235, .int .u8 t236, .int .u8 t237, .int .u8 t238, .int .u8 t239, .int .u8 t240, .int .u8 t241, .int .u8 t242] 22 (0, 0)) (by (with_reducible repeat (first | refine blk_drewN ?_ _ | refine blk_drew ?_ | refine blk_alloc ?_ _)); exact BK244.out) hb); have n4_ := Aside0.mk (below_step (by repeat (first | (with_reducible first | exact HB.out | apply below_alloc | apply pw_below_drewN | apply below_drew1 | refine below_set ?_ GE217.out | refine below_set ?_ GE244.out) | exact HB.out)) hb); have n5_ := Aside0.mk (hbox); have n6_ := Aside0.mk ((by rw [hg]; exact (below_size (by repeat (first | (with_reducible first | exact HB.out | apply below_alloc | apply pw_below_drewN | apply below_drew1 | refine below_set ?_ GE217.out | refine below_set ?_ GE244.out) | exact HB.out))) : w.heap.size ≤ gb245)); have n7_ := Aside0.mk ((by rw [hg]; exact (below_size (by repeat (first | (with_reducible first | exact HB.out | apply below_alloc | apply pw_below_drewN | apply below_drew1 | refine below_set ?_ GE217.out | refine below_set ?_ GE244.out) | exact HB.out))) : w.heap.size ≤ gb245)); have n8_ := Aside0.mk ((by rw [hg]; exact Nat.ne_of_lt (blk_lt (g := gb217) (o := .cells #[.bool x218000_1, .int .i64 x218001_1] 31 (0, 0)) (by (with_reducible repeat (first | refine blk_drewN ?_ _ | refine blk_drew ?_ | refine blk_alloc ?_ _)); exact BK217.out)) : gb217 ≠ gb245)); have n9_ := Aside0.mk ((by rw [hg]; exact Nat.ne_of_gt (blk_lt (g := gb217) (o := .cells #[.bool x218000_1, .int .i64 x218001_1] 31 (0, 0)) (by (with_reducible repeat (first | refine blk_drewN ?_ _ | refine blk_drew ?_ | refine blk_alloc ?_ _)); exact BK217.out)) : gb245 ≠ gb217)); have n10_ := Aside0.mk ((by rw [hg]; exact Nat.ne_of_lt (blk_lt (g := gb244) (o := .cells #[.int .u8 t227, .int .u8 t228, .int .u8 t229, .int .u8 t230, .int .u8 t231, .int .u8 t232, .int .u8 t233, .int .u8 t234, .int .u8 t235, .int .u8 t236, .int .u8 t237, .int .u8 t238, .int .u8 t239, .int .u8 t240, .int .u8 t241, .int .u8 t242] 22 (0, 0)) (by (with_reducible repeat (first | refine blk_drewN ?_ _ | refine blk_drew ?_ | refine blk_alloc ?_ _)); exact BK244.out)) : gb244 ≠ gb245)); have n11_ := Aside0.mk ((by rw [hg]; exact Nat.ne_of_gt (blk_lt (g := gb244) (o := .cells #[.int .u8 t227, .int .u8 t228, .int .u8 t229, .int .u8 t230, .int .u8 t231, .int .u8 t232, .int .u8 t233, .int .u8 t234, .int .u8 t235, .int .u8 t236, .int .u8 t237, .int .u8 t238, .int .u8 t239, .int .u8 t240, .int .u8 t241, .int .u8 t242] 22 (0, 0)) (by (with_reducible repeat (first | refine blk_drewN ?_ _ | refine blk_drew ?_ | refine blk_alloc ?_ _)); exact BK244.out)) : gb245 ≠ gb244)); clear HO_3; clear HO_4; clear BK217; clear BK244; clear HB; have HO_3 := n0_; have HO_4 := n1_; have BK217 := n2_; have BK244 := n3_; have HB := n4_; have BK245 := n5_; have GW245 := n6_; have GE245 := n7_; have NB217_245 := n8_; have NB245_217 := n9_; have NB244_245 := n10_; have NB245_244 := n11_; clear n0_ n1_ n2_ n3_ n4_ n5_ n6_ n7_ n8_ n9_ n10_ n11_; clear hb hbox hg) | ((with_reducible refine gate_store (t := 22) (p := 10) rfl ?_); refine seg_event (t := 22) (p := 10) (x := ?xo_w14) (g := gb245) (off := 0) (T := 22) (cur := #[.int .u8 0, .int .u8 0, .int .u8 0, .int .u8 0, .int .u8 0, .int .u8 0, .int .u8 0, .int .u8 0, .int .u8 0, .int .u8 0, .int .u8 0, .int .u8 0, .int .u8 0, .int .u8 0, .int .u8 0, .int .u8 0]) (vs := [.int .u8 t227, .int .u8 t228, .int .u8 t229, .int .u8 t230, .int .u8 t231, .int .u8 t232, .int .u8 t233, .int .u8 t234, .int .u8 t235, .int .u8 t236, .int .u8 t237, .int .u8 t238, .int .u8 t239, .int .u8 t240, .int .u8 t241, .int .u8 t242]) (new := #[.int .u8 t227, .int .u8 t228, .int .u8 t229, .int .u8 t230, .int .u8 t231, .int .u8 t232, .int .u8 t233, .int .u8 t234, .int .u8 t235, .int .u8 t236, .int .u8 t237, .int .u8 t238, .int .u8 t239, .int .u8 t240, .int .u8 t241, .int .u8 t242]) ?hg ?ho ?hn ?hp ?hv ?hb ?hi ?hf ?h1 ?hw ?_; (case ho => rfl); (case hg => rfl); (case hn => rfl); (case hp => rfl); (case hv => first | rfl | (go_simp; done) | (simp [*]; done)); (case hb => exact (by (with_reducible repeat (first | refine blk_drewN ?_ _ | refine blk_drew ?_ | refine blk_alloc ?_ _)); exact BK245.out)); (case hi => kernel_rfl); (case hf => exact Nat.le_of_ble_eq_true rfl); (case h1 => rfl); (case hw => rfl); intro w14 hbox hg hbl; have n0_ := Aside0.mk (Kd.R_grown (by (with_reducible repeat (first | apply Kd.R_alloc | apply Kd.R_drewN | apply Kd.R_drew)); exact HO_3.out) hg (by intro k_ hk e_; exact (hk.2) (Option.some.inj e_))); have n1_ := Aside0.mk (Kd.R_mono (Kd.R_grown (Kd.R_types (by (with_reducible repeat (first | apply Kd.R_alloc | apply Kd.R_drewN | apply Kd.R_drew)); exact HO_4.out) (show w13.heap[gb245]? = some (.cells #[.int .u8 0, .int .u8 0, .int .u8 0, .int .u8 0, .int .u8 0, .int .u8 0, .int .u8 0, .int .u8 0, .int .u8 0, .int .u8 0, .int .u8 0, .int .u8 0, .int .u8 0, .int .u8 0, .int .u8 0, .int .u8 0] 22 (0, 0)) from by (with_reducible repeat (first | refine blk_drewN ?_ _ | refine blk_drew ?_ | refine blk_alloc ?_ _)); exact BK245.out) (by decide)) hg (by intro k_ hk e_; exact hk.2 (Option.some.inj e_))) (by intro _ hk; exact hk.1)); have n2_ := Aside0.mk (blk_grown (g := gb217) (o := .cells #[.bool x218000_1, .int .i64 x218001_1] 31 (0, 0)) (by (with_reducible repeat (first | refine blk_drewN ?_ _ | refine blk_drew ?_ | refine blk_alloc ?_ _)); exact BK217.out) hg (fun e_ => NB217_245.out (Option.some.inj e_))); have n3_ := Aside0.mk (blk_grown (g := gb244) (o := .cells #[.int .u8 t227, .int .u8 t228, .int .u8 t229, .int .u8 t230, .int .u8 t231, .int .u8 t232, .int .u8 t233, .int .u8 t234, .int .u8 t235, .int .u8 t236, .int .u8 t237, .int .u8 t238, .int .u8 t239, .int .u8 t240, .int .u8 t241, .int .u8 t242] 22 (0, 0)) (by (with_reducible repeat (first | refine blk_drewN ?_ _ | refine blk_drew ?_ | refine blk_alloc ?_ _)); exact BK244.out) hg (fun e_ => NB244_245.out (Option.some.inj e_))); have n4_ := Aside0.mk (hbox); have n5_ := Aside0.mk (hbl _ _ (by repeat (first | (with_reducible first | exact HB.out | apply below_alloc | apply pw_below_drewN | apply below_drew1 | refine below_set ?_ GE217.out | refine below_set ?_ GE244.out | refine below_set ?_ GE245.out) | exact HB.out)) GE245.out); clear HO_3; clear HO_4; clear BK217; clear BK244; clear BK245; clear HB; have HO_3 := n0_; have HO_4 := n1_; have BK217 := n2_; have BK244 := n3_; have BK245 := n4_; have HB := n5_; clear n0_ n1_ n2_ n3_ n4_ n5_; clear hbox hg hbl; have p246 : 0 ≤ (x6_1 : Int) := of_decide_eq_true (by first | (with_reducible assumption) | assumption); have q246 : x6_1 < (l0.length : Int) := of_decide_eq_true (by first | (with_reducible assumption) | assumption); obtain ⟨ad246, e246, hx246_0, hx246_1, hx246_2, hx246_3⟩ := at_T46 HR0.out x6_1 p246 q246; obtain rfl : ad226 = ad246 := (by injection e246); replace hx246_0 := (HB.out.cell (World.block_lt_of_cell? w _ hx246_0)).trans hx246_0; replace hx246_1 := (HB.out.cell (World.block_lt_of_cell? w _ hx246_1)).trans hx246_1; replace hx246_2 := (HB.out.cell (World.block_lt_of_cell? w _ hx246_2)).trans hx246_2; replace hx246_3 := (HB.out.cell (World.block_lt_of_cell? w _ hx246_3)).trans hx246_3; replace p246 := eq_true p246; replace q246 := eq_true q246))
            (try simp only [Act.put, List.setIfInBounds_toArray, List.set_cons_zero, List.set_cons_succ])
            go_cut [] (fun wc => ∃ (kq : Nat) (x246000_8 : Int) (x246001_8 : Int) (x246002_8 : Int) (x246003_8 : Int) (x246004_8 : Int) (x246005_8 : Int) (x246006_8 : Int) (x246007_8 : Int) (x246008_8 : Int) (x246009_8 : Int) (x246010_8 : Int) (x246011_8 : Int) (x246012_8 : Int) (x246013_8 : Int) (x246014_8 : Int) (x246015_8 : Int), Aside0 (perilunelaw32_UplinkDamage.j1 kq l0 x3_1 x4_1 x6_1 (Int.tmod (wrap64 ((rd_T46 l0 x6_1).f0)) 32) x218000_1 x218001_1 t227 t228 t229 t230 t231 t232 t233 t234 t235 t236 t237 t238 t239 t240 t241 t242 x246000_8 x246001_8 x246002_8 x246003_8 x246004_8 x246005_8 x246006_8 x246007_8 x246008_8 x246009_8 x246010_8 x246011_8 x246012_8 x246013_8 x246014_8 x246015_8 = some r) ∧ Aside0 (kq ≤ k1) ∧ Aside0 (Kd.R k22 22 wc w.heap.size (fun k_ => k_ ≠ gb244 ∧ k_ ≠ gb245) u3 x3_1) ∧ Aside0 (Kd.R (Kd.int .i64) 3 wc w.heap.size (fun _ => True) u4 x4_1) ∧ Aside0 (wc.heap[gb217]? = some (.cells #[.bool x218000_1, .int .i64 x218001_1] 31 (0, 0))) ∧ Aside0 (wc.heap[gb244]? = some (.cells #[.int .u8 t227, .int .u8 t228, .int .u8 t229, .int .u8 t230, .int .u8 t231, .int .u8 t232, .int .u8 t233, .int .u8 t234, .int .u8 t235, .int .u8 t236, .int .u8 t237, .int .u8 t238, .int .u8 t239, .int .u8 t240, .int .u8 t241, .int .u8 t242] 22 (0, 0))) ∧ Aside0 (wc.heap[gb245]? = some (.cells #[.int .u8 x246000_8, .int .u8 x246001_8, .int .u8 x246002_8, .int .u8 x246003_8, .int .u8 x246004_8, .int .u8 x246005_8, .int .u8 x246006_8, .int .u8 x246007_8, .int .u8 x246008_8, .int .u8 x246009_8, .int .u8 x246010_8, .int .u8 x246011_8, .int .u8 x246012_8, .int .u8 x246013_8, .int .u8 x246014_8, .int .u8 x246015_8] 22 (0, 0))) ∧ Aside0 (Below w.heap.size w wc))
            case first =>
              have H := HC9.out
              clear HC9
              by_cases c15 : ((rd_T46 l0 x6_1).f1) < 16
              · rw [if_pos c15] at H
                have c15b0 : decide (((rd_T46 l0 x6_1).f1) < 16) = true := decide_eq_true c15
                clear c15
                (first | rw [c15b0] | (simp only [i64_w, i32_w]; rw [c15b0]) | rw [c15b1] | skip)
                by_cases c16 : 0 ≤ ((rd_T46 l0 x6_1).f1)
                · rw [if_pos c16] at H
                  have c16b0 : decide (0 ≤ ((rd_T46 l0 x6_1).f1)) = true := decide_eq_true c16
                  clear c16
                  have H' := Aside0.mk H
                  clear H
                  try go_wp2
                  have n0_ := Aside0.mk (Kd.R_drew HO_3.out)
                  have n1_ := Aside0.mk (Kd.R_drew HO_4.out)
                  have n2_ := Aside0.mk (blk_drew BK217.out)
                  have n3_ := Aside0.mk (blk_drew BK244.out)
                  have n4_ := Aside0.mk (blk_drew BK245.out)
                  have n5_ := Aside0.mk (below_drew1 HB.out)
                  clear HO_3
                  clear HO_4
                  clear BK217
                  clear BK244
                  clear BK245
                  clear HB
                  have HO_3 := n0_
                  have HO_4 := n1_
                  have BK217 := n2_
                  have BK244 := n3_
                  have BK245 := n4_
                  have HB := n5_
                  clear n0_ n1_ n2_ n3_ n4_ n5_
                  have p247 : 0 ≤ (x6_1 : Int) := of_decide_eq_true (by first | (with_reducible assumption) | assumption)
                  have q247 : x6_1 < (l0.length : Int) := of_decide_eq_true (by first | (with_reducible assumption) | assumption)
                  obtain ⟨ad247, e247, hx247_0, hx247_1, hx247_2, hx247_3⟩ := at_T46 HR0.out x6_1 p247 q247
                  have hw247_3 := hx247_3
                  have hw247_2 := hx247_2
                  have hw247_1 := hx247_1
                  have hw247_0 := hx247_0
                  obtain rfl : ad226 = ad247 := (by injection e247)
                  replace hx247_0 := (HB.out.cell (World.block_lt_of_cell? w _ hx247_0)).trans hx247_0
                  replace hx247_1 := (HB.out.cell (World.block_lt_of_cell? w _ hx247_1)).trans hx247_1
                  replace hx247_2 := (HB.out.cell (World.block_lt_of_cell? w _ hx247_2)).trans hx247_2
                  replace hx247_3 := (HB.out.cell (World.block_lt_of_cell? w _ hx247_3)).trans hx247_3
                  replace p247 := eq_true p247
                  replace q247 := eq_true q247
                  have p248 : 0 ≤ (x6_1 : Int) := of_decide_eq_true (by first | (with_reducible assumption) | assumption)
                  have q248 : x6_1 < (l0.length : Int) := of_decide_eq_true (by first | (with_reducible assumption) | assumption)
                  obtain ⟨ad248, e248, hx248_0, hx248_1, hx248_2, hx248_3⟩ := at_T46 HR0.out x6_1 p248 q248
                  have hw248_3 := hx248_3
                  have hw248_2 := hx248_2
                  have hw248_1 := hx248_1
                  have hw248_0 := hx248_0
                  obtain rfl : ad226 = ad248 := (by injection e248)
                  replace hx248_0 := (HB.out.cell (World.block_lt_of_cell? w _ hx248_0)).trans hx248_0
                  replace hx248_1 := (HB.out.cell (World.block_lt_of_cell? w _ hx248_1)).trans hx248_1
                  replace hx248_2 := (HB.out.cell (World.block_lt_of_cell? w _ hx248_2)).trans hx248_2
                  replace hx248_3 := (HB.out.cell (World.block_lt_of_cell? w _ hx248_3)).trans hx248_3
                  replace p248 := eq_true p248
                  replace q248 := eq_true q248
                  have vp249 : (0 ≤ (((rd_T46 l0 x6_1).f1) : Int)) = True := eq_true (of_decide_eq_true (by first | (with_reducible assumption) | assumption))
                  have vq249 : ((((rd_T46 l0 x6_1).f1) : Int) < (16 : Int)) = True := eq_true (of_decide_eq_true (by first | (with_reducible assumption) | assumption))
                  have vp251 : (0 ≤ (((rd_T46 l0 x6_1).f1) : Int)) = True := eq_true (of_decide_eq_true (by first | (with_reducible assumption) | assumption))
                  have vq251 : ((((rd_T46 l0 x6_1).f1) : Int) < (16 : Int)) = True := eq_true (of_decide_eq_true (by first | (with_reducible assumption) | assumption))
                  refine start_ (n := 15) (S := fun w' => w'.cell? (ad226.add ((x6_1).toNat * 4)) = some (.int .u8 ((rd_T46 l0 x6_1).f0)) ∧ w'.cell? ⟨(ad226.add ((x6_1).toNat * 4)).block, (ad226.add ((x6_1).toNat * 4)).off + 1, none⟩ = some (.int .u8 ((rd_T46 l0 x6_1).f1)) ∧ w'.cell? ⟨(ad226.add ((x6_1).toNat * 4)).block, (ad226.add ((x6_1).toNat * 4)).off + 2, none⟩ = some (.int .u8 ((rd_T46 l0 x6_1).f2)) ∧ w'.cell? ⟨(ad226.add ((x6_1).toNat * 4)).block, (ad226.add ((x6_1).toNat * 4)).off + 3, none⟩ = some (.int .u16 ((rd_T46 l0 x6_1).f3)) ∧ w'.cell? (ad226.add ((x6_1).toNat * 4)) = some (.int .u8 ((rd_T46 l0 x6_1).f0)) ∧ w'.cell? ⟨(ad226.add ((x6_1).toNat * 4)).block, (ad226.add ((x6_1).toNat * 4)).off + 1, none⟩ = some (.int .u8 ((rd_T46 l0 x6_1).f1)) ∧ w'.cell? ⟨(ad226.add ((x6_1).toNat * 4)).block, (ad226.add ((x6_1).toNat * 4)).off + 2, none⟩ = some (.int .u8 ((rd_T46 l0 x6_1).f2)) ∧ w'.cell? ⟨(ad226.add ((x6_1).toNat * 4)).block, (ad226.add ((x6_1).toNat * 4)).off + 3, none⟩ = some (.int .u16 ((rd_T46 l0 x6_1).f3)) ∧ w'.cell? ⟨gb245, (((rd_T46 l0 x6_1).f1)).toNat, none⟩ = some (.int .u8 (pk16 t227 t228 t229 t230 t231 t232 t233 t234 t235 t236 t237 t238 t239 t240 t241 t242 ((rd_T46 l0 x6_1).f1)))) (ds := [14]) #[false, false, false, false, false, false, false, false, false, false, false, false, false, false, false] (by kernel_rfl) rfl rfl ⟨((HB.out.cell (World.block_lt_of_cell? w _ hw247_0)).trans hw247_0), ((HB.out.cell (World.block_lt_of_cell? w _ hw247_1)).trans hw247_1), ((HB.out.cell (World.block_lt_of_cell? w _ hw247_2)).trans hw247_2), ((HB.out.cell (World.block_lt_of_cell? w _ hw247_3)).trans hw247_3), ((HB.out.cell (World.block_lt_of_cell? w _ hw248_0)).trans hw248_0), ((HB.out.cell (World.block_lt_of_cell? w _ hw248_1)).trans hw248_1), ((HB.out.cell (World.block_lt_of_cell? w _ hw248_2)).trans hw248_2), ((HB.out.cell (World.block_lt_of_cell? w _ hw248_3)).trans hw248_3), cellA22_0_0 (((rd_T46 l0 x6_1).f1)) (of_decide_eq_true (by first | (with_reducible assumption) | assumption)) (of_decide_eq_true (by first | (with_reducible assumption) | assumption)) BK245.out⟩ (fun hHeld => ?_); refine with_tabW perilunelaw32_UplinkDamage.tab13 perilunelaw32_UplinkDamage.bits13 (fun HT_ HW_ => ?_)
                  generalize w14.drew = w17 at HO_3 HO_4 BK217 BK244 BK245 HB hx247_0 hx247_1 hx247_2 hx247_3 hx248_0 hx248_1 hx248_2 hx248_3 hHeld ⊢
                  refine pure_ (i := 0) (N := some 43) (v := ?_) (a' := ?_) #[true, false, false, false, false, false, false, false, false, false, false, false, false, false, false] rfl rfl (any_of HT_.out (by kernel_rfl)) (fun _ _ _ h => h) (Or.inl ⟨by rfl, ?_⟩) ?_ ?_
                  rotate_left
                  · intro w'
                    go_simp
                    with_reducible rfl
                  rotate_left
                  · simp only [Act.put, List.setIfInBounds_toArray, List.set_cons_zero, List.set_cons_succ, i64_w, i32_w]
                    rfl
                  refine pure_ (i := 1) (N := some 44) (v := ?_) (a' := ?_) #[true, true, false, false, false, false, false, false, false, false, false, false, false, false, false] rfl rfl (any_of HT_.out (by kernel_rfl)) (fun _ _ _ h => h) (Or.inl ⟨by rfl, ?_⟩) ?_ ?_
                  rotate_left
                  · intro w'
                    go_simp
                    with_reducible rfl
                  rotate_left
                  · simp only [Act.put, List.setIfInBounds_toArray, List.set_cons_zero, List.set_cons_succ, i64_w, i32_w]
                    rfl
                  refine pure_ (i := 2) (N := some 45) (v := ?_) (a' := ?_) #[true, true, true, false, false, false, false, false, false, false, false, false, false, false, false] rfl rfl (any_of HT_.out (by kernel_rfl)) (fun _ _ _ h => h) (Or.inl ⟨by rfl, ?_⟩) ?_ ?_
                  rotate_left
                  · intro w'
                    go_simp
                    with_reducible rfl
                  rotate_left
                  · simp only [Act.put, List.setIfInBounds_toArray, List.set_cons_zero, List.set_cons_succ, i64_w, i32_w]
                    rfl
                  refine pure_ (i := 3) (N := some 46) (v := ?_) (a' := ?_) #[true, true, true, true, false, false, false, false, false, false, false, false, false, false, false] rfl rfl (any_of HT_.out (by kernel_rfl)) (fun _ _ _ h => h) (Or.inl ⟨by rfl, ?_⟩) ?_ ?_
                  rotate_left
                  · intro w'
                    go_simp
                    with_reducible rfl
                  rotate_left
                  · simp only [Act.put, List.setIfInBounds_toArray, List.set_cons_zero, List.set_cons_succ, i64_w, i32_w]
                    rfl
                  refine pure_ (i := 5) (N := some 48) (v := ?_) (a' := ?_) #[true, true, true, true, false, true, false, false, false, false, false, false, false, false, false] rfl rfl (any_of HT_.out (by kernel_rfl)) (fun _ _ _ h => h) (Or.inl ⟨by rfl, ?_⟩) ?_ ?_
                  rotate_left
                  · intro w'
                    go_simp
                    with_reducible rfl
                  rotate_left
                  · simp only [Act.put, List.setIfInBounds_toArray, List.set_cons_zero, List.set_cons_succ, i64_w, i32_w]
                    rfl
                  refine pure_ (i := 6) (N := some 49) (v := ?_) (a' := ?_) #[true, true, true, true, false, true, true, false, false, false, false, false, false, false, false] rfl rfl (any_of HT_.out (by kernel_rfl)) (fun _ _ _ h => h) (Or.inl ⟨by rfl, ?_⟩) ?_ ?_
                  rotate_left
                  · intro w'
                    go_simp
                    with_reducible rfl
                  rotate_left
                  · simp only [Act.put, List.setIfInBounds_toArray, List.set_cons_zero, List.set_cons_succ, i64_w, i32_w]
                    rfl
                  refine pure_ (i := 7) (N := some 50) (v := ?_) (a' := ?_) #[true, true, true, true, false, true, true, true, false, false, false, false, false, false, false] rfl rfl (any_of HT_.out (by kernel_rfl)) (fun _ _ _ h => h) (Or.inl ⟨by rfl, ?_⟩) ?_ ?_
                  rotate_left
                  · intro w'
                    go_simp
                    with_reducible rfl
                  rotate_left
                  · simp only [Act.put, List.setIfInBounds_toArray, List.set_cons_zero, List.set_cons_succ, i64_w, i32_w]
                    rfl
                  refine pure_ (i := 8) (N := some 51) (v := ?_) (a' := ?_) #[true, true, true, true, false, true, true, true, true, false, false, false, false, false, false] rfl rfl (any_of HT_.out (by kernel_rfl)) (fun _ _ _ h => h) (Or.inl ⟨by rfl, ?_⟩) ?_ ?_
                  rotate_left
                  · intro w'
                    go_simp
                    with_reducible rfl
                  rotate_left
                  · simp only [Act.put, List.setIfInBounds_toArray, List.set_cons_zero, List.set_cons_succ, i64_w, i32_w]
                    rfl
                  refine take_ (i := 4) (N := some 47) (v := ?_) (a' := ?_) #[true, true, true, true, true, true, true, true, true, false, false, false, false, false, false] rfl rfl (take_ofW HT_.out HW_.out (by kernel_rfl)) (fun _ _ _ h => h) (Or.inl ⟨by rfl, ?_⟩) hHeld ?_ ?_
                  rotate_left
                  · rintro w' ⟨s0, s1, s2, s3, s4, s5, s6, s7, s8⟩
                    go_simp
                    with_reducible rfl
                  rotate_left
                  · simp only [Act.put, List.setIfInBounds_toArray, List.set_cons_zero, List.set_cons_succ, i64_w, i32_w]
                    rfl
                  refine take_ (i := 9) (N := some 52) (v := ?_) (a' := ?_) #[true, true, true, true, true, true, true, true, true, true, false, false, false, false, false] rfl rfl (take_ofW HT_.out HW_.out (by kernel_rfl)) (fun _ _ _ h => h) (Or.inl ⟨by rfl, ?_⟩) hHeld ?_ ?_
                  rotate_left
                  · rintro w' ⟨s0, s1, s2, s3, s4, s5, s6, s7, s8⟩
                    go_simp
                    with_reducible rfl
                  rotate_left
                  · simp only [Act.put, List.setIfInBounds_toArray, List.set_cons_zero, List.set_cons_succ, i64_w, i32_w]
                    rfl
                  refine pure_ (i := 10) (N := some 53) (v := ?_) (a' := ?_) #[true, true, true, true, true, true, true, true, true, true, true, false, false, false, false] rfl rfl (any_of HT_.out (by kernel_rfl)) (fun _ _ _ h => h) (Or.inl ⟨by rfl, ?_⟩) ?_ ?_
                  rotate_left
                  · intro w'
                    go_simp
                    with_reducible rfl
                  rotate_left
                  · simp only [Act.put, List.setIfInBounds_toArray, List.set_cons_zero, List.set_cons_succ, i64_w, i32_w]
                    rfl
                  refine take_ (i := 11) (N := some 54) (v := ?_) (a' := ?_) #[true, true, true, true, true, true, true, true, true, true, true, true, false, false, false] rfl rfl (take_ofW HT_.out HW_.out (by kernel_rfl)) (fun _ _ _ h => h) (Or.inl ⟨by rfl, ?_⟩) hHeld ?_ ?_
                  rotate_left
                  · rintro w' ⟨s0, s1, s2, s3, s4, s5, s6, s7, s8⟩
                    go_simp
                    with_reducible rfl
                  rotate_left
                  · simp only [Act.put, List.setIfInBounds_toArray, List.set_cons_zero, List.set_cons_succ, i64_w, i32_w]
                    rfl
                  refine pure_ (i := 12) (N := some 55) (v := ?_) (a' := ?_) #[true, true, true, true, true, true, true, true, true, true, true, true, true, false, false] rfl rfl (any_of HT_.out (by kernel_rfl)) (fun _ _ _ h => h) (Or.inl ⟨by rfl, ?_⟩) ?_ ?_
                  rotate_left
                  · intro w'
                    go_simp
                    with_reducible rfl
                  rotate_left
                  · simp only [Act.put, List.setIfInBounds_toArray, List.set_cons_zero, List.set_cons_succ, i64_w, i32_w]
                    rfl
                  refine pure_ (i := 13) (N := some 56) (v := ?_) (a' := ?_) #[true, true, true, true, true, true, true, true, true, true, true, true, true, true, false] rfl rfl (any_of HT_.out (by kernel_rfl)) (fun _ _ _ h => h) (Or.inl ⟨by rfl, ?_⟩) ?_ ?_
                  rotate_left
                  · intro w'
                    go_simp
                    with_reducible rfl
                  rotate_left
                  · simp only [Act.put, List.setIfInBounds_toArray, List.set_cons_zero, List.set_cons_succ, i64_w, i32_w]
                    rfl
                  refine last_ (i := 14) (N := none) #[true, true, true, true, true, true, true, true, true, true, true, true, true, true, true] rfl rfl (one_of HT_.out (by kernel_rfl)) (by decide) (fun K hK => ?_)
                  have hvk18_0 := cellA22_0_0 (((rd_T46 l0 x6_1).f1)) (of_decide_eq_true (by first | (with_reducible assumption) | assumption)) (of_decide_eq_true (by first | (with_reducible assumption) | assumption)) BK245.out
                  have hfk18_0 := blk_frozen BK245.out ((((rd_T46 l0 x6_1).f1)).toNat)
                  refine skip_ (w1 := ?_) (by rfl) rfl ?_ ?_
                  rotate_left
                  · go_simp
                    rfl
                  refine hK.out _ _ ?_
                  clear hK K
                  refine done_ (done_of HT_.out (by kernel_rfl)) ?_
                  have n0_ : Aside0 (Kd.R k22 22 (w17.setCell ⟨gb245, (((rd_T46 l0 x6_1).f1)).toNat, none⟩ (.int .u8 ((1 - (pk16 t227 t228 t229 t230 t231 t232 t233 t234 t235 t236 t237 t238 t239 t240 t241 t242 ((rd_T46 l0 x6_1).f1))) % 256))) w.heap.size (fun k_ => k_ ≠ gb244 ∧ k_ ≠ gb245) u3 x3_1) := ⟨by (with_reducible repeat (first | apply Kd.R_alloc | apply Kd.R_drewN | apply Kd.R_drew)); exact Kd.R_mono (Kd.R_far (p := ⟨gb245, (((rd_T46 l0 x6_1).f1)).toNat, none⟩) (Kd.R_mono HO_3.out (fun k_ hk => (⟨hk, hk.2⟩ : _ ∧ k_ ≠ gb245))) (fun _ hk => hk.2) (.int .u8 ((1 - (pk16 t227 t228 t229 t230 t231 t232 t233 t234 t235 t236 t237 t238 t239 t240 t241 t242 ((rd_T46 l0 x6_1).f1))) % 256))) (fun _ hk => ⟨hk.1.1.2, hk.1.2⟩)⟩
                  have n1_ : Aside0 (Kd.R (Kd.int .i64) 3 (w17.setCell ⟨gb245, (((rd_T46 l0 x6_1).f1)).toNat, none⟩ (.int .u8 ((1 - (pk16 t227 t228 t229 t230 t231 t232 t233 t234 t235 t236 t237 t238 t239 t240 t241 t242 ((rd_T46 l0 x6_1).f1))) % 256))) w.heap.size (fun _ => True) u4 x4_1) := ⟨by (with_reducible repeat (first | apply Kd.R_alloc | apply Kd.R_drewN | apply Kd.R_drew)); exact Kd.R_mono (Kd.R_far (p := ⟨gb245, (((rd_T46 l0 x6_1).f1)).toNat, none⟩) (Kd.R_types HO_4.out BK245.out (by decide)) (fun _ hk => hk.2) (.int .u8 ((1 - (pk16 t227 t228 t229 t230 t231 t232 t233 t234 t235 t236 t237 t238 t239 t240 t241 t242 ((rd_T46 l0 x6_1).f1))) % 256))) (fun _ hk => trivial)⟩
                  have n2_ : Aside0 ((w17.setCell ⟨gb245, (((rd_T46 l0 x6_1).f1)).toNat, none⟩ (.int .u8 ((1 - (pk16 t227 t228 t229 t230 t231 t232 t233 t234 t235 t236 t237 t238 t239 t240 t241 t242 ((rd_T46 l0 x6_1).f1))) % 256))).heap[gb217]? = some (.cells #[.bool x218000_1, .int .i64 x218001_1] 31 (0, 0))) := ⟨by (with_reducible repeat (first | refine blk_drewN ?_ _ | refine blk_drew ?_ | refine blk_alloc ?_ _)); refine blk_far ?_ NB217_245.out _; (with_reducible repeat (first | refine blk_drewN ?_ _ | refine blk_drew ?_ | refine blk_alloc ?_ _)); exact BK217.out⟩
                  have n3_ : Aside0 ((w17.setCell ⟨gb245, (((rd_T46 l0 x6_1).f1)).toNat, none⟩ (.int .u8 ((1 - (pk16 t227 t228 t229 t230 t231 t232 t233 t234 t235 t236 t237 t238 t239 t240 t241 t242 ((rd_T46 l0 x6_1).f1))) % 256))).heap[gb244]? = some (.cells #[.int .u8 t227, .int .u8 t228, .int .u8 t229, .int .u8 t230, .int .u8 t231, .int .u8 t232, .int .u8 t233, .int .u8 t234, .int .u8 t235, .int .u8 t236, .int .u8 t237, .int .u8 t238, .int .u8 t239, .int .u8 t240, .int .u8 t241, .int .u8 t242] 22 (0, 0))) := ⟨by (with_reducible repeat (first | refine blk_drewN ?_ _ | refine blk_drew ?_ | refine blk_alloc ?_ _)); refine blk_far ?_ NB244_245.out _; (with_reducible repeat (first | refine blk_drewN ?_ _ | refine blk_drew ?_ | refine blk_alloc ?_ _)); exact BK244.out⟩
                  have n4_ : Aside0 ((w17.setCell ⟨gb245, (((rd_T46 l0 x6_1).f1)).toNat, none⟩ (.int .u8 ((1 - (pk16 t227 t228 t229 t230 t231 t232 t233 t234 t235 t236 t237 t238 t239 t240 t241 t242 ((rd_T46 l0 x6_1).f1))) % 256))).heap[gb245]? = some (.cells #[.int .u8 (pt 0 ((rd_T46 l0 x6_1).f1) ((1 - (pk16 t227 t228 t229 t230 t231 t232 t233 t234 t235 t236 t237 t238 t239 t240 t241 t242 ((rd_T46 l0 x6_1).f1))) % 256) t227), .int .u8 (pt 1 ((rd_T46 l0 x6_1).f1) ((1 - (pk16 t227 t228 t229 t230 t231 t232 t233 t234 t235 t236 t237 t238 t239 t240 t241 t242 ((rd_T46 l0 x6_1).f1))) % 256) t228), .int .u8 (pt 2 ((rd_T46 l0 x6_1).f1) ((1 - (pk16 t227 t228 t229 t230 t231 t232 t233 t234 t235 t236 t237 t238 t239 t240 t241 t242 ((rd_T46 l0 x6_1).f1))) % 256) t229), .int .u8 (pt 3 ((rd_T46 l0 x6_1).f1) ((1 - (pk16 t227 t228 t229 t230 t231 t232 t233 t234 t235 t236 t237 t238 t239 t240 t241 t242 ((rd_T46 l0 x6_1).f1))) % 256) t230), .int .u8 (pt 4 ((rd_T46 l0 x6_1).f1) ((1 - (pk16 t227 t228 t229 t230 t231 t232 t233 t234 t235 t236 t237 t238 t239 t240 t241 t242 ((rd_T46 l0 x6_1).f1))) % 256) t231), .int .u8 (pt 5 ((rd_T46 l0 x6_1).f1) ((1 - (pk16 t227 t228 t229 t230 t231 t232 t233 t234 t235 t236 t237 t238 t239 t240 t241 t242 ((rd_T46 l0 x6_1).f1))) % 256) t232), .int .u8 (pt 6 ((rd_T46 l0 x6_1).f1) ((1 - (pk16 t227 t228 t229 t230 t231 t232 t233 t234 t235 t236 t237 t238 t239 t240 t241 t242 ((rd_T46 l0 x6_1).f1))) % 256) t233), .int .u8 (pt 7 ((rd_T46 l0 x6_1).f1) ((1 - (pk16 t227 t228 t229 t230 t231 t232 t233 t234 t235 t236 t237 t238 t239 t240 t241 t242 ((rd_T46 l0 x6_1).f1))) % 256) t234), .int .u8 (pt 8 ((rd_T46 l0 x6_1).f1) ((1 - (pk16 t227 t228 t229 t230 t231 t232 t233 t234 t235 t236 t237 t238 t239 t240 t241 t242 ((rd_T46 l0 x6_1).f1))) % 256) t235), .int .u8 (pt 9 ((rd_T46 l0 x6_1).f1) ((1 - (pk16 t227 t228 t229 t230 t231 t232 t233 t234 t235 t236 t237 t238 t239 t240 t241 t242 ((rd_T46 l0 x6_1).f1))) % 256) t236), .int .u8 (pt 10 ((rd_T46 l0 x6_1).f1) ((1 - (pk16 t227 t228 t229 t230 t231 t232 t233 t234 t235 t236 t237 t238 t239 t240 t241 t242 ((rd_T46 l0 x6_1).f1))) % 256) t237), .int .u8 (pt 11 ((rd_T46 l0 x6_1).f1) ((1 - (pk16 t227 t228 t229 t230 t231 t232 t233 t234 t235 t236 t237 t238 t239 t240 t241 t242 ((rd_T46 l0 x6_1).f1))) % 256) t238), .int .u8 (pt 12 ((rd_T46 l0 x6_1).f1) ((1 - (pk16 t227 t228 t229 t230 t231 t232 t233 t234 t235 t236 t237 t238 t239 t240 t241 t242 ((rd_T46 l0 x6_1).f1))) % 256) t239), .int .u8 (pt 13 ((rd_T46 l0 x6_1).f1) ((1 - (pk16 t227 t228 t229 t230 t231 t232 t233 t234 t235 t236 t237 t238 t239 t240 t241 t242 ((rd_T46 l0 x6_1).f1))) % 256) t240), .int .u8 (pt 14 ((rd_T46 l0 x6_1).f1) ((1 - (pk16 t227 t228 t229 t230 t231 t232 t233 t234 t235 t236 t237 t238 t239 t240 t241 t242 ((rd_T46 l0 x6_1).f1))) % 256) t241), .int .u8 (pt 15 ((rd_T46 l0 x6_1).f1) ((1 - (pk16 t227 t228 t229 t230 t231 t232 t233 t234 t235 t236 t237 t238 t239 t240 t241 t242 ((rd_T46 l0 x6_1).f1))) % 256) t242)] 22 (0, 0))) := ⟨by (with_reducible repeat (first | refine blk_drewN ?_ _ | refine blk_drew ?_ | refine blk_alloc ?_ _)); refine blk_put (cs := #[.int .u8 t227, .int .u8 t228, .int .u8 t229, .int .u8 t230, .int .u8 t231, .int .u8 t232, .int .u8 t233, .int .u8 t234, .int .u8 t235, .int .u8 t236, .int .u8 t237, .int .u8 t238, .int .u8 t239, .int .u8 t240, .int .u8 t241, .int .u8 t242]) ?_ ((((rd_T46 l0 x6_1).f1)).toNat) _ (putA22_0_0 ((rd_T46 l0 x6_1).f1) (of_decide_eq_true (by first | (with_reducible assumption) | assumption)) (of_decide_eq_true (by first | (with_reducible assumption) | assumption)) ((1 - (pk16 t227 t228 t229 t230 t231 t232 t233 t234 t235 t236 t237 t238 t239 t240 t241 t242 ((rd_T46 l0 x6_1).f1))) % 256)); (with_reducible repeat (first | refine blk_drewN ?_ _ | refine blk_drew ?_ | refine blk_alloc ?_ _)); exact BK245.out⟩
                  have n5_ : Aside0 (Below w.heap.size w (w17.setCell ⟨gb245, (((rd_T46 l0 x6_1).f1)).toNat, none⟩ (.int .u8 ((1 - (pk16 t227 t228 t229 t230 t231 t232 t233 t234 t235 t236 t237 t238 t239 t240 t241 t242 ((rd_T46 l0 x6_1).f1))) % 256)))) := ⟨by repeat (first | (with_reducible first | exact HB.out | apply below_alloc | apply pw_below_drewN | apply below_drew1 | refine below_set ?_ GE217.out | refine below_set ?_ GE244.out | refine below_set ?_ GE245.out) | exact HB.out)⟩
                  (try clear HO_3)
                  (try clear HO_4)
                  (try clear BK217)
                  (try clear BK244)
                  (try clear BK245)
                  (try clear HB)
                  (try rw [show ∀ n : Int, IntKind.u8.wrap n = n % 256 from fun n => IntKind.wrap_u8 n])
                  generalize (w17.setCell ⟨gb245, (((rd_T46 l0 x6_1).f1)).toNat, none⟩ (.int .u8 ((1 - (pk16 t227 t228 t229 t230 t231 t232 t233 t234 t235 t236 t237 t238 t239 t240 t241 t242 ((rd_T46 l0 x6_1).f1))) % 256))) = w19 at n0_ n1_ n2_ n3_ n4_ n5_ ⊢
                  have HO_3 := n0_
                  have HO_4 := n1_
                  have BK217 := n2_
                  have BK244 := n3_
                  have BK245 := n4_
                  have HB := n5_
                  clear n0_ n1_ n2_ n3_ n4_ n5_
                  try go_wp2
                  go_meet
                  case rel => exact ⟨_, (pt 0 ((rd_T46 l0 x6_1).f1) ((1 - (pk16 t227 t228 t229 t230 t231 t232 t233 t234 t235 t236 t237 t238 t239 t240 t241 t242 ((rd_T46 l0 x6_1).f1))) % 256) t227), (pt 1 ((rd_T46 l0 x6_1).f1) ((1 - (pk16 t227 t228 t229 t230 t231 t232 t233 t234 t235 t236 t237 t238 t239 t240 t241 t242 ((rd_T46 l0 x6_1).f1))) % 256) t228), (pt 2 ((rd_T46 l0 x6_1).f1) ((1 - (pk16 t227 t228 t229 t230 t231 t232 t233 t234 t235 t236 t237 t238 t239 t240 t241 t242 ((rd_T46 l0 x6_1).f1))) % 256) t229), (pt 3 ((rd_T46 l0 x6_1).f1) ((1 - (pk16 t227 t228 t229 t230 t231 t232 t233 t234 t235 t236 t237 t238 t239 t240 t241 t242 ((rd_T46 l0 x6_1).f1))) % 256) t230), (pt 4 ((rd_T46 l0 x6_1).f1) ((1 - (pk16 t227 t228 t229 t230 t231 t232 t233 t234 t235 t236 t237 t238 t239 t240 t241 t242 ((rd_T46 l0 x6_1).f1))) % 256) t231), (pt 5 ((rd_T46 l0 x6_1).f1) ((1 - (pk16 t227 t228 t229 t230 t231 t232 t233 t234 t235 t236 t237 t238 t239 t240 t241 t242 ((rd_T46 l0 x6_1).f1))) % 256) t232), (pt 6 ((rd_T46 l0 x6_1).f1) ((1 - (pk16 t227 t228 t229 t230 t231 t232 t233 t234 t235 t236 t237 t238 t239 t240 t241 t242 ((rd_T46 l0 x6_1).f1))) % 256) t233), (pt 7 ((rd_T46 l0 x6_1).f1) ((1 - (pk16 t227 t228 t229 t230 t231 t232 t233 t234 t235 t236 t237 t238 t239 t240 t241 t242 ((rd_T46 l0 x6_1).f1))) % 256) t234), (pt 8 ((rd_T46 l0 x6_1).f1) ((1 - (pk16 t227 t228 t229 t230 t231 t232 t233 t234 t235 t236 t237 t238 t239 t240 t241 t242 ((rd_T46 l0 x6_1).f1))) % 256) t235), (pt 9 ((rd_T46 l0 x6_1).f1) ((1 - (pk16 t227 t228 t229 t230 t231 t232 t233 t234 t235 t236 t237 t238 t239 t240 t241 t242 ((rd_T46 l0 x6_1).f1))) % 256) t236), (pt 10 ((rd_T46 l0 x6_1).f1) ((1 - (pk16 t227 t228 t229 t230 t231 t232 t233 t234 t235 t236 t237 t238 t239 t240 t241 t242 ((rd_T46 l0 x6_1).f1))) % 256) t237), (pt 11 ((rd_T46 l0 x6_1).f1) ((1 - (pk16 t227 t228 t229 t230 t231 t232 t233 t234 t235 t236 t237 t238 t239 t240 t241 t242 ((rd_T46 l0 x6_1).f1))) % 256) t238), (pt 12 ((rd_T46 l0 x6_1).f1) ((1 - (pk16 t227 t228 t229 t230 t231 t232 t233 t234 t235 t236 t237 t238 t239 t240 t241 t242 ((rd_T46 l0 x6_1).f1))) % 256) t239), (pt 13 ((rd_T46 l0 x6_1).f1) ((1 - (pk16 t227 t228 t229 t230 t231 t232 t233 t234 t235 t236 t237 t238 t239 t240 t241 t242 ((rd_T46 l0 x6_1).f1))) % 256) t240), (pt 14 ((rd_T46 l0 x6_1).f1) ((1 - (pk16 t227 t228 t229 t230 t231 t232 t233 t234 t235 t236 t237 t238 t239 t240 t241 t242 ((rd_T46 l0 x6_1).f1))) % 256) t241), (pt 15 ((rd_T46 l0 x6_1).f1) ((1 - (pk16 t227 t228 t229 t230 t231 t232 t233 t234 t235 t236 t237 t238 t239 t240 t241 t242 ((rd_T46 l0 x6_1).f1))) % 256) t242), H', ⟨by have := HK1.out; first | omega | exact Nat.le_refl _⟩, ⟨by (with_reducible repeat (first | apply Kd.R_alloc | apply Kd.R_drewN | apply Kd.R_drew)); exact HO_3.out⟩, ⟨by (with_reducible repeat (first | apply Kd.R_alloc | apply Kd.R_drewN | apply Kd.R_drew)); exact HO_4.out⟩, ⟨by (with_reducible repeat (first | refine blk_drewN ?_ _ | refine blk_drew ?_ | refine blk_alloc ?_ _)); exact BK217.out⟩, ⟨by (with_reducible repeat (first | refine blk_drewN ?_ _ | refine blk_drew ?_ | refine blk_alloc ?_ _)); exact BK244.out⟩, ⟨by (with_reducible repeat (first | refine blk_drewN ?_ _ | refine blk_drew ?_ | refine blk_alloc ?_ _)); exact BK245.out⟩, ⟨by repeat (first | (with_reducible first | exact HB.out | apply below_alloc | apply pw_below_drewN | apply below_drew1 | refine below_set ?_ GE217.out | refine below_set ?_ GE244.out | refine below_set ?_ GE245.out) | exact HB.out)⟩⟩
                · rw [if_neg c16] at H
                  exact absurd H (by simp)
              · rw [if_neg c15] at H
                have c15b0 : decide (((rd_T46 l0 x6_1).f1) < 16) = false := decide_eq_false c15
                clear c15
                (first | rw [c15b0] | (simp only [i64_w, i32_w]; rw [c15b0]) | rw [c15b1] | skip)
                have H' := Aside0.mk H
                clear H
                go_wp2
                go_meet
                case rel => exact ⟨_, (t227), (t228), (t229), (t230), (t231), (t232), (t233), (t234), (t235), (t236), (t237), (t238), (t239), (t240), (t241), (t242), H', ⟨by have := HK1.out; first | omega | exact Nat.le_refl _⟩, ⟨by (with_reducible repeat (first | apply Kd.R_alloc | apply Kd.R_drewN | apply Kd.R_drew)); exact Kd.R_mono HO_3.out (fun _ hk => ⟨hk.1.2, hk.2⟩)⟩, ⟨by (with_reducible repeat (first | apply Kd.R_alloc | apply Kd.R_drewN | apply Kd.R_drew)); exact HO_4.out⟩, ⟨by (with_reducible repeat (first | refine blk_drewN ?_ _ | refine blk_drew ?_ | refine blk_alloc ?_ _)); exact BK217.out⟩, ⟨by (with_reducible repeat (first | refine blk_drewN ?_ _ | refine blk_drew ?_ | refine blk_alloc ?_ _)); exact BK244.out⟩, ⟨by (with_reducible repeat (first | refine blk_drewN ?_ _ | refine blk_drew ?_ | refine blk_alloc ?_ _)); exact BK245.out⟩, ⟨by repeat (first | (with_reducible first | exact HB.out | apply below_alloc | apply pw_below_drewN | apply below_drew1 | refine below_set ?_ GE217.out | refine below_set ?_ GE244.out | refine below_set ?_ GE245.out) | exact HB.out)⟩⟩
            case rest =>
              clear HC9
              try clear c1
              try clear c2
              try clear c2b0
              try clear c2b1
              try clear c2b2
              try clear p2
              try clear q2
              try clear hx2
              try clear c6
              try clear c6b0
              try clear p6
              try clear c7
              try clear c7b0
              try clear c8
              try clear c11
              try clear c15
              try clear c15b0
              try clear c15b1
              try clear c16
              try clear c16b0
              try clear hx226_0
              try clear hx226_1
              try clear hx226_2
              try clear hx226_3
              try clear hx246_0
              try clear hx246_1
              try clear hx246_2
              try clear hx246_3
              try clear hx247_0
              try clear hx247_1
              try clear hx247_2
              try clear hx247_3
              try clear hx248_0
              try clear hx248_1
              try clear hx248_2
              try clear hx248_3
              try clear p2
              try clear p226
              try clear p246
              try clear p247
              try clear p248
              try clear q226
              try clear q246
              try clear q247
              try clear q248
              obtain ⟨kq, x246000_8, x246001_8, x246002_8, x246003_8, x246004_8, x246005_8, x246006_8, x246007_8, x246008_8, x246009_8, x246010_8, x246011_8, x246012_8, x246013_8, x246014_8, x246015_8, HA, HJ8, HO_3, HO_4, BK217, BK244, BK245, HB⟩ := hcut
              cases kq with
              | zero => exact absurd HA.out (by simp [perilunelaw32_UplinkDamage.j1])
              | succ kj8 =>
                have H := HA.out
                clear HA
                simp only [perilunelaw32_UplinkDamage.j1] at H
                have HC20 := Aside0.mk H
                clear H
                go_upto_region 14 with (fail)
                go_cut [75] (fun v75 wc => ∃ (kq : Nat) (x75_19 : Bool), v75 = .bool x75_19 ∧ Aside0 (perilunelaw32_UplinkDamage.j2 kq l0 x3_1 x4_1 x6_1 (Int.tmod (wrap64 ((rd_T46 l0 x6_1).f0)) 32) x75_19 x218000_1 x218001_1 t227 t228 t229 t230 t231 t232 t233 t234 t235 t236 t237 t238 t239 t240 t241 t242 x246000_8 x246001_8 x246002_8 x246003_8 x246004_8 x246005_8 x246006_8 x246007_8 x246008_8 x246009_8 x246010_8 x246011_8 x246012_8 x246013_8 x246014_8 x246015_8 = some r) ∧ Aside0 (kq ≤ kj8) ∧ Aside0 (Kd.R k22 22 wc w.heap.size (fun k_ => k_ ≠ gb244 ∧ k_ ≠ gb245) u3 x3_1) ∧ Aside0 (Kd.R (Kd.int .i64) 3 wc w.heap.size (fun _ => True) u4 x4_1) ∧ Aside0 (wc.heap[gb217]? = some (.cells #[.bool x218000_1, .int .i64 x218001_1] 31 (0, 0))) ∧ Aside0 (wc.heap[gb244]? = some (.cells #[.int .u8 t227, .int .u8 t228, .int .u8 t229, .int .u8 t230, .int .u8 t231, .int .u8 t232, .int .u8 t233, .int .u8 t234, .int .u8 t235, .int .u8 t236, .int .u8 t237, .int .u8 t238, .int .u8 t239, .int .u8 t240, .int .u8 t241, .int .u8 t242] 22 (0, 0))) ∧ Aside0 (wc.heap[gb245]? = some (.cells #[.int .u8 x246000_8, .int .u8 x246001_8, .int .u8 x246002_8, .int .u8 x246003_8, .int .u8 x246004_8, .int .u8 x246005_8, .int .u8 x246006_8, .int .u8 x246007_8, .int .u8 x246008_8, .int .u8 x246009_8, .int .u8 x246010_8, .int .u8 x246011_8, .int .u8 x246012_8, .int .u8 x246013_8, .int .u8 x246014_8, .int .u8 x246015_8] 22 (0, 0))) ∧ Aside0 (Below w.heap.size w wc))
                case first =>
                  have H := HC20.out
                  clear HC20
                  by_cases c21 : 0 ≤ x6_1
                  · rw [if_pos c21] at H
                    have c21b0 : decide (0 ≤ x6_1) = true := decide_eq_true c21
                    clear c21
                    (first | rw [c21b0] | (simp only [i64_w, i32_w]; rw [c21b0]) | rw [c21b1] | skip)
                    by_cases c22 : x6_1 < (l0.length : Int)
                    · rw [if_pos c22] at H
                      have c22b0 : decide (x6_1 < (l0.length : Int)) = true := decide_eq_true c22
                      clear c22
                      by_cases c23 : ((rd_T46 l0 x6_1).f2) < 16
                      · rw [if_pos c23] at H
                        have c23b0 : decide (((rd_T46 l0 x6_1).f2) < 16) = true := decide_eq_true c23
                        clear c23
                        have H' := Aside0.mk H
                        clear H
                        try go_wp2
                        have n0_ := Aside0.mk (Kd.R_drew HO_3.out)
                        have n1_ := Aside0.mk (Kd.R_drew HO_4.out)
                        have n2_ := Aside0.mk (blk_drew BK217.out)
                        have n3_ := Aside0.mk (blk_drew BK244.out)
                        have n4_ := Aside0.mk (blk_drew BK245.out)
                        have n5_ := Aside0.mk (below_drew1 HB.out)
                        clear HO_3
                        clear HO_4
                        clear BK217
                        clear BK244
                        clear BK245
                        clear HB
                        have HO_3 := n0_
                        have HO_4 := n1_
                        have BK217 := n2_
                        have BK244 := n3_
                        have BK245 := n4_
                        have HB := n5_
                        clear n0_ n1_ n2_ n3_ n4_ n5_
                        have p252 : 0 ≤ (x6_1 : Int) := of_decide_eq_true (by first | (with_reducible assumption) | assumption)
                        have q252 : x6_1 < (l0.length : Int) := of_decide_eq_true (by first | (with_reducible assumption) | assumption)
                        obtain ⟨ad252, e252, hx252_0, hx252_1, hx252_2, hx252_3⟩ := at_T46 HR0.out x6_1 p252 q252
                        have hw252_3 := hx252_3
                        have hw252_2 := hx252_2
                        have hw252_1 := hx252_1
                        have hw252_0 := hx252_0
                        obtain rfl : ad226 = ad252 := (by injection e252)
                        replace hx252_0 := (HB.out.cell (World.block_lt_of_cell? w _ hx252_0)).trans hx252_0
                        replace hx252_1 := (HB.out.cell (World.block_lt_of_cell? w _ hx252_1)).trans hx252_1
                        replace hx252_2 := (HB.out.cell (World.block_lt_of_cell? w _ hx252_2)).trans hx252_2
                        replace hx252_3 := (HB.out.cell (World.block_lt_of_cell? w _ hx252_3)).trans hx252_3
                        replace p252 := eq_true p252
                        replace q252 := eq_true q252
                        have p253 : 0 ≤ (x6_1 : Int) := of_decide_eq_true (by first | (with_reducible assumption) | assumption)
                        have q253 : x6_1 < (l0.length : Int) := of_decide_eq_true (by first | (with_reducible assumption) | assumption)
                        obtain ⟨ad253, e253, hx253_0, hx253_1, hx253_2, hx253_3⟩ := at_T46 HR0.out x6_1 p253 q253
                        have hw253_3 := hx253_3
                        have hw253_2 := hx253_2
                        have hw253_1 := hx253_1
                        have hw253_0 := hx253_0
                        obtain rfl : ad226 = ad253 := (by injection e253)
                        replace hx253_0 := (HB.out.cell (World.block_lt_of_cell? w _ hx253_0)).trans hx253_0
                        replace hx253_1 := (HB.out.cell (World.block_lt_of_cell? w _ hx253_1)).trans hx253_1
                        replace hx253_2 := (HB.out.cell (World.block_lt_of_cell? w _ hx253_2)).trans hx253_2
                        replace hx253_3 := (HB.out.cell (World.block_lt_of_cell? w _ hx253_3)).trans hx253_3
                        replace p253 := eq_true p253
                        replace q253 := eq_true q253
                        have p254 : 0 ≤ (x6_1 : Int) := of_decide_eq_true (by first | (with_reducible assumption) | assumption)
                        have q254 : x6_1 < (l0.length : Int) := of_decide_eq_true (by first | (with_reducible assumption) | assumption)
                        obtain ⟨ad254, e254, hx254_0, hx254_1, hx254_2, hx254_3⟩ := at_T46 HR0.out x6_1 p254 q254
                        have hw254_3 := hx254_3
                        have hw254_2 := hx254_2
                        have hw254_1 := hx254_1
                        have hw254_0 := hx254_0
                        obtain rfl : ad226 = ad254 := (by injection e254)
                        replace hx254_0 := (HB.out.cell (World.block_lt_of_cell? w _ hx254_0)).trans hx254_0
                        replace hx254_1 := (HB.out.cell (World.block_lt_of_cell? w _ hx254_1)).trans hx254_1
                        replace hx254_2 := (HB.out.cell (World.block_lt_of_cell? w _ hx254_2)).trans hx254_2
                        replace hx254_3 := (HB.out.cell (World.block_lt_of_cell? w _ hx254_3)).trans hx254_3
                        replace p254 := eq_true p254
                        replace q254 := eq_true q254
                        refine start_ (n := 19) (S := fun w' => w'.cell? (ad226.add ((x6_1).toNat * 4)) = some (.int .u8 ((rd_T46 l0 x6_1).f0)) ∧ w'.cell? ⟨(ad226.add ((x6_1).toNat * 4)).block, (ad226.add ((x6_1).toNat * 4)).off + 1, none⟩ = some (.int .u8 ((rd_T46 l0 x6_1).f1)) ∧ w'.cell? ⟨(ad226.add ((x6_1).toNat * 4)).block, (ad226.add ((x6_1).toNat * 4)).off + 2, none⟩ = some (.int .u8 ((rd_T46 l0 x6_1).f2)) ∧ w'.cell? ⟨(ad226.add ((x6_1).toNat * 4)).block, (ad226.add ((x6_1).toNat * 4)).off + 3, none⟩ = some (.int .u16 ((rd_T46 l0 x6_1).f3)) ∧ w'.cell? (ad226.add ((x6_1).toNat * 4)) = some (.int .u8 ((rd_T46 l0 x6_1).f0)) ∧ w'.cell? ⟨(ad226.add ((x6_1).toNat * 4)).block, (ad226.add ((x6_1).toNat * 4)).off + 1, none⟩ = some (.int .u8 ((rd_T46 l0 x6_1).f1)) ∧ w'.cell? ⟨(ad226.add ((x6_1).toNat * 4)).block, (ad226.add ((x6_1).toNat * 4)).off + 2, none⟩ = some (.int .u8 ((rd_T46 l0 x6_1).f2)) ∧ w'.cell? ⟨(ad226.add ((x6_1).toNat * 4)).block, (ad226.add ((x6_1).toNat * 4)).off + 3, none⟩ = some (.int .u16 ((rd_T46 l0 x6_1).f3)) ∧ w'.cell? (ad226.add ((x6_1).toNat * 4)) = some (.int .u8 ((rd_T46 l0 x6_1).f0)) ∧ w'.cell? ⟨(ad226.add ((x6_1).toNat * 4)).block, (ad226.add ((x6_1).toNat * 4)).off + 1, none⟩ = some (.int .u8 ((rd_T46 l0 x6_1).f1)) ∧ w'.cell? ⟨(ad226.add ((x6_1).toNat * 4)).block, (ad226.add ((x6_1).toNat * 4)).off + 2, none⟩ = some (.int .u8 ((rd_T46 l0 x6_1).f2)) ∧ w'.cell? ⟨(ad226.add ((x6_1).toNat * 4)).block, (ad226.add ((x6_1).toNat * 4)).off + 3, none⟩ = some (.int .u16 ((rd_T46 l0 x6_1).f3))) (ds := []) #[false, false, false, false, false, false, false, false, false, false, false, false, false, false, false, false, false, false, false] (by kernel_rfl) rfl rfl ⟨((HB.out.cell (World.block_lt_of_cell? w _ hw252_0)).trans hw252_0), ((HB.out.cell (World.block_lt_of_cell? w _ hw252_1)).trans hw252_1), ((HB.out.cell (World.block_lt_of_cell? w _ hw252_2)).trans hw252_2), ((HB.out.cell (World.block_lt_of_cell? w _ hw252_3)).trans hw252_3), ((HB.out.cell (World.block_lt_of_cell? w _ hw253_0)).trans hw253_0), ((HB.out.cell (World.block_lt_of_cell? w _ hw253_1)).trans hw253_1), ((HB.out.cell (World.block_lt_of_cell? w _ hw253_2)).trans hw253_2), ((HB.out.cell (World.block_lt_of_cell? w _ hw253_3)).trans hw253_3), ((HB.out.cell (World.block_lt_of_cell? w _ hw254_0)).trans hw254_0), ((HB.out.cell (World.block_lt_of_cell? w _ hw254_1)).trans hw254_1), ((HB.out.cell (World.block_lt_of_cell? w _ hw254_2)).trans hw254_2), ((HB.out.cell (World.block_lt_of_cell? w _ hw254_3)).trans hw254_3)⟩ (fun hHeld => ?_); refine with_tabW perilunelaw32_UplinkDamage.tab14 perilunelaw32_UplinkDamage.bits14 (fun HT_ HW_ => ?_)
                        generalize wc.drew = w24 at HO_3 HO_4 BK217 BK244 BK245 HB hx252_0 hx252_1 hx252_2 hx252_3 hx253_0 hx253_1 hx253_2 hx253_3 hx254_0 hx254_1 hx254_2 hx254_3 hHeld ⊢
                        refine pure_ (i := 0) (N := some 57) (v := ?_) (a' := ?_) #[true, false, false, false, false, false, false, false, false, false, false, false, false, false, false, false, false, false, false] rfl rfl (any_of HT_.out (by kernel_rfl)) (fun _ _ _ h => h) (Or.inl ⟨by rfl, ?_⟩) ?_ ?_
                        rotate_left
                        · intro w'
                          go_simp
                          with_reducible rfl
                        rotate_left
                        · simp only [Act.put, List.setIfInBounds_toArray, List.set_cons_zero, List.set_cons_succ, i64_w, i32_w]
                          rfl
                        refine pure_ (i := 1) (N := some 58) (v := ?_) (a' := ?_) #[true, true, false, false, false, false, false, false, false, false, false, false, false, false, false, false, false, false, false] rfl rfl (any_of HT_.out (by kernel_rfl)) (fun _ _ _ h => h) (Or.inl ⟨by rfl, ?_⟩) ?_ ?_
                        rotate_left
                        · intro w'
                          go_simp
                          with_reducible rfl
                        rotate_left
                        · simp only [Act.put, List.setIfInBounds_toArray, List.set_cons_zero, List.set_cons_succ, i64_w, i32_w]
                          rfl
                        refine pure_ (i := 2) (N := some 59) (v := ?_) (a' := ?_) #[true, true, true, false, false, false, false, false, false, false, false, false, false, false, false, false, false, false, false] rfl rfl (any_of HT_.out (by kernel_rfl)) (fun _ _ _ h => h) (Or.inl ⟨by rfl, ?_⟩) ?_ ?_
                        rotate_left
                        · intro w'
                          go_simp
                          with_reducible rfl
                        rotate_left
                        · simp only [Act.put, List.setIfInBounds_toArray, List.set_cons_zero, List.set_cons_succ, i64_w, i32_w]
                          rfl
                        refine pure_ (i := 3) (N := some 60) (v := ?_) (a' := ?_) #[true, true, true, true, false, false, false, false, false, false, false, false, false, false, false, false, false, false, false] rfl rfl (any_of HT_.out (by kernel_rfl)) (fun _ _ _ h => h) (Or.inl ⟨by rfl, ?_⟩) ?_ ?_
                        rotate_left
                        · intro w'
                          go_simp
                          with_reducible rfl
                        rotate_left
                        · simp only [Act.put, List.setIfInBounds_toArray, List.set_cons_zero, List.set_cons_succ, i64_w, i32_w]
                          rfl
                        refine take_ (i := 4) (N := some 61) (v := ?_) (a' := ?_) #[true, true, true, true, true, false, false, false, false, false, false, false, false, false, false, false, false, false, false] rfl rfl (take_ofW HT_.out HW_.out (by kernel_rfl)) (fun _ _ _ h => h) (Or.inl ⟨by rfl, ?_⟩) hHeld ?_ ?_
                        rotate_left
                        · rintro w' ⟨s0, s1, s2, s3, s4, s5, s6, s7, s8, s9, s10, s11⟩
                          go_simp
                          with_reducible rfl
                        rotate_left
                        · simp only [Act.put, List.setIfInBounds_toArray, List.set_cons_zero, List.set_cons_succ, i64_w, i32_w]
                          rfl
                        refine pure_ (i := 5) (N := some 62) (v := ?_) (a' := ?_) #[true, true, true, true, true, true, false, false, false, false, false, false, false, false, false, false, false, false, false] rfl rfl (any_of HT_.out (by kernel_rfl)) (fun _ _ _ h => h) (Or.inl ⟨by rfl, ?_⟩) ?_ ?_
                        rotate_left
                        · intro w'
                          go_simp
                          with_reducible rfl
                        rotate_left
                        · simp only [Act.put, List.setIfInBounds_toArray, List.set_cons_zero, List.set_cons_succ, i64_w, i32_w]
                          rfl
                        refine pure_ (i := 6) (N := some 63) (v := ?_) (a' := ?_) #[true, true, true, true, true, true, true, false, false, false, false, false, false, false, false, false, false, false, false] rfl rfl (any_of HT_.out (by kernel_rfl)) (fun _ _ _ h => h) (Or.inl ⟨by rfl, ?_⟩) ?_ ?_
                        rotate_left
                        · intro w'
                          go_simp
                          with_reducible rfl
                        rotate_left
                        · simp only [Act.put, List.setIfInBounds_toArray, List.set_cons_zero, List.set_cons_succ, i64_w, i32_w]
                          rfl
                        refine pure_ (i := 7) (N := some 64) (v := ?_) (a' := ?_) #[true, true, true, true, true, true, true, true, false, false, false, false, false, false, false, false, false, false, false] rfl rfl (any_of HT_.out (by kernel_rfl)) (fun _ _ _ h => h) (Or.inl ⟨by rfl, ?_⟩) ?_ ?_
                        rotate_left
                        · intro w'
                          go_simp
                          with_reducible rfl
                        rotate_left
                        · simp only [Act.put, List.setIfInBounds_toArray, List.set_cons_zero, List.set_cons_succ, i64_w, i32_w]
                          rfl
                        refine pure_ (i := 8) (N := some 65) (v := ?_) (a' := ?_) #[true, true, true, true, true, true, true, true, true, false, false, false, false, false, false, false, false, false, false] rfl rfl (any_of HT_.out (by kernel_rfl)) (fun _ _ _ h => h) (Or.inl ⟨by rfl, ?_⟩) ?_ ?_
                        rotate_left
                        · intro w'
                          go_simp
                          with_reducible rfl
                        rotate_left
                        · simp only [Act.put, List.setIfInBounds_toArray, List.set_cons_zero, List.set_cons_succ, i64_w, i32_w]
                          rfl
                        refine pure_ (i := 9) (N := some 66) (v := ?_) (a' := ?_) #[true, true, true, true, true, true, true, true, true, true, false, false, false, false, false, false, false, false, false] rfl rfl (any_of HT_.out (by kernel_rfl)) (fun _ _ _ h => h) (Or.inl ⟨by rfl, ?_⟩) ?_ ?_
                        rotate_left
                        · intro w'
                          go_simp
                          with_reducible rfl
                        rotate_left
                        · simp only [Act.put, List.setIfInBounds_toArray, List.set_cons_zero, List.set_cons_succ, i64_w, i32_w]
                          rfl
                        refine pure_ (i := 10) (N := some 67) (v := ?_) (a' := ?_) #[true, true, true, true, true, true, true, true, true, true, true, false, false, false, false, false, false, false, false] rfl rfl (any_of HT_.out (by kernel_rfl)) (fun _ _ _ h => h) (Or.inl ⟨by rfl, ?_⟩) ?_ ?_
                        rotate_left
                        · intro w'
                          go_simp
                          with_reducible rfl
                        rotate_left
                        · simp only [Act.put, List.setIfInBounds_toArray, List.set_cons_zero, List.set_cons_succ, i64_w, i32_w]
                          rfl
                        refine pure_ (i := 12) (N := some 69) (v := ?_) (a' := ?_) #[true, true, true, true, true, true, true, true, true, true, true, false, true, false, false, false, false, false, false] rfl rfl (any_of HT_.out (by kernel_rfl)) (fun _ _ _ h => h) (Or.inl ⟨by rfl, ?_⟩) ?_ ?_
                        rotate_left
                        · intro w'
                          go_simp
                          with_reducible rfl
                        rotate_left
                        · simp only [Act.put, List.setIfInBounds_toArray, List.set_cons_zero, List.set_cons_succ, i64_w, i32_w]
                          rfl
                        refine pure_ (i := 13) (N := some 70) (v := ?_) (a' := ?_) #[true, true, true, true, true, true, true, true, true, true, true, false, true, true, false, false, false, false, false] rfl rfl (any_of HT_.out (by kernel_rfl)) (fun _ _ _ h => h) (Or.inl ⟨by rfl, ?_⟩) ?_ ?_
                        rotate_left
                        · intro w'
                          go_simp
                          with_reducible rfl
                        rotate_left
                        · simp only [Act.put, List.setIfInBounds_toArray, List.set_cons_zero, List.set_cons_succ, i64_w, i32_w]
                          rfl
                        refine pure_ (i := 14) (N := some 71) (v := ?_) (a' := ?_) #[true, true, true, true, true, true, true, true, true, true, true, false, true, true, true, false, false, false, false] rfl rfl (any_of HT_.out (by kernel_rfl)) (fun _ _ _ h => h) (Or.inl ⟨by rfl, ?_⟩) ?_ ?_
                        rotate_left
                        · intro w'
                          go_simp
                          with_reducible rfl
                        rotate_left
                        · simp only [Act.put, List.setIfInBounds_toArray, List.set_cons_zero, List.set_cons_succ, i64_w, i32_w]
                          rfl
                        refine pure_ (i := 15) (N := some 72) (v := ?_) (a' := ?_) #[true, true, true, true, true, true, true, true, true, true, true, false, true, true, true, true, false, false, false] rfl rfl (any_of HT_.out (by kernel_rfl)) (fun _ _ _ h => h) (Or.inl ⟨by rfl, ?_⟩) ?_ ?_
                        rotate_left
                        · intro w'
                          go_simp
                          with_reducible rfl
                        rotate_left
                        · simp only [Act.put, List.setIfInBounds_toArray, List.set_cons_zero, List.set_cons_succ, i64_w, i32_w]
                          rfl
                        refine take_ (i := 11) (N := some 68) (v := ?_) (a' := ?_) #[true, true, true, true, true, true, true, true, true, true, true, true, true, true, true, true, false, false, false] rfl rfl (take_ofW HT_.out HW_.out (by kernel_rfl)) (fun _ _ _ h => h) (Or.inl ⟨by rfl, ?_⟩) hHeld ?_ ?_
                        rotate_left
                        · rintro w' ⟨s0, s1, s2, s3, s4, s5, s6, s7, s8, s9, s10, s11⟩
                          go_simp
                          with_reducible rfl
                        rotate_left
                        · simp only [Act.put, List.setIfInBounds_toArray, List.set_cons_zero, List.set_cons_succ, i64_w, i32_w]
                          rfl
                        refine take_ (i := 16) (N := some 73) (v := ?_) (a' := ?_) #[true, true, true, true, true, true, true, true, true, true, true, true, true, true, true, true, true, false, false] rfl rfl (take_ofW HT_.out HW_.out (by kernel_rfl)) (fun _ _ _ h => h) (Or.inl ⟨by rfl, ?_⟩) hHeld ?_ ?_
                        rotate_left
                        · rintro w' ⟨s0, s1, s2, s3, s4, s5, s6, s7, s8, s9, s10, s11⟩
                          go_simp
                          with_reducible rfl
                        rotate_left
                        · simp only [Act.put, List.setIfInBounds_toArray, List.set_cons_zero, List.set_cons_succ, i64_w, i32_w]
                          rfl
                        refine pure_ (i := 17) (N := some 74) (v := ?_) (a' := ?_) #[true, true, true, true, true, true, true, true, true, true, true, true, true, true, true, true, true, true, false] rfl rfl (any_of HT_.out (by kernel_rfl)) (fun _ _ _ h => h) (Or.inl ⟨by rfl, ?_⟩) ?_ ?_
                        rotate_left
                        · intro w'
                          go_simp
                          with_reducible rfl
                        rotate_left
                        · simp only [Act.put, List.setIfInBounds_toArray, List.set_cons_zero, List.set_cons_succ, i64_w, i32_w]
                          rfl
                        refine pure_ (i := 18) (N := some 75) (v := ?_) (a' := ?_) #[true, true, true, true, true, true, true, true, true, true, true, true, true, true, true, true, true, true, true] rfl rfl (any_of HT_.out (by kernel_rfl)) (fun _ _ _ h => h) (Or.inl ⟨by rfl, ?_⟩) ?_ ?_
                        rotate_left
                        · intro w'
                          go_simp
                          with_reducible rfl
                        rotate_left
                        · simp only [Act.put, List.setIfInBounds_toArray, List.set_cons_zero, List.set_cons_succ, i64_w, i32_w]
                          rfl
                        refine done_ (done_of HT_.out (by kernel_rfl)) ?_
                        try go_wp2
                        go_meet
                        case rel => exact ⟨_, ((((rd_T46 l0 x6_1).f2) != ((rd_T46 l0 x6_1).f1))), (by first | rfl | (simp; done) | (simp [*]; done)), H', ⟨by have := HK1.out; have := HJ8.out; first | omega | exact Nat.le_refl _⟩, ⟨by (with_reducible repeat (first | apply Kd.R_alloc | apply Kd.R_drewN | apply Kd.R_drew)); exact HO_3.out⟩, ⟨by (with_reducible repeat (first | apply Kd.R_alloc | apply Kd.R_drewN | apply Kd.R_drew)); exact HO_4.out⟩, ⟨by (with_reducible repeat (first | refine blk_drewN ?_ _ | refine blk_drew ?_ | refine blk_alloc ?_ _)); exact BK217.out⟩, ⟨by (with_reducible repeat (first | refine blk_drewN ?_ _ | refine blk_drew ?_ | refine blk_alloc ?_ _)); exact BK244.out⟩, ⟨by (with_reducible repeat (first | refine blk_drewN ?_ _ | refine blk_drew ?_ | refine blk_alloc ?_ _)); exact BK245.out⟩, ⟨by repeat (first | (with_reducible first | exact HB.out | apply below_alloc | apply pw_below_drewN | apply below_drew1 | refine below_set ?_ GE217.out | refine below_set ?_ GE244.out | refine below_set ?_ GE245.out) | exact HB.out)⟩⟩
                      · rw [if_neg c23] at H
                        have c23b0 : decide (((rd_T46 l0 x6_1).f2) < 16) = false := decide_eq_false c23
                        clear c23
                        have H' := Aside0.mk H
                        clear H
                        try go_wp2
                        have n0_ := Aside0.mk (Kd.R_drew HO_3.out)
                        have n1_ := Aside0.mk (Kd.R_drew HO_4.out)
                        have n2_ := Aside0.mk (blk_drew BK217.out)
                        have n3_ := Aside0.mk (blk_drew BK244.out)
                        have n4_ := Aside0.mk (blk_drew BK245.out)
                        have n5_ := Aside0.mk (below_drew1 HB.out)
                        clear HO_3
                        clear HO_4
                        clear BK217
                        clear BK244
                        clear BK245
                        clear HB
                        have HO_3 := n0_
                        have HO_4 := n1_
                        have BK217 := n2_
                        have BK244 := n3_
                        have BK245 := n4_
                        have HB := n5_
                        clear n0_ n1_ n2_ n3_ n4_ n5_
                        have p252 : 0 ≤ (x6_1 : Int) := of_decide_eq_true (by first | (with_reducible assumption) | assumption)
                        have q252 : x6_1 < (l0.length : Int) := of_decide_eq_true (by first | (with_reducible assumption) | assumption)
                        obtain ⟨ad252, e252, hx252_0, hx252_1, hx252_2, hx252_3⟩ := at_T46 HR0.out x6_1 p252 q252
                        have hw252_3 := hx252_3
                        have hw252_2 := hx252_2
                        have hw252_1 := hx252_1
                        have hw252_0 := hx252_0
                        obtain rfl : ad226 = ad252 := (by injection e252)
                        replace hx252_0 := (HB.out.cell (World.block_lt_of_cell? w _ hx252_0)).trans hx252_0
                        replace hx252_1 := (HB.out.cell (World.block_lt_of_cell? w _ hx252_1)).trans hx252_1
                        replace hx252_2 := (HB.out.cell (World.block_lt_of_cell? w _ hx252_2)).trans hx252_2
                        replace hx252_3 := (HB.out.cell (World.block_lt_of_cell? w _ hx252_3)).trans hx252_3
                        replace p252 := eq_true p252
                        replace q252 := eq_true q252
                        refine start_ (n := 19) (S := fun w' => w'.cell? (ad226.add ((x6_1).toNat * 4)) = some (.int .u8 ((rd_T46 l0 x6_1).f0)) ∧ w'.cell? ⟨(ad226.add ((x6_1).toNat * 4)).block, (ad226.add ((x6_1).toNat * 4)).off + 1, none⟩ = some (.int .u8 ((rd_T46 l0 x6_1).f1)) ∧ w'.cell? ⟨(ad226.add ((x6_1).toNat * 4)).block, (ad226.add ((x6_1).toNat * 4)).off + 2, none⟩ = some (.int .u8 ((rd_T46 l0 x6_1).f2)) ∧ w'.cell? ⟨(ad226.add ((x6_1).toNat * 4)).block, (ad226.add ((x6_1).toNat * 4)).off + 3, none⟩ = some (.int .u16 ((rd_T46 l0 x6_1).f3))) (ds := []) #[false, false, false, false, false, false, false, false, false, false, false, false, false, false, false, false, false, false, false] (by kernel_rfl) rfl rfl ⟨((HB.out.cell (World.block_lt_of_cell? w _ hw252_0)).trans hw252_0), ((HB.out.cell (World.block_lt_of_cell? w _ hw252_1)).trans hw252_1), ((HB.out.cell (World.block_lt_of_cell? w _ hw252_2)).trans hw252_2), ((HB.out.cell (World.block_lt_of_cell? w _ hw252_3)).trans hw252_3)⟩ (fun hHeld => ?_); refine with_tabW perilunelaw32_UplinkDamage.tab14 perilunelaw32_UplinkDamage.bits14 (fun HT_ HW_ => ?_)
                        generalize wc.drew = w25 at HO_3 HO_4 BK217 BK244 BK245 HB hx252_0 hx252_1 hx252_2 hx252_3 hHeld ⊢
                        refine pure_ (i := 0) (N := some 57) (v := ?_) (a' := ?_) #[true, false, false, false, false, false, false, false, false, false, false, false, false, false, false, false, false, false, false] rfl rfl (any_of HT_.out (by kernel_rfl)) (fun _ _ _ h => h) (Or.inl ⟨by rfl, ?_⟩) ?_ ?_
                        rotate_left
                        · intro w'
                          go_simp
                          with_reducible rfl
                        rotate_left
                        · simp only [Act.put, List.setIfInBounds_toArray, List.set_cons_zero, List.set_cons_succ, i64_w, i32_w]
                          rfl
                        refine pure_ (i := 1) (N := some 58) (v := ?_) (a' := ?_) #[true, true, false, false, false, false, false, false, false, false, false, false, false, false, false, false, false, false, false] rfl rfl (any_of HT_.out (by kernel_rfl)) (fun _ _ _ h => h) (Or.inl ⟨by rfl, ?_⟩) ?_ ?_
                        rotate_left
                        · intro w'
                          go_simp
                          with_reducible rfl
                        rotate_left
                        · simp only [Act.put, List.setIfInBounds_toArray, List.set_cons_zero, List.set_cons_succ, i64_w, i32_w]
                          rfl
                        refine pure_ (i := 2) (N := some 59) (v := ?_) (a' := ?_) #[true, true, true, false, false, false, false, false, false, false, false, false, false, false, false, false, false, false, false] rfl rfl (any_of HT_.out (by kernel_rfl)) (fun _ _ _ h => h) (Or.inl ⟨by rfl, ?_⟩) ?_ ?_
                        rotate_left
                        · intro w'
                          go_simp
                          with_reducible rfl
                        rotate_left
                        · simp only [Act.put, List.setIfInBounds_toArray, List.set_cons_zero, List.set_cons_succ, i64_w, i32_w]
                          rfl
                        refine pure_ (i := 3) (N := some 60) (v := ?_) (a' := ?_) #[true, true, true, true, false, false, false, false, false, false, false, false, false, false, false, false, false, false, false] rfl rfl (any_of HT_.out (by kernel_rfl)) (fun _ _ _ h => h) (Or.inl ⟨by rfl, ?_⟩) ?_ ?_
                        rotate_left
                        · intro w'
                          go_simp
                          with_reducible rfl
                        rotate_left
                        · simp only [Act.put, List.setIfInBounds_toArray, List.set_cons_zero, List.set_cons_succ, i64_w, i32_w]
                          rfl
                        refine take_ (i := 4) (N := some 61) (v := ?_) (a' := ?_) #[true, true, true, true, true, false, false, false, false, false, false, false, false, false, false, false, false, false, false] rfl rfl (take_ofW HT_.out HW_.out (by kernel_rfl)) (fun _ _ _ h => h) (Or.inl ⟨by rfl, ?_⟩) hHeld ?_ ?_
                        rotate_left
                        · rintro w' ⟨s0, s1, s2, s3⟩
                          go_simp
                          with_reducible rfl
                        rotate_left
                        · simp only [Act.put, List.setIfInBounds_toArray, List.set_cons_zero, List.set_cons_succ, i64_w, i32_w]
                          rfl
                        refine pure_ (i := 5) (N := some 62) (v := ?_) (a' := ?_) #[true, true, true, true, true, true, false, false, false, false, false, false, false, false, false, false, false, false, false] rfl rfl (any_of HT_.out (by kernel_rfl)) (fun _ _ _ h => h) (Or.inl ⟨by rfl, ?_⟩) ?_ ?_
                        rotate_left
                        · intro w'
                          go_simp
                          with_reducible rfl
                        rotate_left
                        · simp only [Act.put, List.setIfInBounds_toArray, List.set_cons_zero, List.set_cons_succ, i64_w, i32_w]
                          rfl
                        refine pure_ (i := 6) (N := some 63) (v := ?_) (a' := ?_) #[true, true, true, true, true, true, true, false, false, false, false, false, false, false, false, false, false, false, false] rfl rfl (any_of HT_.out (by kernel_rfl)) (fun _ _ _ h => h) (Or.inl ⟨by rfl, ?_⟩) ?_ ?_
                        rotate_left
                        · intro w'
                          go_simp
                          with_reducible rfl
                        rotate_left
                        · simp only [Act.put, List.setIfInBounds_toArray, List.set_cons_zero, List.set_cons_succ, i64_w, i32_w]
                          rfl
                        refine pure_ (i := 7) (N := some 64) (v := undef) (a' := ?_) #[true, true, true, true, true, true, true, true, false, false, false, false, false, false, false, false, false, false, false] rfl rfl (any_of HT_.out (by kernel_rfl)) (fun _ _ _ h => h) (Or.inr ⟨by rfl, rfl⟩) ?_ ?_
                        rotate_left
                        · simp only [Act.put, List.setIfInBounds_toArray, List.set_cons_zero, List.set_cons_succ, i64_w, i32_w]
                          rfl
                        refine pure_ (i := 8) (N := some 65) (v := undef) (a' := ?_) #[true, true, true, true, true, true, true, true, true, false, false, false, false, false, false, false, false, false, false] rfl rfl (any_of HT_.out (by kernel_rfl)) (fun _ _ _ h => h) (Or.inr ⟨by rfl, rfl⟩) ?_ ?_
                        rotate_left
                        · simp only [Act.put, List.setIfInBounds_toArray, List.set_cons_zero, List.set_cons_succ, i64_w, i32_w]
                          rfl
                        refine pure_ (i := 9) (N := some 66) (v := undef) (a' := ?_) #[true, true, true, true, true, true, true, true, true, true, false, false, false, false, false, false, false, false, false] rfl rfl (any_of HT_.out (by kernel_rfl)) (fun _ _ _ h => h) (Or.inr ⟨by rfl, rfl⟩) ?_ ?_
                        rotate_left
                        · simp only [Act.put, List.setIfInBounds_toArray, List.set_cons_zero, List.set_cons_succ, i64_w, i32_w]
                          rfl
                        refine pure_ (i := 10) (N := some 67) (v := undef) (a' := ?_) #[true, true, true, true, true, true, true, true, true, true, true, false, false, false, false, false, false, false, false] rfl rfl (any_of HT_.out (by kernel_rfl)) (fun _ _ _ h => h) (Or.inr ⟨by rfl, rfl⟩) ?_ ?_
                        rotate_left
                        · simp only [Act.put, List.setIfInBounds_toArray, List.set_cons_zero, List.set_cons_succ, i64_w, i32_w]
                          rfl
                        refine pure_ (i := 11) (N := some 68) (v := undef) (a' := ?_) #[true, true, true, true, true, true, true, true, true, true, true, true, false, false, false, false, false, false, false] rfl rfl (any_of HT_.out (by kernel_rfl)) (fun _ _ _ h => h) (Or.inr ⟨by rfl, rfl⟩) ?_ ?_
                        rotate_left
                        · simp only [Act.put, List.setIfInBounds_toArray, List.set_cons_zero, List.set_cons_succ, i64_w, i32_w]
                          rfl
                        refine pure_ (i := 12) (N := some 69) (v := undef) (a' := ?_) #[true, true, true, true, true, true, true, true, true, true, true, true, true, false, false, false, false, false, false] rfl rfl (any_of HT_.out (by kernel_rfl)) (fun _ _ _ h => h) (Or.inr ⟨by rfl, rfl⟩) ?_ ?_
                        rotate_left
                        · simp only [Act.put, List.setIfInBounds_toArray, List.set_cons_zero, List.set_cons_succ, i64_w, i32_w]
                          rfl
                        refine pure_ (i := 13) (N := some 70) (v := undef) (a' := ?_) #[true, true, true, true, true, true, true, true, true, true, true, true, true, true, false, false, false, false, false] rfl rfl (any_of HT_.out (by kernel_rfl)) (fun _ _ _ h => h) (Or.inr ⟨by rfl, rfl⟩) ?_ ?_
                        rotate_left
                        · simp only [Act.put, List.setIfInBounds_toArray, List.set_cons_zero, List.set_cons_succ, i64_w, i32_w]
                          rfl
                        refine pure_ (i := 14) (N := some 71) (v := undef) (a' := ?_) #[true, true, true, true, true, true, true, true, true, true, true, true, true, true, true, false, false, false, false] rfl rfl (any_of HT_.out (by kernel_rfl)) (fun _ _ _ h => h) (Or.inr ⟨by rfl, rfl⟩) ?_ ?_
                        rotate_left
                        · simp only [Act.put, List.setIfInBounds_toArray, List.set_cons_zero, List.set_cons_succ, i64_w, i32_w]
                          rfl
                        refine pure_ (i := 15) (N := some 72) (v := undef) (a' := ?_) #[true, true, true, true, true, true, true, true, true, true, true, true, true, true, true, true, false, false, false] rfl rfl (any_of HT_.out (by kernel_rfl)) (fun _ _ _ h => h) (Or.inr ⟨by rfl, rfl⟩) ?_ ?_
                        rotate_left
                        · simp only [Act.put, List.setIfInBounds_toArray, List.set_cons_zero, List.set_cons_succ, i64_w, i32_w]
                          rfl
                        refine pure_ (i := 16) (N := some 73) (v := undef) (a' := ?_) #[true, true, true, true, true, true, true, true, true, true, true, true, true, true, true, true, true, false, false] rfl rfl (any_of HT_.out (by kernel_rfl)) (fun _ _ _ h => h) (Or.inr ⟨by rfl, rfl⟩) ?_ ?_
                        rotate_left
                        · simp only [Act.put, List.setIfInBounds_toArray, List.set_cons_zero, List.set_cons_succ, i64_w, i32_w]
                          rfl
                        refine pure_ (i := 17) (N := some 74) (v := undef) (a' := ?_) #[true, true, true, true, true, true, true, true, true, true, true, true, true, true, true, true, true, true, false] rfl rfl (any_of HT_.out (by kernel_rfl)) (fun _ _ _ h => h) (Or.inr ⟨by rfl, rfl⟩) ?_ ?_
                        rotate_left
                        · simp only [Act.put, List.setIfInBounds_toArray, List.set_cons_zero, List.set_cons_succ, i64_w, i32_w]
                          rfl
                        refine pure_ (i := 18) (N := some 75) (v := ?_) (a' := ?_) #[true, true, true, true, true, true, true, true, true, true, true, true, true, true, true, true, true, true, true] rfl rfl (any_of HT_.out (by kernel_rfl)) (fun _ _ _ h => h) (Or.inl ⟨by rfl, ?_⟩) ?_ ?_
                        rotate_left
                        · intro w'
                          go_simp
                          with_reducible rfl
                        rotate_left
                        · simp only [Act.put, List.setIfInBounds_toArray, List.set_cons_zero, List.set_cons_succ, i64_w, i32_w]
                          rfl
                        refine done_ (done_of HT_.out (by kernel_rfl)) ?_
                        try go_wp2
                        go_meet
                        case rel => exact ⟨_, (false), (by first | rfl | (simp; done) | (simp [*]; done)), H', ⟨by have := HK1.out; have := HJ8.out; first | omega | exact Nat.le_refl _⟩, ⟨by (with_reducible repeat (first | apply Kd.R_alloc | apply Kd.R_drewN | apply Kd.R_drew)); exact HO_3.out⟩, ⟨by (with_reducible repeat (first | apply Kd.R_alloc | apply Kd.R_drewN | apply Kd.R_drew)); exact HO_4.out⟩, ⟨by (with_reducible repeat (first | refine blk_drewN ?_ _ | refine blk_drew ?_ | refine blk_alloc ?_ _)); exact BK217.out⟩, ⟨by (with_reducible repeat (first | refine blk_drewN ?_ _ | refine blk_drew ?_ | refine blk_alloc ?_ _)); exact BK244.out⟩, ⟨by (with_reducible repeat (first | refine blk_drewN ?_ _ | refine blk_drew ?_ | refine blk_alloc ?_ _)); exact BK245.out⟩, ⟨by repeat (first | (with_reducible first | exact HB.out | apply below_alloc | apply pw_below_drewN | apply below_drew1 | refine below_set ?_ GE217.out | refine below_set ?_ GE244.out | refine below_set ?_ GE245.out) | exact HB.out)⟩⟩
                    · rw [if_neg c22] at H
                      exact absurd H (by simp)
                  · rw [if_neg c21] at H
                    exact absurd H (by simp)
                case rest =>
                  clear HC20
                  try clear c1
                  try clear c2
                  try clear c2b0
                  try clear c2b1
                  try clear c2b2
                  try clear p2
                  try clear q2
                  try clear hx2
                  try clear c6
                  try clear c6b0
                  try clear p6
                  try clear c7
                  try clear c7b0
                  try clear c8
                  try clear c11
                  try clear c15
                  try clear c15b0
                  try clear c15b1
                  try clear c16
                  try clear c16b0
                  try clear c21
                  try clear c21b0
                  try clear c21b1
                  try clear c22
                  try clear c22b0
                  try clear p22
                  try clear q22
                  try clear hx22
                  try clear c23
                  try clear c23b0
                  try clear p24
                  try clear q24
                  try clear hx24
                  try clear p25
                  try clear q25
                  try clear hx25
                  try clear hx226_0
                  try clear hx226_1
                  try clear hx226_2
                  try clear hx226_3
                  try clear hx246_0
                  try clear hx246_1
                  try clear hx246_2
                  try clear hx246_3
                  try clear hx247_0
                  try clear hx247_1
                  try clear hx247_2
                  try clear hx247_3
                  try clear hx248_0
                  try clear hx248_1
                  try clear hx248_2
                  try clear hx248_3
                  try clear hx252_0
                  try clear hx252_1
                  try clear hx252_2
                  try clear hx252_3
                  try clear hx253_0
                  try clear hx253_1
                  try clear hx253_2
                  try clear hx253_3
                  try clear hx254_0
                  try clear hx254_1
                  try clear hx254_2
                  try clear hx254_3
                  try clear p2
                  try clear p226
                  try clear p246
                  try clear p247
                  try clear p248
                  try clear p252
                  try clear p253
                  try clear p254
                  try clear p6
                  try clear q2
                  try clear q226
                  try clear q246
                  try clear q247
                  try clear q248
                  try clear q252
                  try clear q253
                  try clear q254
                  obtain ⟨kq, x75_19, rfl, HA, HJ19, HO_3, HO_4, BK217, BK244, BK245, HB⟩ := hcut
                  cases kq with
                  | zero => exact absurd HA.out (by simp [perilunelaw32_UplinkDamage.j2])
                  | succ kj19 =>
                    have H := HA.out
                    clear HA
                    simp only [perilunelaw32_UplinkDamage.j2] at H
                    have HC26 := Aside0.mk H
                    clear H
                    go_upto_if 75 with (fail)
                    go_cut [] (fun wc => ∃ (kq : Nat) (x246000_25 : Int) (x246001_25 : Int) (x246002_25 : Int) (x246003_25 : Int) (x246004_25 : Int) (x246005_25 : Int) (x246006_25 : Int) (x246007_25 : Int) (x246008_25 : Int) (x246009_25 : Int) (x246010_25 : Int) (x246011_25 : Int) (x246012_25 : Int) (x246013_25 : Int) (x246014_25 : Int) (x246015_25 : Int), Aside0 (perilunelaw32_UplinkDamage.j3 kq l0 x3_1 x4_1 x6_1 (Int.tmod (wrap64 ((rd_T46 l0 x6_1).f0)) 32) x218000_1 x218001_1 t227 t228 t229 t230 t231 t232 t233 t234 t235 t236 t237 t238 t239 t240 t241 t242 x246000_25 x246001_25 x246002_25 x246003_25 x246004_25 x246005_25 x246006_25 x246007_25 x246008_25 x246009_25 x246010_25 x246011_25 x246012_25 x246013_25 x246014_25 x246015_25 = some r) ∧ Aside0 (kq ≤ kj19) ∧ Aside0 (Kd.R k22 22 wc w.heap.size (fun k_ => k_ ≠ gb244 ∧ k_ ≠ gb245) u3 x3_1) ∧ Aside0 (Kd.R (Kd.int .i64) 3 wc w.heap.size (fun _ => True) u4 x4_1) ∧ Aside0 (wc.heap[gb217]? = some (.cells #[.bool x218000_1, .int .i64 x218001_1] 31 (0, 0))) ∧ Aside0 (wc.heap[gb244]? = some (.cells #[.int .u8 t227, .int .u8 t228, .int .u8 t229, .int .u8 t230, .int .u8 t231, .int .u8 t232, .int .u8 t233, .int .u8 t234, .int .u8 t235, .int .u8 t236, .int .u8 t237, .int .u8 t238, .int .u8 t239, .int .u8 t240, .int .u8 t241, .int .u8 t242] 22 (0, 0))) ∧ Aside0 (wc.heap[gb245]? = some (.cells #[.int .u8 x246000_25, .int .u8 x246001_25, .int .u8 x246002_25, .int .u8 x246003_25, .int .u8 x246004_25, .int .u8 x246005_25, .int .u8 x246006_25, .int .u8 x246007_25, .int .u8 x246008_25, .int .u8 x246009_25, .int .u8 x246010_25, .int .u8 x246011_25, .int .u8 x246012_25, .int .u8 x246013_25, .int .u8 x246014_25, .int .u8 x246015_25] 22 (0, 0))) ∧ Aside0 (Below w.heap.size w wc))
                    case first =>
                      have H := HC26.out
                      clear HC26
                      by_cases c27 : x75_19 = true
                      · subst c27
                        have H1 : (if 0 ≤ x6_1 then (if x6_1 < (l0.length : Int) then (if 0 ≤ ((rd_T46 l0 x6_1).f2) then (if ((rd_T46 l0 x6_1).f2) < 16 then (perilunelaw32_UplinkDamage.j3 kj19 l0 x3_1 x4_1 x6_1 (Int.tmod (wrap64 ((rd_T46 l0 x6_1).f0)) 32) x218000_1 x218001_1 t227 t228 t229 t230 t231 t232 t233 t234 t235 t236 t237 t238 t239 t240 t241 t242 (pt 0 ((rd_T46 l0 x6_1).f2) ((1 - (pk16 x246000_8 x246001_8 x246002_8 x246003_8 x246004_8 x246005_8 x246006_8 x246007_8 x246008_8 x246009_8 x246010_8 x246011_8 x246012_8 x246013_8 x246014_8 x246015_8 ((rd_T46 l0 x6_1).f2))) % 256) x246000_8) (pt 1 ((rd_T46 l0 x6_1).f2) ((1 - (pk16 x246000_8 x246001_8 x246002_8 x246003_8 x246004_8 x246005_8 x246006_8 x246007_8 x246008_8 x246009_8 x246010_8 x246011_8 x246012_8 x246013_8 x246014_8 x246015_8 ((rd_T46 l0 x6_1).f2))) % 256) x246001_8) (pt 2 ((rd_T46 l0 x6_1).f2) ((1 - (pk16 x246000_8 x246001_8 x246002_8 x246003_8 x246004_8 x246005_8 x246006_8 x246007_8 x246008_8 x246009_8 x246010_8 x246011_8 x246012_8 x246013_8 x246014_8 x246015_8 ((rd_T46 l0 x6_1).f2))) % 256) x246002_8) (pt 3 ((rd_T46 l0 x6_1).f2) ((1 - (pk16 x246000_8 x246001_8 x246002_8 x246003_8 x246004_8 x246005_8 x246006_8 x246007_8 x246008_8 x246009_8 x246010_8 x246011_8 x246012_8 x246013_8 x246014_8 x246015_8 ((rd_T46 l0 x6_1).f2))) % 256) x246003_8) (pt 4 ((rd_T46 l0 x6_1).f2) ((1 - (pk16 x246000_8 x246001_8 x246002_8 x246003_8 x246004_8 x246005_8 x246006_8 x246007_8 x246008_8 x246009_8 x246010_8 x246011_8 x246012_8 x246013_8 x246014_8 x246015_8 ((rd_T46 l0 x6_1).f2))) % 256) x246004_8) (pt 5 ((rd_T46 l0 x6_1).f2) ((1 - (pk16 x246000_8 x246001_8 x246002_8 x246003_8 x246004_8 x246005_8 x246006_8 x246007_8 x246008_8 x246009_8 x246010_8 x246011_8 x246012_8 x246013_8 x246014_8 x246015_8 ((rd_T46 l0 x6_1).f2))) % 256) x246005_8) (pt 6 ((rd_T46 l0 x6_1).f2) ((1 - (pk16 x246000_8 x246001_8 x246002_8 x246003_8 x246004_8 x246005_8 x246006_8 x246007_8 x246008_8 x246009_8 x246010_8 x246011_8 x246012_8 x246013_8 x246014_8 x246015_8 ((rd_T46 l0 x6_1).f2))) % 256) x246006_8) (pt 7 ((rd_T46 l0 x6_1).f2) ((1 - (pk16 x246000_8 x246001_8 x246002_8 x246003_8 x246004_8 x246005_8 x246006_8 x246007_8 x246008_8 x246009_8 x246010_8 x246011_8 x246012_8 x246013_8 x246014_8 x246015_8 ((rd_T46 l0 x6_1).f2))) % 256) x246007_8) (pt 8 ((rd_T46 l0 x6_1).f2) ((1 - (pk16 x246000_8 x246001_8 x246002_8 x246003_8 x246004_8 x246005_8 x246006_8 x246007_8 x246008_8 x246009_8 x246010_8 x246011_8 x246012_8 x246013_8 x246014_8 x246015_8 ((rd_T46 l0 x6_1).f2))) % 256) x246008_8) (pt 9 ((rd_T46 l0 x6_1).f2) ((1 - (pk16 x246000_8 x246001_8 x246002_8 x246003_8 x246004_8 x246005_8 x246006_8 x246007_8 x246008_8 x246009_8 x246010_8 x246011_8 x246012_8 x246013_8 x246014_8 x246015_8 ((rd_T46 l0 x6_1).f2))) % 256) x246009_8) (pt 10 ((rd_T46 l0 x6_1).f2) ((1 - (pk16 x246000_8 x246001_8 x246002_8 x246003_8 x246004_8 x246005_8 x246006_8 x246007_8 x246008_8 x246009_8 x246010_8 x246011_8 x246012_8 x246013_8 x246014_8 x246015_8 ((rd_T46 l0 x6_1).f2))) % 256) x246010_8) (pt 11 ((rd_T46 l0 x6_1).f2) ((1 - (pk16 x246000_8 x246001_8 x246002_8 x246003_8 x246004_8 x246005_8 x246006_8 x246007_8 x246008_8 x246009_8 x246010_8 x246011_8 x246012_8 x246013_8 x246014_8 x246015_8 ((rd_T46 l0 x6_1).f2))) % 256) x246011_8) (pt 12 ((rd_T46 l0 x6_1).f2) ((1 - (pk16 x246000_8 x246001_8 x246002_8 x246003_8 x246004_8 x246005_8 x246006_8 x246007_8 x246008_8 x246009_8 x246010_8 x246011_8 x246012_8 x246013_8 x246014_8 x246015_8 ((rd_T46 l0 x6_1).f2))) % 256) x246012_8) (pt 13 ((rd_T46 l0 x6_1).f2) ((1 - (pk16 x246000_8 x246001_8 x246002_8 x246003_8 x246004_8 x246005_8 x246006_8 x246007_8 x246008_8 x246009_8 x246010_8 x246011_8 x246012_8 x246013_8 x246014_8 x246015_8 ((rd_T46 l0 x6_1).f2))) % 256) x246013_8) (pt 14 ((rd_T46 l0 x6_1).f2) ((1 - (pk16 x246000_8 x246001_8 x246002_8 x246003_8 x246004_8 x246005_8 x246006_8 x246007_8 x246008_8 x246009_8 x246010_8 x246011_8 x246012_8 x246013_8 x246014_8 x246015_8 ((rd_T46 l0 x6_1).f2))) % 256) x246014_8) (pt 15 ((rd_T46 l0 x6_1).f2) ((1 - (pk16 x246000_8 x246001_8 x246002_8 x246003_8 x246004_8 x246005_8 x246006_8 x246007_8 x246008_8 x246009_8 x246010_8 x246011_8 x246012_8 x246013_8 x246014_8 x246015_8 ((rd_T46 l0 x6_1).f2))) % 256) x246015_8)) else (none)) else (none)) else (none)) else (none)) = some r := by rw [if_pos rfl] at H; exact H
                        clear H
                        have H := H1
                        clear H1
                        by_cases c28 : 0 ≤ x6_1
                        · rw [if_pos c28] at H
                          have c28b0 : decide (0 ≤ x6_1) = true := decide_eq_true c28
                          clear c28
                          (first | rw [c28b0] | (simp only [i64_w, i32_w]; rw [c28b0]) | rw [c28b1] | skip)
                          by_cases c29 : x6_1 < (l0.length : Int)
                          · rw [if_pos c29] at H
                            have c29b0 : decide (x6_1 < (l0.length : Int)) = true := decide_eq_true c29
                            clear c29
                            by_cases c30 : 0 ≤ ((rd_T46 l0 x6_1).f2)
                            · rw [if_pos c30] at H
                              have c30b0 : decide (0 ≤ ((rd_T46 l0 x6_1).f2)) = true := decide_eq_true c30
                              clear c30
                              by_cases c31 : ((rd_T46 l0 x6_1).f2) < 16
                              · rw [if_pos c31] at H
                                have c31b0 : decide (((rd_T46 l0 x6_1).f2) < 16) = true := decide_eq_true c31
                                clear c31
                                have H' := Aside0.mk H
                                clear H
                                try go_wp2
                                have n0_ := Aside0.mk (Kd.R_drew HO_3.out)
                                have n1_ := Aside0.mk (Kd.R_drew HO_4.out)
                                have n2_ := Aside0.mk (blk_drew BK217.out)
                                have n3_ := Aside0.mk (blk_drew BK244.out)
                                have n4_ := Aside0.mk (blk_drew BK245.out)
                                have n5_ := Aside0.mk (below_drew1 HB.out)
                                clear HO_3
                                clear HO_4
                                clear BK217
                                clear BK244
                                clear BK245
                                clear HB
                                have HO_3 := n0_
                                have HO_4 := n1_
                                have BK217 := n2_
                                have BK244 := n3_
                                have BK245 := n4_
                                have HB := n5_
                                clear n0_ n1_ n2_ n3_ n4_ n5_
                                have p255 : 0 ≤ (x6_1 : Int) := of_decide_eq_true (by first | (with_reducible assumption) | assumption)
                                have q255 : x6_1 < (l0.length : Int) := of_decide_eq_true (by first | (with_reducible assumption) | assumption)
                                obtain ⟨ad255, e255, hx255_0, hx255_1, hx255_2, hx255_3⟩ := at_T46 HR0.out x6_1 p255 q255
                                have hw255_3 := hx255_3
                                have hw255_2 := hx255_2
                                have hw255_1 := hx255_1
                                have hw255_0 := hx255_0
                                obtain rfl : ad226 = ad255 := (by injection e255)
                                replace hx255_0 := (HB.out.cell (World.block_lt_of_cell? w _ hx255_0)).trans hx255_0
                                replace hx255_1 := (HB.out.cell (World.block_lt_of_cell? w _ hx255_1)).trans hx255_1
                                replace hx255_2 := (HB.out.cell (World.block_lt_of_cell? w _ hx255_2)).trans hx255_2
                                replace hx255_3 := (HB.out.cell (World.block_lt_of_cell? w _ hx255_3)).trans hx255_3
                                replace p255 := eq_true p255
                                replace q255 := eq_true q255
                                have p256 : 0 ≤ (x6_1 : Int) := of_decide_eq_true (by first | (with_reducible assumption) | assumption)
                                have q256 : x6_1 < (l0.length : Int) := of_decide_eq_true (by first | (with_reducible assumption) | assumption)
                                obtain ⟨ad256, e256, hx256_0, hx256_1, hx256_2, hx256_3⟩ := at_T46 HR0.out x6_1 p256 q256
                                have hw256_3 := hx256_3
                                have hw256_2 := hx256_2
                                have hw256_1 := hx256_1
                                have hw256_0 := hx256_0
                                obtain rfl : ad226 = ad256 := (by injection e256)
                                replace hx256_0 := (HB.out.cell (World.block_lt_of_cell? w _ hx256_0)).trans hx256_0
                                replace hx256_1 := (HB.out.cell (World.block_lt_of_cell? w _ hx256_1)).trans hx256_1
                                replace hx256_2 := (HB.out.cell (World.block_lt_of_cell? w _ hx256_2)).trans hx256_2
                                replace hx256_3 := (HB.out.cell (World.block_lt_of_cell? w _ hx256_3)).trans hx256_3
                                replace p256 := eq_true p256
                                replace q256 := eq_true q256
                                have vp257 : (0 ≤ (((rd_T46 l0 x6_1).f2) : Int)) = True := eq_true (of_decide_eq_true (by first | (with_reducible assumption) | assumption))
                                have vq257 : ((((rd_T46 l0 x6_1).f2) : Int) < (16 : Int)) = True := eq_true (of_decide_eq_true (by first | (with_reducible assumption) | assumption))
                                have vp259 : (0 ≤ (((rd_T46 l0 x6_1).f2) : Int)) = True := eq_true (of_decide_eq_true (by first | (with_reducible assumption) | assumption))
                                have vq259 : ((((rd_T46 l0 x6_1).f2) : Int) < (16 : Int)) = True := eq_true (of_decide_eq_true (by first | (with_reducible assumption) | assumption))
                                refine start_ (n := 15) (S := fun w' => w'.cell? (ad226.add ((x6_1).toNat * 4)) = some (.int .u8 ((rd_T46 l0 x6_1).f0)) ∧ w'.cell? ⟨(ad226.add ((x6_1).toNat * 4)).block, (ad226.add ((x6_1).toNat * 4)).off + 1, none⟩ = some (.int .u8 ((rd_T46 l0 x6_1).f1)) ∧ w'.cell? ⟨(ad226.add ((x6_1).toNat * 4)).block, (ad226.add ((x6_1).toNat * 4)).off + 2, none⟩ = some (.int .u8 ((rd_T46 l0 x6_1).f2)) ∧ w'.cell? ⟨(ad226.add ((x6_1).toNat * 4)).block, (ad226.add ((x6_1).toNat * 4)).off + 3, none⟩ = some (.int .u16 ((rd_T46 l0 x6_1).f3)) ∧ w'.cell? (ad226.add ((x6_1).toNat * 4)) = some (.int .u8 ((rd_T46 l0 x6_1).f0)) ∧ w'.cell? ⟨(ad226.add ((x6_1).toNat * 4)).block, (ad226.add ((x6_1).toNat * 4)).off + 1, none⟩ = some (.int .u8 ((rd_T46 l0 x6_1).f1)) ∧ w'.cell? ⟨(ad226.add ((x6_1).toNat * 4)).block, (ad226.add ((x6_1).toNat * 4)).off + 2, none⟩ = some (.int .u8 ((rd_T46 l0 x6_1).f2)) ∧ w'.cell? ⟨(ad226.add ((x6_1).toNat * 4)).block, (ad226.add ((x6_1).toNat * 4)).off + 3, none⟩ = some (.int .u16 ((rd_T46 l0 x6_1).f3)) ∧ w'.cell? ⟨gb245, (((rd_T46 l0 x6_1).f2)).toNat, none⟩ = some (.int .u8 (pk16 x246000_8 x246001_8 x246002_8 x246003_8 x246004_8 x246005_8 x246006_8 x246007_8 x246008_8 x246009_8 x246010_8 x246011_8 x246012_8 x246013_8 x246014_8 x246015_8 ((rd_T46 l0 x6_1).f2)))) (ds := [14]) #[false, false, false, false, false, false, false, false, false, false, false, false, false, false, false] (by kernel_rfl) rfl rfl ⟨((HB.out.cell (World.block_lt_of_cell? w _ hw255_0)).trans hw255_0), ((HB.out.cell (World.block_lt_of_cell? w _ hw255_1)).trans hw255_1), ((HB.out.cell (World.block_lt_of_cell? w _ hw255_2)).trans hw255_2), ((HB.out.cell (World.block_lt_of_cell? w _ hw255_3)).trans hw255_3), ((HB.out.cell (World.block_lt_of_cell? w _ hw256_0)).trans hw256_0), ((HB.out.cell (World.block_lt_of_cell? w _ hw256_1)).trans hw256_1), ((HB.out.cell (World.block_lt_of_cell? w _ hw256_2)).trans hw256_2), ((HB.out.cell (World.block_lt_of_cell? w _ hw256_3)).trans hw256_3), cellA22_0_0 (((rd_T46 l0 x6_1).f2)) (of_decide_eq_true (by first | (with_reducible assumption) | assumption)) (of_decide_eq_true (by first | (with_reducible assumption) | assumption)) BK245.out⟩ (fun hHeld => ?_); refine with_tabW perilunelaw32_UplinkDamage.tab15 perilunelaw32_UplinkDamage.bits15 (fun HT_ HW_ => ?_)
                                generalize wc.drew = w32 at HO_3 HO_4 BK217 BK244 BK245 HB hx255_0 hx255_1 hx255_2 hx255_3 hx256_0 hx256_1 hx256_2 hx256_3 hHeld ⊢
                                refine pure_ (i := 0) (N := some 76) (v := ?_) (a' := ?_) #[true, false, false, false, false, false, false, false, false, false, false, false, false, false, false] rfl rfl (any_of HT_.out (by kernel_rfl)) (fun _ _ _ h => h) (Or.inl ⟨by rfl, ?_⟩) ?_ ?_
                                rotate_left
                                · intro w'
                                  go_simp
                                  with_reducible rfl
                                rotate_left
                                · simp only [Act.put, List.setIfInBounds_toArray, List.set_cons_zero, List.set_cons_succ, i64_w, i32_w]
                                  rfl
                                refine pure_ (i := 1) (N := some 77) (v := ?_) (a' := ?_) #[true, true, false, false, false, false, false, false, false, false, false, false, false, false, false] rfl rfl (any_of HT_.out (by kernel_rfl)) (fun _ _ _ h => h) (Or.inl ⟨by rfl, ?_⟩) ?_ ?_
                                rotate_left
                                · intro w'
                                  go_simp
                                  with_reducible rfl
                                rotate_left
                                · simp only [Act.put, List.setIfInBounds_toArray, List.set_cons_zero, List.set_cons_succ, i64_w, i32_w]
                                  rfl
                                refine pure_ (i := 2) (N := some 78) (v := ?_) (a' := ?_) #[true, true, true, false, false, false, false, false, false, false, false, false, false, false, false] rfl rfl (any_of HT_.out (by kernel_rfl)) (fun _ _ _ h => h) (Or.inl ⟨by rfl, ?_⟩) ?_ ?_
                                rotate_left
                                · intro w'
                                  go_simp
                                  with_reducible rfl
                                rotate_left
                                · simp only [Act.put, List.setIfInBounds_toArray, List.set_cons_zero, List.set_cons_succ, i64_w, i32_w]
                                  rfl
                                refine pure_ (i := 3) (N := some 79) (v := ?_) (a' := ?_) #[true, true, true, true, false, false, false, false, false, false, false, false, false, false, false] rfl rfl (any_of HT_.out (by kernel_rfl)) (fun _ _ _ h => h) (Or.inl ⟨by rfl, ?_⟩) ?_ ?_
                                rotate_left
                                · intro w'
                                  go_simp
                                  with_reducible rfl
                                rotate_left
                                · simp only [Act.put, List.setIfInBounds_toArray, List.set_cons_zero, List.set_cons_succ, i64_w, i32_w]
                                  rfl
                                refine pure_ (i := 5) (N := some 81) (v := ?_) (a' := ?_) #[true, true, true, true, false, true, false, false, false, false, false, false, false, false, false] rfl rfl (any_of HT_.out (by kernel_rfl)) (fun _ _ _ h => h) (Or.inl ⟨by rfl, ?_⟩) ?_ ?_
                                rotate_left
                                · intro w'
                                  go_simp
                                  with_reducible rfl
                                rotate_left
                                · simp only [Act.put, List.setIfInBounds_toArray, List.set_cons_zero, List.set_cons_succ, i64_w, i32_w]
                                  rfl
                                refine pure_ (i := 6) (N := some 82) (v := ?_) (a' := ?_) #[true, true, true, true, false, true, true, false, false, false, false, false, false, false, false] rfl rfl (any_of HT_.out (by kernel_rfl)) (fun _ _ _ h => h) (Or.inl ⟨by rfl, ?_⟩) ?_ ?_
                                rotate_left
                                · intro w'
                                  go_simp
                                  with_reducible rfl
                                rotate_left
                                · simp only [Act.put, List.setIfInBounds_toArray, List.set_cons_zero, List.set_cons_succ, i64_w, i32_w]
                                  rfl
                                refine pure_ (i := 7) (N := some 83) (v := ?_) (a' := ?_) #[true, true, true, true, false, true, true, true, false, false, false, false, false, false, false] rfl rfl (any_of HT_.out (by kernel_rfl)) (fun _ _ _ h => h) (Or.inl ⟨by rfl, ?_⟩) ?_ ?_
                                rotate_left
                                · intro w'
                                  go_simp
                                  with_reducible rfl
                                rotate_left
                                · simp only [Act.put, List.setIfInBounds_toArray, List.set_cons_zero, List.set_cons_succ, i64_w, i32_w]
                                  rfl
                                refine pure_ (i := 8) (N := some 84) (v := ?_) (a' := ?_) #[true, true, true, true, false, true, true, true, true, false, false, false, false, false, false] rfl rfl (any_of HT_.out (by kernel_rfl)) (fun _ _ _ h => h) (Or.inl ⟨by rfl, ?_⟩) ?_ ?_
                                rotate_left
                                · intro w'
                                  go_simp
                                  with_reducible rfl
                                rotate_left
                                · simp only [Act.put, List.setIfInBounds_toArray, List.set_cons_zero, List.set_cons_succ, i64_w, i32_w]
                                  rfl
                                refine take_ (i := 4) (N := some 80) (v := ?_) (a' := ?_) #[true, true, true, true, true, true, true, true, true, false, false, false, false, false, false] rfl rfl (take_ofW HT_.out HW_.out (by kernel_rfl)) (fun _ _ _ h => h) (Or.inl ⟨by rfl, ?_⟩) hHeld ?_ ?_
                                rotate_left
                                · rintro w' ⟨s0, s1, s2, s3, s4, s5, s6, s7, s8⟩
                                  go_simp
                                  with_reducible rfl
                                rotate_left
                                · simp only [Act.put, List.setIfInBounds_toArray, List.set_cons_zero, List.set_cons_succ, i64_w, i32_w]
                                  rfl
                                refine take_ (i := 9) (N := some 85) (v := ?_) (a' := ?_) #[true, true, true, true, true, true, true, true, true, true, false, false, false, false, false] rfl rfl (take_ofW HT_.out HW_.out (by kernel_rfl)) (fun _ _ _ h => h) (Or.inl ⟨by rfl, ?_⟩) hHeld ?_ ?_
                                rotate_left
                                · rintro w' ⟨s0, s1, s2, s3, s4, s5, s6, s7, s8⟩
                                  go_simp
                                  with_reducible rfl
                                rotate_left
                                · simp only [Act.put, List.setIfInBounds_toArray, List.set_cons_zero, List.set_cons_succ, i64_w, i32_w]
                                  rfl
                                refine pure_ (i := 10) (N := some 86) (v := ?_) (a' := ?_) #[true, true, true, true, true, true, true, true, true, true, true, false, false, false, false] rfl rfl (any_of HT_.out (by kernel_rfl)) (fun _ _ _ h => h) (Or.inl ⟨by rfl, ?_⟩) ?_ ?_
                                rotate_left
                                · intro w'
                                  go_simp
                                  with_reducible rfl
                                rotate_left
                                · simp only [Act.put, List.setIfInBounds_toArray, List.set_cons_zero, List.set_cons_succ, i64_w, i32_w]
                                  rfl
                                refine take_ (i := 11) (N := some 87) (v := ?_) (a' := ?_) #[true, true, true, true, true, true, true, true, true, true, true, true, false, false, false] rfl rfl (take_ofW HT_.out HW_.out (by kernel_rfl)) (fun _ _ _ h => h) (Or.inl ⟨by rfl, ?_⟩) hHeld ?_ ?_
                                rotate_left
                                · rintro w' ⟨s0, s1, s2, s3, s4, s5, s6, s7, s8⟩
                                  go_simp
                                  with_reducible rfl
                                rotate_left
                                · simp only [Act.put, List.setIfInBounds_toArray, List.set_cons_zero, List.set_cons_succ, i64_w, i32_w]
                                  rfl
                                refine pure_ (i := 12) (N := some 88) (v := ?_) (a' := ?_) #[true, true, true, true, true, true, true, true, true, true, true, true, true, false, false] rfl rfl (any_of HT_.out (by kernel_rfl)) (fun _ _ _ h => h) (Or.inl ⟨by rfl, ?_⟩) ?_ ?_
                                rotate_left
                                · intro w'
                                  go_simp
                                  with_reducible rfl
                                rotate_left
                                · simp only [Act.put, List.setIfInBounds_toArray, List.set_cons_zero, List.set_cons_succ, i64_w, i32_w]
                                  rfl
                                refine pure_ (i := 13) (N := some 89) (v := ?_) (a' := ?_) #[true, true, true, true, true, true, true, true, true, true, true, true, true, true, false] rfl rfl (any_of HT_.out (by kernel_rfl)) (fun _ _ _ h => h) (Or.inl ⟨by rfl, ?_⟩) ?_ ?_
                                rotate_left
                                · intro w'
                                  go_simp
                                  with_reducible rfl
                                rotate_left
                                · simp only [Act.put, List.setIfInBounds_toArray, List.set_cons_zero, List.set_cons_succ, i64_w, i32_w]
                                  rfl
                                refine last_ (i := 14) (N := none) #[true, true, true, true, true, true, true, true, true, true, true, true, true, true, true] rfl rfl (one_of HT_.out (by kernel_rfl)) (by decide) (fun K hK => ?_)
                                have hvk33_0 := cellA22_0_0 (((rd_T46 l0 x6_1).f2)) (of_decide_eq_true (by first | (with_reducible assumption) | assumption)) (of_decide_eq_true (by first | (with_reducible assumption) | assumption)) BK245.out
                                have hfk33_0 := blk_frozen BK245.out ((((rd_T46 l0 x6_1).f2)).toNat)
                                refine skip_ (w1 := ?_) (by rfl) rfl ?_ ?_
                                rotate_left
                                · go_simp
                                  rfl
                                refine hK.out _ _ ?_
                                clear hK K
                                refine done_ (done_of HT_.out (by kernel_rfl)) ?_
                                have n0_ : Aside0 (Kd.R k22 22 (w32.setCell ⟨gb245, (((rd_T46 l0 x6_1).f2)).toNat, none⟩ (.int .u8 ((1 - (pk16 x246000_8 x246001_8 x246002_8 x246003_8 x246004_8 x246005_8 x246006_8 x246007_8 x246008_8 x246009_8 x246010_8 x246011_8 x246012_8 x246013_8 x246014_8 x246015_8 ((rd_T46 l0 x6_1).f2))) % 256))) w.heap.size (fun k_ => k_ ≠ gb244 ∧ k_ ≠ gb245) u3 x3_1) := ⟨by (with_reducible repeat (first | apply Kd.R_alloc | apply Kd.R_drewN | apply Kd.R_drew)); exact Kd.R_mono (Kd.R_far (p := ⟨gb245, (((rd_T46 l0 x6_1).f2)).toNat, none⟩) (Kd.R_mono HO_3.out (fun k_ hk => (⟨hk, hk.2⟩ : _ ∧ k_ ≠ gb245))) (fun _ hk => hk.2) (.int .u8 ((1 - (pk16 x246000_8 x246001_8 x246002_8 x246003_8 x246004_8 x246005_8 x246006_8 x246007_8 x246008_8 x246009_8 x246010_8 x246011_8 x246012_8 x246013_8 x246014_8 x246015_8 ((rd_T46 l0 x6_1).f2))) % 256))) (fun _ hk => ⟨hk.1.1, hk.1.2⟩)⟩
                                have n1_ : Aside0 (Kd.R (Kd.int .i64) 3 (w32.setCell ⟨gb245, (((rd_T46 l0 x6_1).f2)).toNat, none⟩ (.int .u8 ((1 - (pk16 x246000_8 x246001_8 x246002_8 x246003_8 x246004_8 x246005_8 x246006_8 x246007_8 x246008_8 x246009_8 x246010_8 x246011_8 x246012_8 x246013_8 x246014_8 x246015_8 ((rd_T46 l0 x6_1).f2))) % 256))) w.heap.size (fun _ => True) u4 x4_1) := ⟨by (with_reducible repeat (first | apply Kd.R_alloc | apply Kd.R_drewN | apply Kd.R_drew)); exact Kd.R_mono (Kd.R_far (p := ⟨gb245, (((rd_T46 l0 x6_1).f2)).toNat, none⟩) (Kd.R_types HO_4.out BK245.out (by decide)) (fun _ hk => hk.2) (.int .u8 ((1 - (pk16 x246000_8 x246001_8 x246002_8 x246003_8 x246004_8 x246005_8 x246006_8 x246007_8 x246008_8 x246009_8 x246010_8 x246011_8 x246012_8 x246013_8 x246014_8 x246015_8 ((rd_T46 l0 x6_1).f2))) % 256))) (fun _ hk => trivial)⟩
                                have n2_ : Aside0 ((w32.setCell ⟨gb245, (((rd_T46 l0 x6_1).f2)).toNat, none⟩ (.int .u8 ((1 - (pk16 x246000_8 x246001_8 x246002_8 x246003_8 x246004_8 x246005_8 x246006_8 x246007_8 x246008_8 x246009_8 x246010_8 x246011_8 x246012_8 x246013_8 x246014_8 x246015_8 ((rd_T46 l0 x6_1).f2))) % 256))).heap[gb217]? = some (.cells #[.bool x218000_1, .int .i64 x218001_1] 31 (0, 0))) := ⟨by (with_reducible repeat (first | refine blk_drewN ?_ _ | refine blk_drew ?_ | refine blk_alloc ?_ _)); refine blk_far ?_ NB217_245.out _; (with_reducible repeat (first | refine blk_drewN ?_ _ | refine blk_drew ?_ | refine blk_alloc ?_ _)); exact BK217.out⟩
                                have n3_ : Aside0 ((w32.setCell ⟨gb245, (((rd_T46 l0 x6_1).f2)).toNat, none⟩ (.int .u8 ((1 - (pk16 x246000_8 x246001_8 x246002_8 x246003_8 x246004_8 x246005_8 x246006_8 x246007_8 x246008_8 x246009_8 x246010_8 x246011_8 x246012_8 x246013_8 x246014_8 x246015_8 ((rd_T46 l0 x6_1).f2))) % 256))).heap[gb244]? = some (.cells #[.int .u8 t227, .int .u8 t228, .int .u8 t229, .int .u8 t230, .int .u8 t231, .int .u8 t232, .int .u8 t233, .int .u8 t234, .int .u8 t235, .int .u8 t236, .int .u8 t237, .int .u8 t238, .int .u8 t239, .int .u8 t240, .int .u8 t241, .int .u8 t242] 22 (0, 0))) := ⟨by (with_reducible repeat (first | refine blk_drewN ?_ _ | refine blk_drew ?_ | refine blk_alloc ?_ _)); refine blk_far ?_ NB244_245.out _; (with_reducible repeat (first | refine blk_drewN ?_ _ | refine blk_drew ?_ | refine blk_alloc ?_ _)); exact BK244.out⟩
                                have n4_ : Aside0 ((w32.setCell ⟨gb245, (((rd_T46 l0 x6_1).f2)).toNat, none⟩ (.int .u8 ((1 - (pk16 x246000_8 x246001_8 x246002_8 x246003_8 x246004_8 x246005_8 x246006_8 x246007_8 x246008_8 x246009_8 x246010_8 x246011_8 x246012_8 x246013_8 x246014_8 x246015_8 ((rd_T46 l0 x6_1).f2))) % 256))).heap[gb245]? = some (.cells #[.int .u8 (pt 0 ((rd_T46 l0 x6_1).f2) ((1 - (pk16 x246000_8 x246001_8 x246002_8 x246003_8 x246004_8 x246005_8 x246006_8 x246007_8 x246008_8 x246009_8 x246010_8 x246011_8 x246012_8 x246013_8 x246014_8 x246015_8 ((rd_T46 l0 x6_1).f2))) % 256) x246000_8), .int .u8 (pt 1 ((rd_T46 l0 x6_1).f2) ((1 - (pk16 x246000_8 x246001_8 x246002_8 x246003_8 x246004_8 x246005_8 x246006_8 x246007_8 x246008_8 x246009_8 x246010_8 x246011_8 x246012_8 x246013_8 x246014_8 x246015_8 ((rd_T46 l0 x6_1).f2))) % 256) x246001_8), .int .u8 (pt 2 ((rd_T46 l0 x6_1).f2) ((1 - (pk16 x246000_8 x246001_8 x246002_8 x246003_8 x246004_8 x246005_8 x246006_8 x246007_8 x246008_8 x246009_8 x246010_8 x246011_8 x246012_8 x246013_8 x246014_8 x246015_8 ((rd_T46 l0 x6_1).f2))) % 256) x246002_8), .int .u8 (pt 3 ((rd_T46 l0 x6_1).f2) ((1 - (pk16 x246000_8 x246001_8 x246002_8 x246003_8 x246004_8 x246005_8 x246006_8 x246007_8 x246008_8 x246009_8 x246010_8 x246011_8 x246012_8 x246013_8 x246014_8 x246015_8 ((rd_T46 l0 x6_1).f2))) % 256) x246003_8), .int .u8 (pt 4 ((rd_T46 l0 x6_1).f2) ((1 - (pk16 x246000_8 x246001_8 x246002_8 x246003_8 x246004_8 x246005_8 x246006_8 x246007_8 x246008_8 x246009_8 x246010_8 x246011_8 x246012_8 x246013_8 x246014_8 x246015_8 ((rd_T46 l0 x6_1).f2))) % 256) x246004_8), .int .u8 (pt 5 ((rd_T46 l0 x6_1).f2) ((1 - (pk16 x246000_8 x246001_8 x246002_8 x246003_8 x246004_8 x246005_8 x246006_8 x246007_8 x246008_8 x246009_8 x246010_8 x246011_8 x246012_8 x246013_8 x246014_8 x246015_8 ((rd_T46 l0 x6_1).f2))) % 256) x246005_8), .int .u8 (pt 6 ((rd_T46 l0 x6_1).f2) ((1 - (pk16 x246000_8 x246001_8 x246002_8 x246003_8 x246004_8 x246005_8 x246006_8 x246007_8 x246008_8 x246009_8 x246010_8 x246011_8 x246012_8 x246013_8 x246014_8 x246015_8 ((rd_T46 l0 x6_1).f2))) % 256) x246006_8), .int .u8 (pt 7 ((rd_T46 l0 x6_1).f2) ((1 - (pk16 x246000_8 x246001_8 x246002_8 x246003_8 x246004_8 x246005_8 x246006_8 x246007_8 x246008_8 x246009_8 x246010_8 x246011_8 x246012_8 x246013_8 x246014_8 x246015_8 ((rd_T46 l0 x6_1).f2))) % 256) x246007_8), .int .u8 (pt 8 ((rd_T46 l0 x6_1).f2) ((1 - (pk16 x246000_8 x246001_8 x246002_8 x246003_8 x246004_8 x246005_8 x246006_8 x246007_8 x246008_8 x246009_8 x246010_8 x246011_8 x246012_8 x246013_8 x246014_8 x246015_8 ((rd_T46 l0 x6_1).f2))) % 256) x246008_8), .int .u8 (pt 9 ((rd_T46 l0 x6_1).f2) ((1 - (pk16 x246000_8 x246001_8 x246002_8 x246003_8 x246004_8 x246005_8 x246006_8 x246007_8 x246008_8 x246009_8 x246010_8 x246011_8 x246012_8 x246013_8 x246014_8 x246015_8 ((rd_T46 l0 x6_1).f2))) % 256) x246009_8), .int .u8 (pt 10 ((rd_T46 l0 x6_1).f2) ((1 - (pk16 x246000_8 x246001_8 x246002_8 x246003_8 x246004_8 x246005_8 x246006_8 x246007_8 x246008_8 x246009_8 x246010_8 x246011_8 x246012_8 x246013_8 x246014_8 x246015_8 ((rd_T46 l0 x6_1).f2))) % 256) x246010_8), .int .u8 (pt 11 ((rd_T46 l0 x6_1).f2) ((1 - (pk16 x246000_8 x246001_8 x246002_8 x246003_8 x246004_8 x246005_8 x246006_8 x246007_8 x246008_8 x246009_8 x246010_8 x246011_8 x246012_8 x246013_8 x246014_8 x246015_8 ((rd_T46 l0 x6_1).f2))) % 256) x246011_8), .int .u8 (pt 12 ((rd_T46 l0 x6_1).f2) ((1 - (pk16 x246000_8 x246001_8 x246002_8 x246003_8 x246004_8 x246005_8 x246006_8 x246007_8 x246008_8 x246009_8 x246010_8 x246011_8 x246012_8 x246013_8 x246014_8 x246015_8 ((rd_T46 l0 x6_1).f2))) % 256) x246012_8), .int .u8 (pt 13 ((rd_T46 l0 x6_1).f2) ((1 - (pk16 x246000_8 x246001_8 x246002_8 x246003_8 x246004_8 x246005_8 x246006_8 x246007_8 x246008_8 x246009_8 x246010_8 x246011_8 x246012_8 x246013_8 x246014_8 x246015_8 ((rd_T46 l0 x6_1).f2))) % 256) x246013_8), .int .u8 (pt 14 ((rd_T46 l0 x6_1).f2) ((1 - (pk16 x246000_8 x246001_8 x246002_8 x246003_8 x246004_8 x246005_8 x246006_8 x246007_8 x246008_8 x246009_8 x246010_8 x246011_8 x246012_8 x246013_8 x246014_8 x246015_8 ((rd_T46 l0 x6_1).f2))) % 256) x246014_8), .int .u8 (pt 15 ((rd_T46 l0 x6_1).f2) ((1 - (pk16 x246000_8 x246001_8 x246002_8 x246003_8 x246004_8 x246005_8 x246006_8 x246007_8 x246008_8 x246009_8 x246010_8 x246011_8 x246012_8 x246013_8 x246014_8 x246015_8 ((rd_T46 l0 x6_1).f2))) % 256) x246015_8)] 22 (0, 0))) := ⟨by (with_reducible repeat (first | refine blk_drewN ?_ _ | refine blk_drew ?_ | refine blk_alloc ?_ _)); refine blk_put (cs := #[.int .u8 x246000_8, .int .u8 x246001_8, .int .u8 x246002_8, .int .u8 x246003_8, .int .u8 x246004_8, .int .u8 x246005_8, .int .u8 x246006_8, .int .u8 x246007_8, .int .u8 x246008_8, .int .u8 x246009_8, .int .u8 x246010_8, .int .u8 x246011_8, .int .u8 x246012_8, .int .u8 x246013_8, .int .u8 x246014_8, .int .u8 x246015_8]) ?_ ((((rd_T46 l0 x6_1).f2)).toNat) _ (putA22_0_0 ((rd_T46 l0 x6_1).f2) (of_decide_eq_true (by first | (with_reducible assumption) | assumption)) (of_decide_eq_true (by first | (with_reducible assumption) | assumption)) ((1 - (pk16 x246000_8 x246001_8 x246002_8 x246003_8 x246004_8 x246005_8 x246006_8 x246007_8 x246008_8 x246009_8 x246010_8 x246011_8 x246012_8 x246013_8 x246014_8 x246015_8 ((rd_T46 l0 x6_1).f2))) % 256)); (with_reducible repeat (first | refine blk_drewN ?_ _ | refine blk_drew ?_ | refine blk_alloc ?_ _)); exact BK245.out⟩
                                have n5_ : Aside0 (Below w.heap.size w (w32.setCell ⟨gb245, (((rd_T46 l0 x6_1).f2)).toNat, none⟩ (.int .u8 ((1 - (pk16 x246000_8 x246001_8 x246002_8 x246003_8 x246004_8 x246005_8 x246006_8 x246007_8 x246008_8 x246009_8 x246010_8 x246011_8 x246012_8 x246013_8 x246014_8 x246015_8 ((rd_T46 l0 x6_1).f2))) % 256)))) := ⟨by repeat (first | (with_reducible first | exact HB.out | apply below_alloc | apply pw_below_drewN | apply below_drew1 | refine below_set ?_ GE217.out | refine below_set ?_ GE244.out | refine below_set ?_ GE245.out) | exact HB.out)⟩
                                (try clear HO_3)
                                (try clear HO_4)
                                (try clear BK217)
                                (try clear BK244)
                                (try clear BK245)
                                (try clear HB)
                                (try rw [show ∀ n : Int, IntKind.u8.wrap n = n % 256 from fun n => IntKind.wrap_u8 n])
                                generalize (w32.setCell ⟨gb245, (((rd_T46 l0 x6_1).f2)).toNat, none⟩ (.int .u8 ((1 - (pk16 x246000_8 x246001_8 x246002_8 x246003_8 x246004_8 x246005_8 x246006_8 x246007_8 x246008_8 x246009_8 x246010_8 x246011_8 x246012_8 x246013_8 x246014_8 x246015_8 ((rd_T46 l0 x6_1).f2))) % 256))) = w34 at n0_ n1_ n2_ n3_ n4_ n5_ ⊢
                                have HO_3 := n0_
                                have HO_4 := n1_
                                have BK217 := n2_
                                have BK244 := n3_
                                have BK245 := n4_
                                have HB := n5_
                                clear n0_ n1_ n2_ n3_ n4_ n5_
                                try go_wp2
                                go_meet
                                case rel => exact ⟨_, (pt 0 ((rd_T46 l0 x6_1).f2) ((1 - (pk16 x246000_8 x246001_8 x246002_8 x246003_8 x246004_8 x246005_8 x246006_8 x246007_8 x246008_8 x246009_8 x246010_8 x246011_8 x246012_8 x246013_8 x246014_8 x246015_8 ((rd_T46 l0 x6_1).f2))) % 256) x246000_8), (pt 1 ((rd_T46 l0 x6_1).f2) ((1 - (pk16 x246000_8 x246001_8 x246002_8 x246003_8 x246004_8 x246005_8 x246006_8 x246007_8 x246008_8 x246009_8 x246010_8 x246011_8 x246012_8 x246013_8 x246014_8 x246015_8 ((rd_T46 l0 x6_1).f2))) % 256) x246001_8), (pt 2 ((rd_T46 l0 x6_1).f2) ((1 - (pk16 x246000_8 x246001_8 x246002_8 x246003_8 x246004_8 x246005_8 x246006_8 x246007_8 x246008_8 x246009_8 x246010_8 x246011_8 x246012_8 x246013_8 x246014_8 x246015_8 ((rd_T46 l0 x6_1).f2))) % 256) x246002_8), (pt 3 ((rd_T46 l0 x6_1).f2) ((1 - (pk16 x246000_8 x246001_8 x246002_8 x246003_8 x246004_8 x246005_8 x246006_8 x246007_8 x246008_8 x246009_8 x246010_8 x246011_8 x246012_8 x246013_8 x246014_8 x246015_8 ((rd_T46 l0 x6_1).f2))) % 256) x246003_8), (pt 4 ((rd_T46 l0 x6_1).f2) ((1 - (pk16 x246000_8 x246001_8 x246002_8 x246003_8 x246004_8 x246005_8 x246006_8 x246007_8 x246008_8 x246009_8 x246010_8 x246011_8 x246012_8 x246013_8 x246014_8 x246015_8 ((rd_T46 l0 x6_1).f2))) % 256) x246004_8), (pt 5 ((rd_T46 l0 x6_1).f2) ((1 - (pk16 x246000_8 x246001_8 x246002_8 x246003_8 x246004_8 x246005_8 x246006_8 x246007_8 x246008_8 x246009_8 x246010_8 x246011_8 x246012_8 x246013_8 x246014_8 x246015_8 ((rd_T46 l0 x6_1).f2))) % 256) x246005_8), (pt 6 ((rd_T46 l0 x6_1).f2) ((1 - (pk16 x246000_8 x246001_8 x246002_8 x246003_8 x246004_8 x246005_8 x246006_8 x246007_8 x246008_8 x246009_8 x246010_8 x246011_8 x246012_8 x246013_8 x246014_8 x246015_8 ((rd_T46 l0 x6_1).f2))) % 256) x246006_8), (pt 7 ((rd_T46 l0 x6_1).f2) ((1 - (pk16 x246000_8 x246001_8 x246002_8 x246003_8 x246004_8 x246005_8 x246006_8 x246007_8 x246008_8 x246009_8 x246010_8 x246011_8 x246012_8 x246013_8 x246014_8 x246015_8 ((rd_T46 l0 x6_1).f2))) % 256) x246007_8), (pt 8 ((rd_T46 l0 x6_1).f2) ((1 - (pk16 x246000_8 x246001_8 x246002_8 x246003_8 x246004_8 x246005_8 x246006_8 x246007_8 x246008_8 x246009_8 x246010_8 x246011_8 x246012_8 x246013_8 x246014_8 x246015_8 ((rd_T46 l0 x6_1).f2))) % 256) x246008_8), (pt 9 ((rd_T46 l0 x6_1).f2) ((1 - (pk16 x246000_8 x246001_8 x246002_8 x246003_8 x246004_8 x246005_8 x246006_8 x246007_8 x246008_8 x246009_8 x246010_8 x246011_8 x246012_8 x246013_8 x246014_8 x246015_8 ((rd_T46 l0 x6_1).f2))) % 256) x246009_8), (pt 10 ((rd_T46 l0 x6_1).f2) ((1 - (pk16 x246000_8 x246001_8 x246002_8 x246003_8 x246004_8 x246005_8 x246006_8 x246007_8 x246008_8 x246009_8 x246010_8 x246011_8 x246012_8 x246013_8 x246014_8 x246015_8 ((rd_T46 l0 x6_1).f2))) % 256) x246010_8), (pt 11 ((rd_T46 l0 x6_1).f2) ((1 - (pk16 x246000_8 x246001_8 x246002_8 x246003_8 x246004_8 x246005_8 x246006_8 x246007_8 x246008_8 x246009_8 x246010_8 x246011_8 x246012_8 x246013_8 x246014_8 x246015_8 ((rd_T46 l0 x6_1).f2))) % 256) x246011_8), (pt 12 ((rd_T46 l0 x6_1).f2) ((1 - (pk16 x246000_8 x246001_8 x246002_8 x246003_8 x246004_8 x246005_8 x246006_8 x246007_8 x246008_8 x246009_8 x246010_8 x246011_8 x246012_8 x246013_8 x246014_8 x246015_8 ((rd_T46 l0 x6_1).f2))) % 256) x246012_8), (pt 13 ((rd_T46 l0 x6_1).f2) ((1 - (pk16 x246000_8 x246001_8 x246002_8 x246003_8 x246004_8 x246005_8 x246006_8 x246007_8 x246008_8 x246009_8 x246010_8 x246011_8 x246012_8 x246013_8 x246014_8 x246015_8 ((rd_T46 l0 x6_1).f2))) % 256) x246013_8), (pt 14 ((rd_T46 l0 x6_1).f2) ((1 - (pk16 x246000_8 x246001_8 x246002_8 x246003_8 x246004_8 x246005_8 x246006_8 x246007_8 x246008_8 x246009_8 x246010_8 x246011_8 x246012_8 x246013_8 x246014_8 x246015_8 ((rd_T46 l0 x6_1).f2))) % 256) x246014_8), (pt 15 ((rd_T46 l0 x6_1).f2) ((1 - (pk16 x246000_8 x246001_8 x246002_8 x246003_8 x246004_8 x246005_8 x246006_8 x246007_8 x246008_8 x246009_8 x246010_8 x246011_8 x246012_8 x246013_8 x246014_8 x246015_8 ((rd_T46 l0 x6_1).f2))) % 256) x246015_8), H', ⟨by have := HK1.out; have := HJ8.out; have := HJ19.out; first | omega | exact Nat.le_refl _⟩, ⟨by (with_reducible repeat (first | apply Kd.R_alloc | apply Kd.R_drewN | apply Kd.R_drew)); exact HO_3.out⟩, ⟨by (with_reducible repeat (first | apply Kd.R_alloc | apply Kd.R_drewN | apply Kd.R_drew)); exact HO_4.out⟩, ⟨by (with_reducible repeat (first | refine blk_drewN ?_ _ | refine blk_drew ?_ | refine blk_alloc ?_ _)); exact BK217.out⟩, ⟨by (with_reducible repeat (first | refine blk_drewN ?_ _ | refine blk_drew ?_ | refine blk_alloc ?_ _)); exact BK244.out⟩, ⟨by (with_reducible repeat (first | refine blk_drewN ?_ _ | refine blk_drew ?_ | refine blk_alloc ?_ _)); exact BK245.out⟩, ⟨by repeat (first | (with_reducible first | exact HB.out | apply below_alloc | apply pw_below_drewN | apply below_drew1 | refine below_set ?_ GE217.out | refine below_set ?_ GE244.out | refine below_set ?_ GE245.out) | exact HB.out)⟩⟩
                              · rw [if_neg c31] at H
                                exact absurd H (by simp)
                            · rw [if_neg c30] at H
                              exact absurd H (by simp)
                          · rw [if_neg c29] at H
                            exact absurd H (by simp)
                        · rw [if_neg c28] at H
                          exact absurd H (by simp)
                      · replace c27 := Bool.eq_false_iff.mpr c27
                        subst c27
                        have H1 : (perilunelaw32_UplinkDamage.j3 kj19 l0 x3_1 x4_1 x6_1 (Int.tmod (wrap64 ((rd_T46 l0 x6_1).f0)) 32) x218000_1 x218001_1 t227 t228 t229 t230 t231 t232 t233 t234 t235 t236 t237 t238 t239 t240 t241 t242 x246000_8 x246001_8 x246002_8 x246003_8 x246004_8 x246005_8 x246006_8 x246007_8 x246008_8 x246009_8 x246010_8 x246011_8 x246012_8 x246013_8 x246014_8 x246015_8) = some r := by rw [if_neg (show ¬ (false = true) by decide)] at H; exact H
                        clear H
                        have H := H1
                        clear H1
                        have H' := Aside0.mk H
                        clear H
                        go_wp2
                        go_meet
                        case rel => exact ⟨_, (x246000_8), (x246001_8), (x246002_8), (x246003_8), (x246004_8), (x246005_8), (x246006_8), (x246007_8), (x246008_8), (x246009_8), (x246010_8), (x246011_8), (x246012_8), (x246013_8), (x246014_8), (x246015_8), H', ⟨by have := HK1.out; have := HJ8.out; have := HJ19.out; first | omega | exact Nat.le_refl _⟩, ⟨by (with_reducible repeat (first | apply Kd.R_alloc | apply Kd.R_drewN | apply Kd.R_drew)); exact HO_3.out⟩, ⟨by (with_reducible repeat (first | apply Kd.R_alloc | apply Kd.R_drewN | apply Kd.R_drew)); exact HO_4.out⟩, ⟨by (with_reducible repeat (first | refine blk_drewN ?_ _ | refine blk_drew ?_ | refine blk_alloc ?_ _)); exact BK217.out⟩, ⟨by (with_reducible repeat (first | refine blk_drewN ?_ _ | refine blk_drew ?_ | refine blk_alloc ?_ _)); exact BK244.out⟩, ⟨by (with_reducible repeat (first | refine blk_drewN ?_ _ | refine blk_drew ?_ | refine blk_alloc ?_ _)); exact BK245.out⟩, ⟨by repeat (first | (with_reducible first | exact HB.out | apply below_alloc | apply pw_below_drewN | apply below_drew1 | refine below_set ?_ GE217.out | refine below_set ?_ GE244.out | refine below_set ?_ GE245.out) | exact HB.out)⟩⟩
                    case rest =>
                      clear HC26
                      try clear c1
                      try clear c2
                      try clear c2b0
                      try clear c2b1
                      try clear c2b2
                      try clear p2
                      try clear q2
                      try clear hx2
                      try clear c3
                      try clear c6
                      try clear c6b0
                      try clear p6
                      try clear c7
                      try clear c7b0
                      try clear c8
                      try clear c11
                      try clear c15
                      try clear c15b0
                      try clear c15b1
                      try clear c16
                      try clear c16b0
                      try clear c21
                      try clear c21b0
                      try clear c21b1
                      try clear c22
                      try clear c22b0
                      try clear p22
                      try clear q22
                      try clear hx22
                      try clear c23
                      try clear c23b0
                      try clear p24
                      try clear q24
                      try clear hx24
                      try clear p25
                      try clear q25
                      try clear hx25
                      try clear c27
                      try clear c28
                      try clear c28b0
                      try clear c28b1
                      try clear c29
                      try clear c29b0
                      try clear c30
                      try clear c30b0
                      try clear c31
                      try clear c31b0
                      try clear hx226_0
                      try clear hx226_1
                      try clear hx226_2
                      try clear hx226_3
                      try clear hx246_0
                      try clear hx246_1
                      try clear hx246_2
                      try clear hx246_3
                      try clear hx247_0
                      try clear hx247_1
                      try clear hx247_2
                      try clear hx247_3
                      try clear hx248_0
                      try clear hx248_1
                      try clear hx248_2
                      try clear hx248_3
                      try clear hx252_0
                      try clear hx252_1
                      try clear hx252_2
                      try clear hx252_3
                      try clear hx253_0
                      try clear hx253_1
                      try clear hx253_2
                      try clear hx253_3
                      try clear hx254_0
                      try clear hx254_1
                      try clear hx254_2
                      try clear hx254_3
                      try clear hx255_0
                      try clear hx255_1
                      try clear hx255_2
                      try clear hx255_3
                      try clear hx256_0
                      try clear hx256_1
                      try clear hx256_2
                      try clear hx256_3
                      try clear p2
                      try clear p22
                      try clear p226
                      try clear p24
                      try clear p246
                      try clear p247
                      try clear p248
                      try clear p25
                      try clear p252
                      try clear p253
                      try clear p254
                      try clear p255
                      try clear p256
                      try clear p6
                      try clear q2
                      try clear q22
                      try clear q226
                      try clear q24
                      try clear q246
                      try clear q247
                      try clear q248
                      try clear q25
                      try clear q252
                      try clear q253
                      try clear q254
                      try clear q255
                      try clear q256
                      obtain ⟨kq, x246000_25, x246001_25, x246002_25, x246003_25, x246004_25, x246005_25, x246006_25, x246007_25, x246008_25, x246009_25, x246010_25, x246011_25, x246012_25, x246013_25, x246014_25, x246015_25, HA, HJ25, HO_3, HO_4, BK217, BK244, BK245, HB⟩ := hcut
                      cases kq with
                      | zero => exact absurd HA.out (by simp [perilunelaw32_UplinkDamage.j3])
                      | succ kj25 =>
                        have H := HA.out
                        clear HA
                        simp only [perilunelaw32_UplinkDamage.j3] at H
                        have H' := Aside0.mk H
                        clear H
                        go_wp2
                        go_loopg [11] kj25 (fun kq v11 w' => ∃ (x11_5 : Int) (x246000_5 : Int) (x246001_5 : Int) (x246002_5 : Int) (x246003_5 : Int) (x246004_5 : Int) (x246005_5 : Int) (x246006_5 : Int) (x246007_5 : Int) (x246008_5 : Int) (x246009_5 : Int) (x246010_5 : Int) (x246011_5 : Int) (x246012_5 : Int) (x246013_5 : Int) (x246014_5 : Int) (x246015_5 : Int), v11 = .int .i64 x11_5 ∧ Aside0 (perilunelaw32_UplinkDamage.l1 kq l0 x3_1 x4_1 x6_1 (Int.tmod (wrap64 ((rd_T46 l0 x6_1).f0)) 32) x11_5 x218000_1 x218001_1 t227 t228 t229 t230 t231 t232 t233 t234 t235 t236 t237 t238 t239 t240 t241 t242 x246000_5 x246001_5 x246002_5 x246003_5 x246004_5 x246005_5 x246006_5 x246007_5 x246008_5 x246009_5 x246010_5 x246011_5 x246012_5 x246013_5 x246014_5 x246015_5 = some r) ∧ Aside0 (kq ≤ kj25) ∧ Aside0 (Kd.R k22 22 w' w.heap.size (fun k_ => k_ ≠ gb244 ∧ k_ ≠ gb245) u3 x3_1) ∧ Aside0 (Kd.R (Kd.int .i64) 3 w' w.heap.size (fun _ => True) u4 x4_1) ∧ Aside0 (w'.heap[gb217]? = some (.cells #[.bool x218000_1, .int .i64 x218001_1] 31 (0, 0))) ∧ Aside0 (w'.heap[gb244]? = some (.cells #[.int .u8 t227, .int .u8 t228, .int .u8 t229, .int .u8 t230, .int .u8 t231, .int .u8 t232, .int .u8 t233, .int .u8 t234, .int .u8 t235, .int .u8 t236, .int .u8 t237, .int .u8 t238, .int .u8 t239, .int .u8 t240, .int .u8 t241, .int .u8 t242] 22 (0, 0))) ∧ Aside0 (w'.heap[gb245]? = some (.cells #[.int .u8 x246000_5, .int .u8 x246001_5, .int .u8 x246002_5, .int .u8 x246003_5, .int .u8 x246004_5, .int .u8 x246005_5, .int .u8 x246006_5, .int .u8 x246007_5, .int .u8 x246008_5, .int .u8 x246009_5, .int .u8 x246010_5, .int .u8 x246011_5, .int .u8 x246012_5, .int .u8 x246013_5, .int .u8 x246014_5, .int .u8 x246015_5] 22 (0, 0))) ∧ Aside0 (Below w.heap.size w w'))
                        case atStart => exact ⟨(0), (x246000_25), (x246001_25), (x246002_25), (x246003_25), (x246004_25), (x246005_25), (x246006_25), (x246007_25), (x246008_25), (x246009_25), (x246010_25), (x246011_25), (x246012_25), (x246013_25), (x246014_25), (x246015_25), (by first | rfl | (simp; done) | (simp [*]; done)), H', ⟨Nat.le_refl _⟩, ⟨by (with_reducible repeat (first | apply Kd.R_alloc | apply Kd.R_drewN | apply Kd.R_drew)); exact HO_3.out⟩, ⟨by (with_reducible repeat (first | apply Kd.R_alloc | apply Kd.R_drewN | apply Kd.R_drew)); exact HO_4.out⟩, ⟨by (with_reducible repeat (first | refine blk_drewN ?_ _ | refine blk_drew ?_ | refine blk_alloc ?_ _)); exact BK217.out⟩, ⟨by (with_reducible repeat (first | refine blk_drewN ?_ _ | refine blk_drew ?_ | refine blk_alloc ?_ _)); exact BK244.out⟩, ⟨by (with_reducible repeat (first | refine blk_drewN ?_ _ | refine blk_drew ?_ | refine blk_alloc ?_ _)); exact BK245.out⟩, ⟨by repeat (first | (with_reducible first | exact HB.out | apply below_alloc | apply pw_below_drewN | apply below_drew1 | refine below_set ?_ GE217.out | refine below_set ?_ GE244.out | refine below_set ?_ GE245.out) | exact HB.out)⟩⟩
                        case round =>
                          clear H'
                          try clear c1
                          try clear c2
                          try clear c2b0
                          try clear c2b1
                          try clear c2b2
                          try clear p2
                          try clear q2
                          try clear hx2
                          try clear c3
                          try clear c6
                          try clear c6b0
                          try clear p6
                          try clear c7
                          try clear c7b0
                          try clear c8
                          try clear c11
                          try clear c15
                          try clear c15b0
                          try clear c15b1
                          try clear c16
                          try clear c16b0
                          try clear c21
                          try clear c21b0
                          try clear c21b1
                          try clear c22
                          try clear c22b0
                          try clear p22
                          try clear q22
                          try clear hx22
                          try clear c23
                          try clear c23b0
                          try clear p24
                          try clear q24
                          try clear hx24
                          try clear p25
                          try clear q25
                          try clear hx25
                          try clear c27
                          try clear c28
                          try clear c28b0
                          try clear c28b1
                          try clear c29
                          try clear c29b0
                          try clear c30
                          try clear c30b0
                          try clear c31
                          try clear c31b0
                          try clear hx226_0
                          try clear hx226_1
                          try clear hx226_2
                          try clear hx226_3
                          try clear hx246_0
                          try clear hx246_1
                          try clear hx246_2
                          try clear hx246_3
                          try clear hx247_0
                          try clear hx247_1
                          try clear hx247_2
                          try clear hx247_3
                          try clear hx248_0
                          try clear hx248_1
                          try clear hx248_2
                          try clear hx248_3
                          try clear hx252_0
                          try clear hx252_1
                          try clear hx252_2
                          try clear hx252_3
                          try clear hx253_0
                          try clear hx253_1
                          try clear hx253_2
                          try clear hx253_3
                          try clear hx254_0
                          try clear hx254_1
                          try clear hx254_2
                          try clear hx254_3
                          try clear hx255_0
                          try clear hx255_1
                          try clear hx255_2
                          try clear hx255_3
                          try clear hx256_0
                          try clear hx256_1
                          try clear hx256_2
                          try clear hx256_3
                          try clear p2
                          try clear p22
                          try clear p226
                          try clear p24
                          try clear p246
                          try clear p247
                          try clear p248
                          try clear p25
                          try clear p252
                          try clear p253
                          try clear p254
                          try clear p255
                          try clear p256
                          try clear p6
                          try clear q2
                          try clear q22
                          try clear q226
                          try clear q24
                          try clear q246
                          try clear q247
                          try clear q248
                          try clear q25
                          try clear q252
                          try clear q253
                          try clear q254
                          try clear q255
                          try clear q256
                          obtain ⟨x11_5, x246000_5, x246001_5, x246002_5, x246003_5, x246004_5, x246005_5, x246006_5, x246007_5, x246008_5, x246009_5, x246010_5, x246011_5, x246012_5, x246013_5, x246014_5, x246015_5, rfl, HA, HK5, HO_3, HO_4, BK217, BK244, BK245, HB⟩ := hrel
                          cases gk with
                          | zero => exact absurd HA.out (by simp [perilunelaw32_UplinkDamage.l1])
                          | succ k5 =>
                            have H := HA.out
                            clear HA
                            simp only [perilunelaw32_UplinkDamage.l1] at H
                            by_cases c35 : x11_5 < 16
                            · rw [if_pos c35] at H
                              have c35b0 : decide (x11_5 < 16) = true := decide_eq_true c35
                              clear c35
                              by_cases c36 : 0 ≤ x6_1
                              · rw [if_pos c36] at H
                                have c36b0 : decide (0 ≤ x6_1) = true := decide_eq_true c36
                                clear c36
                                by_cases c37 : x6_1 < (l0.length : Int)
                                · rw [if_pos c37] at H
                                  have c37b0 : decide (x6_1 < (l0.length : Int)) = true := decide_eq_true c37
                                  clear c37
                                  by_cases c38 : 0 ≤ x11_5
                                  · rw [if_pos c38] at H
                                    have c38b0 := eq_true c38
                                    have c38b1 : decide (0 ≤ x11_5) = true := decide_eq_true c38
                                    clear c38
                                    obtain ⟨ji39, hji39⟩ : ∃ j_ : Int, (shr .u16 ((rd_T46 l0 x6_1).f3) x11_5) = j_ := ⟨_, rfl⟩
                                    replace H : (if (Go.bits .and .u16 (ji39) 1) = 1 then (perilunelaw32_UplinkDamage.l1 k5 l0 x3_1 x4_1 x6_1 (Int.tmod (wrap64 ((rd_T46 l0 x6_1).f0)) 32) (wrap64 (x11_5 + 1)) x218000_1 x218001_1 t227 t228 t229 t230 t231 t232 t233 t234 t235 t236 t237 t238 t239 t240 t241 t242 (pt 0 x11_5 2 x246000_5) (pt 1 x11_5 2 x246001_5) (pt 2 x11_5 2 x246002_5) (pt 3 x11_5 2 x246003_5) (pt 4 x11_5 2 x246004_5) (pt 5 x11_5 2 x246005_5) (pt 6 x11_5 2 x246006_5) (pt 7 x11_5 2 x246007_5) (pt 8 x11_5 2 x246008_5) (pt 9 x11_5 2 x246009_5) (pt 10 x11_5 2 x246010_5) (pt 11 x11_5 2 x246011_5) (pt 12 x11_5 2 x246012_5) (pt 13 x11_5 2 x246013_5) (pt 14 x11_5 2 x246014_5) (pt 15 x11_5 2 x246015_5)) else (perilunelaw32_UplinkDamage.l1 k5 l0 x3_1 x4_1 x6_1 (Int.tmod (wrap64 ((rd_T46 l0 x6_1).f0)) 32) (wrap64 (x11_5 + 1)) x218000_1 x218001_1 t227 t228 t229 t230 t231 t232 t233 t234 t235 t236 t237 t238 t239 t240 t241 t242 x246000_5 x246001_5 x246002_5 x246003_5 x246004_5 x246005_5 x246006_5 x246007_5 x246008_5 x246009_5 x246010_5 x246011_5 x246012_5 x246013_5 x246014_5 x246015_5)) = some r := by first | (rw [hji39] at H; exact H) | (simp only [hji39] at H ⊢; exact H)
                                    have hji39_ : (((rd_T46 l0 x6_1).f3) / 2 ^ min x11_5.toNat 16) = ji39 := hji39
                                    have hji39z : x11_5 ≤ 16 → (((rd_T46 l0 x6_1).f3) / 2 ^ x11_5.toNat) = ji39 := shr_small hji39
                                    by_cases c40 : (Go.bits .and .u16 (ji39) 1) = 1
                                    · rw [if_pos c40] at H
                                      have c40b0 : ((Go.bits .and .u16 (ji39) 1) == 1) = true := beq_iff_eq.mpr c40
                                      have c40b1 : ((Go.bits .and .u16 (ji39) 1) != 1) = false := bne_eq_false_iff_eq.mpr c40
                                      clear c40
                                      have H' := Aside0.mk H
                                      clear H
                                      have p260 : 0 ≤ (x6_1 : Int) := of_decide_eq_true (by first | (with_reducible assumption) | assumption)
                                      have q260 : x6_1 < (l0.length : Int) := of_decide_eq_true (by first | (with_reducible assumption) | assumption)
                                      obtain ⟨ad260, e260, hx260_0, hx260_1, hx260_2, hx260_3⟩ := at_T46 HR0.out x6_1 p260 q260
                                      obtain rfl : ad226 = ad260 := (by injection e260)
                                      replace hx260_0 := (HB.out.cell (World.block_lt_of_cell? w _ hx260_0)).trans hx260_0
                                      replace hx260_1 := (HB.out.cell (World.block_lt_of_cell? w _ hx260_1)).trans hx260_1
                                      replace hx260_2 := (HB.out.cell (World.block_lt_of_cell? w _ hx260_2)).trans hx260_2
                                      replace hx260_3 := (HB.out.cell (World.block_lt_of_cell? w _ hx260_3)).trans hx260_3
                                      replace p260 := eq_true p260
                                      replace q260 := eq_true q260
                                      have vp261 : (0 ≤ (x11_5 : Int)) = True := eq_true (of_decide_eq_true (by first | (with_reducible assumption) | assumption))
                                      have vq261 : ((x11_5 : Int) < (16 : Int)) = True := eq_true (of_decide_eq_true (by first | (with_reducible assumption) | assumption))
                                      have hvk41_0 := cellA22_0_0 (x11_5) (of_decide_eq_true (by first | (with_reducible assumption) | assumption)) (of_decide_eq_true (by first | (with_reducible assumption) | assumption)) BK245.out
                                      have hfk41_0 := blk_frozen BK245.out (x11_5.toNat)
                                      go_wp2_with (first | ((with_reducible refine gate_store (t := 5) (p := 104) rfl ?_); refine store_event (t := 5) (p := 104) (v := ?vo_w42) (w1 := (wr.setCell ⟨gb245, x11_5.toNat, none⟩ (.int .u8 2))) ?hg ?ho ?hn ?hr ?_; (case ho => rfl); (case hg => rfl); (case hn => rfl); (case hr => first | (go_simp; done) | (go_simp; rfl)); intro w42 hw; have n0_ : Aside0 (Kd.R k22 22 w42 w.heap.size (fun k_ => k_ ≠ gb244 ∧ k_ ≠ gb245) u3 x3_1) := ⟨(by rw [hw]; exact (by (with_reducible repeat (first | apply Kd.R_alloc | apply Kd.R_drewN | apply Kd.R_drew)); exact Kd.R_mono (Kd.R_far (p := ⟨gb245, x11_5.toNat, none⟩) (Kd.R_mono HO_3.out (fun k_ hk => (⟨hk, hk.2⟩ : _ ∧ k_ ≠ gb245))) (fun _ hk => hk.2) (.int .u8 2)) (fun _ hk => ⟨hk.1.1, hk.1.2⟩)))⟩; have n1_ : Aside0 (Kd.R (Kd.int .i64) 3 w42 w.heap.size (fun _ => True) u4 x4_1) := ⟨(by rw [hw]; exact (by (with_reducible repeat (first | apply Kd.R_alloc | apply Kd.R_drewN | apply Kd.R_drew)); exact Kd.R_mono (Kd.R_far (p := ⟨gb245, x11_5.toNat, none⟩) (Kd.R_types HO_4.out BK245.out (by decide)) (fun _ hk => hk.2) (.int .u8 2)) (fun _ hk => trivial)))⟩; have n2_ : Aside0 (w42.heap[gb217]? = some (.cells #[.bool x218000_1, .int .i64 x218001_1] 31 (0, 0))) := ⟨(by rw [hw]; exact (by (with_reducible repeat (first | refine blk_drewN ?_ _ | refine blk_drew ?_ | refine blk_alloc ?_ _)); refine blk_far ?_ NB217_245.out _; (with_reducible repeat (first | refine blk_drewN ?_ _ | refine blk_drew ?_ | refine blk_alloc ?_ _)); exact BK217.out))⟩; have n3_ : Aside0 (w42.heap[gb244]? = some (.cells #[.int .u8 t227, .int .u8 t228, .int .u8 t229, .int .u8 t230, .int .u8 t231, .int .u8 t232, .int .u8 t233, .int .u8 t234, .int .u8 t235, .int .u8 t236, .int .u8 t237, .int .u8 t238, .int .u8 t239, .int .u8 t240, .int .u8 t241, .int .u8 t242] 22 (0, 0))) := ⟨(by rw [hw]; exact (by (with_reducible repeat (first | refine blk_drewN ?_ _ | refine blk_drew ?_ | refine blk_alloc ?_ _)); refine blk_far ?_ NB244_245.out _; (with_reducible repeat (first | refine blk_drewN ?_ _ | refine blk_drew ?_ | refine blk_alloc ?_ _)); exact BK244.out))⟩; have n4_ : Aside0 (w42.heap[gb245]? = some (.cells #[.int .u8 (pt 0 x11_5 2 x246000_5), .int .u8 (pt 1 x11_5 2 x246001_5), .int .u8 (pt 2 x11_5 2 x246002_5), .int .u8 (pt 3 x11_5 2 x246003_5), .int .u8 (pt 4 x11_5 2 x246004_5), .int .u8 (pt 5 x11_5 2 x246005_5), .int .u8 (pt 6 x11_5 2 x246006_5), .int .u8 (pt 7 x11_5 2 x246007_5), .int .u8 (pt 8 x11_5 2 x246008_5), .int .u8 (pt 9 x11_5 2 x246009_5), .int .u8 (pt 10 x11_5 2 x246010_5), .int .u8 (pt 11 x11_5 2 x246011_5), .int .u8 (pt 12 x11_5 2 x246012_5), .int .u8 (pt 13 x11_5 2 x246013_5), .int .u8 (pt 14 x11_5 2 x246014_5), .int .u8 (pt 15 x11_5 2 x246015_5)] 22 (0, 0))) := ⟨(by rw [hw]; exact (by (with_reducible repeat (first | refine blk_drewN ?_ _ | refine blk_drew ?_ | refine blk_alloc ?_ _)); refine blk_put (cs := #[.int .u8 x246000_5, .int .u8 x246001_5, .int .u8 x246002_5, .int .u8 x246003_5, .int .u8 x246004_5, .int .u8 x246005_5, .int .u8 x246006_5, .int .u8 x246007_5, .int .u8 x246008_5, .int .u8 x246009_5, .int .u8 x246010_5, .int .u8 x246011_5, .int .u8 x246012_5, .int .u8 x246013_5, .int .u8 x246014_5, .int .u8 x246015_5]) ?_ (x11_5.toNat) _ (putA22_0_0 x11_5 (of_decide_eq_true (by first | (with_reducible assumption) | assumption)) (of_decide_eq_true (by first | (with_reducible assumption) | assumption)) 2); (with_reducible repeat (first | refine blk_drewN ?_ _ | refine blk_drew ?_ | refine blk_alloc ?_ _)); exact BK245.out))⟩; have n5_ : Aside0 (Below w.heap.size w w42) := ⟨(by rw [hw]; exact (by repeat (first | (with_reducible first | exact HB.out | apply below_alloc | apply pw_below_drewN | apply below_drew1 | refine below_set ?_ GE217.out | refine below_set ?_ GE244.out | refine below_set ?_ GE245.out) | exact HB.out)))⟩; clear hw; clear HO_3; clear HO_4; clear BK217; clear BK244; clear BK245; clear HB; have HO_3 := n0_; have HO_4 := n1_; have BK217 := n2_; have BK244 := n3_; have BK245 := n4_; have HB := n5_; clear n0_ n1_ n2_ n3_ n4_ n5_))
                                      go_roundg k5
                                      case measure => have := HK1.out; have := HJ8.out; have := HJ19.out; have := HJ25.out; have := HK5.out; omega
                                      case rel => exact ⟨(wrap64 (x11_5 + 1)), (pt 0 x11_5 2 x246000_5), (pt 1 x11_5 2 x246001_5), (pt 2 x11_5 2 x246002_5), (pt 3 x11_5 2 x246003_5), (pt 4 x11_5 2 x246004_5), (pt 5 x11_5 2 x246005_5), (pt 6 x11_5 2 x246006_5), (pt 7 x11_5 2 x246007_5), (pt 8 x11_5 2 x246008_5), (pt 9 x11_5 2 x246009_5), (pt 10 x11_5 2 x246010_5), (pt 11 x11_5 2 x246011_5), (pt 12 x11_5 2 x246012_5), (pt 13 x11_5 2 x246013_5), (pt 14 x11_5 2 x246014_5), (pt 15 x11_5 2 x246015_5), (by first | rfl | (simp; done) | (simp [*]; done)), H', ⟨by have := HK1.out; have := HJ8.out; have := HJ19.out; have := HJ25.out; have := HK5.out; omega⟩, ⟨by (with_reducible repeat (first | apply Kd.R_alloc | apply Kd.R_drewN | apply Kd.R_drew)); exact HO_3.out⟩, ⟨by (with_reducible repeat (first | apply Kd.R_alloc | apply Kd.R_drewN | apply Kd.R_drew)); exact HO_4.out⟩, ⟨by (with_reducible repeat (first | refine blk_drewN ?_ _ | refine blk_drew ?_ | refine blk_alloc ?_ _)); exact BK217.out⟩, ⟨by (with_reducible repeat (first | refine blk_drewN ?_ _ | refine blk_drew ?_ | refine blk_alloc ?_ _)); exact BK244.out⟩, ⟨by (with_reducible repeat (first | refine blk_drewN ?_ _ | refine blk_drew ?_ | refine blk_alloc ?_ _)); exact BK245.out⟩, ⟨by repeat (first | (with_reducible first | exact HB.out | apply below_alloc | apply pw_below_drewN | apply below_drew1 | refine below_set ?_ GE217.out | refine below_set ?_ GE244.out | refine below_set ?_ GE245.out) | exact HB.out)⟩⟩
                                    · rw [if_neg c40] at H
                                      have c40b0 : ((Go.bits .and .u16 (ji39) 1) == 1) = false := beq_eq_false_iff_ne.mpr c40
                                      have c40b1 : ((Go.bits .and .u16 (ji39) 1) != 1) = true := bne_iff_ne.mpr c40
                                      have H' := Aside0.mk H
                                      clear H
                                      have p260 : 0 ≤ (x6_1 : Int) := of_decide_eq_true (by first | (with_reducible assumption) | assumption)
                                      have q260 : x6_1 < (l0.length : Int) := of_decide_eq_true (by first | (with_reducible assumption) | assumption)
                                      obtain ⟨ad260, e260, hx260_0, hx260_1, hx260_2, hx260_3⟩ := at_T46 HR0.out x6_1 p260 q260
                                      obtain rfl : ad226 = ad260 := (by injection e260)
                                      replace hx260_0 := (HB.out.cell (World.block_lt_of_cell? w _ hx260_0)).trans hx260_0
                                      replace hx260_1 := (HB.out.cell (World.block_lt_of_cell? w _ hx260_1)).trans hx260_1
                                      replace hx260_2 := (HB.out.cell (World.block_lt_of_cell? w _ hx260_2)).trans hx260_2
                                      replace hx260_3 := (HB.out.cell (World.block_lt_of_cell? w _ hx260_3)).trans hx260_3
                                      replace p260 := eq_true p260
                                      replace q260 := eq_true q260
                                      go_wp2
                                      go_roundg k5
                                      case measure => have := HK1.out; have := HJ8.out; have := HJ19.out; have := HJ25.out; have := HK5.out; omega
                                      case rel => exact ⟨(wrap64 (x11_5 + 1)), (x246000_5), (x246001_5), (x246002_5), (x246003_5), (x246004_5), (x246005_5), (x246006_5), (x246007_5), (x246008_5), (x246009_5), (x246010_5), (x246011_5), (x246012_5), (x246013_5), (x246014_5), (x246015_5), (by first | rfl | (simp; done) | (simp [*]; done)), H', ⟨by have := HK1.out; have := HJ8.out; have := HJ19.out; have := HJ25.out; have := HK5.out; omega⟩, ⟨by (with_reducible repeat (first | apply Kd.R_alloc | apply Kd.R_drewN | apply Kd.R_drew)); exact HO_3.out⟩, ⟨by (with_reducible repeat (first | apply Kd.R_alloc | apply Kd.R_drewN | apply Kd.R_drew)); exact HO_4.out⟩, ⟨by (with_reducible repeat (first | refine blk_drewN ?_ _ | refine blk_drew ?_ | refine blk_alloc ?_ _)); exact BK217.out⟩, ⟨by (with_reducible repeat (first | refine blk_drewN ?_ _ | refine blk_drew ?_ | refine blk_alloc ?_ _)); exact BK244.out⟩, ⟨by (with_reducible repeat (first | refine blk_drewN ?_ _ | refine blk_drew ?_ | refine blk_alloc ?_ _)); exact BK245.out⟩, ⟨by repeat (first | (with_reducible first | exact HB.out | apply below_alloc | apply pw_below_drewN | apply below_drew1 | refine below_set ?_ GE217.out | refine below_set ?_ GE244.out | refine below_set ?_ GE245.out) | exact HB.out)⟩⟩
                                  · rw [if_neg c38] at H
                                    exact absurd H (by simp)
                                · rw [if_neg c37] at H
                                  exact absurd H (by simp)
                              · rw [if_neg c36] at H
                                exact absurd H (by simp)
                            · rw [if_neg c35] at H
                              have c35b0 : decide (x11_5 < 16) = false := decide_eq_false c35
                              clear c35
                              by_cases c43 : x3_1.length < 8796093022208
                              · rw [if_pos c43] at H
                                have LMc43 := Aside0.mk c43
                                clear c43
                                obtain ⟨y262, hy262⟩ : ∃ y_ : List (S22), y_ = (x3_1 ++ [(⟨x246000_5, x246001_5, x246002_5, x246003_5, x246004_5, x246005_5, x246006_5, x246007_5, x246008_5, x246009_5, x246010_5, x246011_5, x246012_5, x246013_5, x246014_5, x246015_5⟩ : S22)]) := ⟨_, rfl⟩
                                replace H : (if (!(x246000_5 == t227) || (!(x246001_5 == t228) || (!(x246002_5 == t229) || (!(x246003_5 == t230) || (!(x246004_5 == t231) || (!(x246005_5 == t232) || (!(x246006_5 == t233) || (!(x246007_5 == t234) || (!(x246008_5 == t235) || (!(x246009_5 == t236) || (!(x246010_5 == t237) || (!(x246011_5 == t238) || (!(x246012_5 == t239) || (!(x246013_5 == t240) || (!(x246014_5 == t241) || (!(x246015_5 == t242))))))))))))))))) = true then (perilunelaw32_UplinkDamage.l0 k5 l0 y262 x4_1 (wrap64 (x6_1 + 1)) true (wrap64 (x218001_1 + 1))) else (if x218000_1 = true then (perilunelaw32_UplinkDamage.l0 k5 l0 y262 x4_1 (wrap64 (x6_1 + 1)) ((Int.tmod (wrap64 ((rd_T46 l0 x6_1).f0)) 32) != 18) x218001_1) else (if x4_1.length < 17592186044416 then (perilunelaw32_UplinkDamage.l0 k5 l0 y262 (x4_1 ++ [(Int.tmod (wrap64 ((rd_T46 l0 x6_1).f0)) 32)]) (wrap64 (x6_1 + 1)) x218000_1 x218001_1) else (none)))) = some r := by first | (rw [hy262]; with_reducible exact H) | (have H2_ := (Option.bind_some _ _).symm.trans H; rw [hy262]; with_reducible exact H2_) | (have H2_ := (Option.bind_some _ _).symm.trans H; with_reducible exact H2_) | with_reducible exact H | (rw [hy262]; exact H) | exact H
                                have Ny262 := Aside0.mk hy262
                                clear hy262
                                by_cases c44 : (!(x246000_5 == t227) || (!(x246001_5 == t228) || (!(x246002_5 == t229) || (!(x246003_5 == t230) || (!(x246004_5 == t231) || (!(x246005_5 == t232) || (!(x246006_5 == t233) || (!(x246007_5 == t234) || (!(x246008_5 == t235) || (!(x246009_5 == t236) || (!(x246010_5 == t237) || (!(x246011_5 == t238) || (!(x246012_5 == t239) || (!(x246013_5 == t240) || (!(x246014_5 == t241) || (!(x246015_5 == t242))))))))))))))))) = true
                                · rw [if_pos c44] at H
                                  have c44b0 : (!(x246000_5 == t227) || (!(x246001_5 == t228) || (!(x246002_5 == t229) || (!(x246003_5 == t230) || (!(x246004_5 == t231) || (!(x246005_5 == t232) || (!(x246006_5 == t233) || (!(x246007_5 == t234) || (!(x246008_5 == t235) || (!(x246009_5 == t236) || (!(x246010_5 == t237) || (!(x246011_5 == t238) || (!(x246012_5 == t239) || (!(x246013_5 == t240) || (!(x246014_5 == t241) || (!(x246015_5 == t242))))))))))))))))) = true := c44
                                  clear c44
                                  have H' := Aside0.mk H
                                  clear H
                                  go_wp2_with (first | ((with_reducible refine gate_dst (N := 106) rfl ?_); refine seg_load_on (t := 22) (p := 10) (g := gb245) (off := 0) (T := 22) (cur := #[.int .u8 x246000_5, .int .u8 x246001_5, .int .u8 x246002_5, .int .u8 x246003_5, .int .u8 x246004_5, .int .u8 x246005_5, .int .u8 x246006_5, .int .u8 x246007_5, .int .u8 x246008_5, .int .u8 x246009_5, .int .u8 x246010_5, .int .u8 x246011_5, .int .u8 x246012_5, .int .u8 x246013_5, .int .u8 x246014_5, .int .u8 x246015_5]) (vs := [.int .u8 x246000_5, .int .u8 x246001_5, .int .u8 x246002_5, .int .u8 x246003_5, .int .u8 x246004_5, .int .u8 x246005_5, .int .u8 x246006_5, .int .u8 x246007_5, .int .u8 x246008_5, .int .u8 x246009_5, .int .u8 x246010_5, .int .u8 x246011_5, .int .u8 x246012_5, .int .u8 x246013_5, .int .u8 x246014_5, .int .u8 x246015_5]) ?hg ?ho ?hp ?hb Try.underlying22 ?hd ?hi ?hw ?_; (case ho => rfl); (case hg => first | rfl | (go_simp; done) | (simp [Region.wanted, yielded, *]; done)); (case hp => rfl); (case hb => exact (by (with_reducible repeat (first | refine blk_drewN ?_ _ | refine blk_drew ?_ | refine blk_alloc ?_ _)); exact BK245.out)); (case hd => rfl); (case hi => kernel_rfl); (case hw => rfl)) | ((with_reducible refine gate_builtin (b := .append) (xs := #[.tmp 105, .tmp 107]) rfl ?_); at_builtin; refine Kd.R_append k22 (w0 := w) w.heap.size rfl (.tmp 105) (.tmp 107) 37 22 (.agg #[(.int .u8 0), (.int .u8 0), (.int .u8 0), (.int .u8 0), (.int .u8 0), (.int .u8 0), (.int .u8 0), (.int .u8 0), (.int .u8 0), (.int .u8 0), (.int .u8 0), (.int .u8 0), (.int .u8 0), (.int .u8 0), (.int .u8 0), (.int .u8 0)]) 16 rfl Try.underlying37 info22 rfl (by decide) (by omega) u3 x3_1 (⟨x246000_5, x246001_5, x246002_5, x246003_5, x246004_5, x246005_5, x246006_5, x246007_5, x246008_5, x246009_5, x246010_5, x246011_5, x246012_5, x246013_5, x246014_5, x246015_5⟩ : S22) [.int .u8 x246000_5, .int .u8 x246001_5, .int .u8 x246002_5, .int .u8 x246003_5, .int .u8 x246004_5, .int .u8 x246005_5, .int .u8 x246006_5, .int .u8 x246007_5, .int .u8 x246008_5, .int .u8 x246009_5, .int .u8 x246010_5, .int .u8 x246011_5, .int .u8 x246012_5, .int .u8 x246013_5, .int .u8 x246014_5, .int .u8 x246015_5] (fun k_ => k_ ≠ gb244 ∧ k_ ≠ gb245) (fun _ => False) rfl rfl ?aP (fun _ hk => hk.elim) ?aF ?aO ?aB ?aS ?aL ?_; (case aP => exact k22_mkM _ _ _ (⟨x246000_5, x246001_5, x246002_5, x246003_5, x246004_5, x246005_5, x246006_5, x246007_5, x246008_5, x246009_5, x246010_5, x246011_5, x246012_5, x246013_5, x246014_5, x246015_5⟩ : S22)); (case aB => exact (by repeat (first | (with_reducible first | exact HB.out | apply below_alloc | apply pw_below_drewN | apply below_drew1 | refine below_set ?_ GE217.out | refine below_set ?_ GE244.out | refine below_set ?_ GE245.out) | exact HB.out))); (case aF => exact (fun k_ hk => ⟨Kd.freshB (g := gb244) (o := .cells #[.int .u8 t227, .int .u8 t228, .int .u8 t229, .int .u8 t230, .int .u8 t231, .int .u8 t232, .int .u8 t233, .int .u8 t234, .int .u8 t235, .int .u8 t236, .int .u8 t237, .int .u8 t238, .int .u8 t239, .int .u8 t240, .int .u8 t241, .int .u8 t242] 22 (0, 0)) (by (with_reducible repeat (first | refine blk_drewN ?_ _ | refine blk_drew ?_ | refine blk_alloc ?_ _)); exact BK244.out) k_ hk, Kd.freshB (g := gb245) (o := .cells #[.int .u8 x246000_5, .int .u8 x246001_5, .int .u8 x246002_5, .int .u8 x246003_5, .int .u8 x246004_5, .int .u8 x246005_5, .int .u8 x246006_5, .int .u8 x246007_5, .int .u8 x246008_5, .int .u8 x246009_5, .int .u8 x246010_5, .int .u8 x246011_5, .int .u8 x246012_5, .int .u8 x246013_5, .int .u8 x246014_5, .int .u8 x246015_5] 22 (0, 0)) (by (with_reducible repeat (first | refine blk_drewN ?_ _ | refine blk_drew ?_ | refine blk_alloc ?_ _)); exact BK245.out) k_ hk⟩)); (case aO => exact (by (with_reducible repeat (first | apply Kd.R_alloc | apply Kd.R_drewN | apply Kd.R_drew)); exact HO_3.out)); (case aS => exact (below_size (by repeat (first | (with_reducible first | exact HB.out | apply below_alloc | apply pw_below_drewN | apply below_drew1 | refine below_set ?_ GE217.out | refine below_set ?_ GE244.out | refine below_set ?_ GE245.out) | exact HB.out)))); (case aL => have := LMc43.out; omega); intro v263 w45 ho hb hg hat; rw [← Ny262.out] at ho; have n0_ := Aside0.mk (Kd.R_over' (by (with_reducible repeat (first | apply Kd.R_alloc | apply Kd.R_drewN | apply Kd.R_drew)); exact HO_4.out) (Kd.R_typed (by (with_reducible repeat (first | apply Kd.R_alloc | apply Kd.R_drewN | apply Kd.R_drew)); exact HO_3.out)) (by decide) hg); have n1_ := Aside0.mk (blk_grown (g := gb217) (o := .cells #[.bool x218000_1, .int .i64 x218001_1] 31 (0, 0)) (by (with_reducible repeat (first | refine blk_drewN ?_ _ | refine blk_drew ?_ | refine blk_alloc ?_ _)); exact BK217.out) hg (Kd.R_ne HO_3.out BK217.out (by decide))); have n2_ := Aside0.mk (blk_grown (g := gb244) (o := .cells #[.int .u8 t227, .int .u8 t228, .int .u8 t229, .int .u8 t230, .int .u8 t231, .int .u8 t232, .int .u8 t233, .int .u8 t234, .int .u8 t235, .int .u8 t236, .int .u8 t237, .int .u8 t238, .int .u8 t239, .int .u8 t240, .int .u8 t241, .int .u8 t242] 22 (0, 0)) (by (with_reducible repeat (first | refine blk_drewN ?_ _ | refine blk_drew ?_ | refine blk_alloc ?_ _)); exact BK244.out) hg (Kd.R_away HO_3.out (fun _ hk => hk.1))); have n3_ := Aside0.mk (blk_grown (g := gb245) (o := .cells #[.int .u8 x246000_5, .int .u8 x246001_5, .int .u8 x246002_5, .int .u8 x246003_5, .int .u8 x246004_5, .int .u8 x246005_5, .int .u8 x246006_5, .int .u8 x246007_5, .int .u8 x246008_5, .int .u8 x246009_5, .int .u8 x246010_5, .int .u8 x246011_5, .int .u8 x246012_5, .int .u8 x246013_5, .int .u8 x246014_5, .int .u8 x246015_5] 22 (0, 0)) (by (with_reducible repeat (first | refine blk_drewN ?_ _ | refine blk_drew ?_ | refine blk_alloc ?_ _)); exact BK245.out) hg (Kd.R_away HO_3.out (fun _ hk => hk.2))); have n4_ := Aside0.mk (hb); have n5_ := Aside0.mk (ho); clear HO_4; clear BK217; clear BK244; clear BK245; clear HB; clear HO_3; have HO_4 := n0_; have BK217 := n1_; have BK244 := n2_; have BK245 := n3_; have HB := n4_; have HO264 := n5_; clear n0_ n1_ n2_ n3_ n4_ n5_; clear ho hb hg hat) | ((with_reducible refine gate_dst (N := 109) rfl ?_); refine seg_load_on (t := 22) (p := 10) (g := gb245) (off := 0) (T := 22) (cur := #[.int .u8 x246000_5, .int .u8 x246001_5, .int .u8 x246002_5, .int .u8 x246003_5, .int .u8 x246004_5, .int .u8 x246005_5, .int .u8 x246006_5, .int .u8 x246007_5, .int .u8 x246008_5, .int .u8 x246009_5, .int .u8 x246010_5, .int .u8 x246011_5, .int .u8 x246012_5, .int .u8 x246013_5, .int .u8 x246014_5, .int .u8 x246015_5]) (vs := [.int .u8 x246000_5, .int .u8 x246001_5, .int .u8 x246002_5, .int .u8 x246003_5, .int .u8 x246004_5, .int .u8 x246005_5, .int .u8 x246006_5, .int .u8 x246007_5, .int .u8 x246008_5, .int .u8 x246009_5, .int .u8 x246010_5, .int .u8 x246011_5, .int .u8 x246012_5, .int .u8 x246013_5, .int .u8 x246014_5, .int .u8 x246015_5]) ?hg ?ho ?hp ?hb Try.underlying22 ?hd ?hi ?hw ?_; (case ho => rfl); (case hg => first | rfl | (go_simp; done) | (simp [Region.wanted, yielded, *]; done)); (case hp => rfl); (case hb => exact (by (with_reducible repeat (first | refine blk_drewN ?_ _ | refine blk_drew ?_ | refine blk_alloc ?_ _)); exact BK245.out)); (case hd => rfl); (case hi => kernel_rfl); (case hw => rfl)) | ((with_reducible refine gate_dst (N := 110) rfl ?_); refine seg_load_on (t := 22) (p := 8) (g := gb244) (off := 0) (T := 22) (cur := #[.int .u8 t227, .int .u8 t228, .int .u8 t229, .int .u8 t230, .int .u8 t231, .int .u8 t232, .int .u8 t233, .int .u8 t234, .int .u8 t235, .int .u8 t236, .int .u8 t237, .int .u8 t238, .int .u8 t239, .int .u8 t240, .int .u8 t241, .int .u8 t242]) (vs := [.int .u8 t227, .int .u8 t228, .int .u8 t229, .int .u8 t230, .int .u8 t231, .int .u8 t232, .int .u8 t233, .int .u8 t234, .int .u8 t235, .int .u8 t236, .int .u8 t237, .int .u8 t238, .int .u8 t239, .int .u8 t240, .int .u8 t241, .int .u8 t242]) ?hg ?ho ?hp ?hb Try.underlying22 ?hd ?hi ?hw ?_; (case ho => rfl); (case hg => first | rfl | (go_simp; done) | (simp [Region.wanted, yielded, *]; done)); (case hp => rfl); (case hb => exact (by (with_reducible repeat (first | refine blk_drewN ?_ _ | refine blk_drew ?_ | refine blk_alloc ?_ _)); exact BK244.out)); (case hd => rfl); (case hi => kernel_rfl); (case hw => rfl); have hnb46 := NB217_244.out; have hnc46 := NB244_217.out; have hnb47 := NB217_245.out; have hnc47 := NB245_217.out; have hcz48_0 : w45.cell? ⟨gb217, 0, none⟩ = some (.bool x218000_1) := (blk_cell BK217.out 0).trans rfl; have hcz48_1 : w45.cell? ⟨gb217, 1, none⟩ = some (.int .i64 x218001_1) := (blk_cell BK217.out 1).trans rfl; have hfz48_0 := blk_frozen BK217.out 0; have hfz48_1 := blk_frozen BK217.out 1))
                                  go_roundg k5
                                  case measure => have := HK1.out; have := HJ8.out; have := HJ19.out; have := HJ25.out; have := HK5.out; omega
                                  case rel => exact ⟨(y262), (x4_1), (wrap64 (x6_1 + 1)), (true), (wrap64 (x218001_1 + 1)), (by first | rfl | (simp; done) | (simp [*]; done)), H', ⟨by have := HK1.out; have := HJ8.out; have := HJ19.out; have := HJ25.out; have := HK5.out; omega⟩, ⟨by (with_reducible repeat (first | apply Kd.R_alloc | apply Kd.R_drewN | apply Kd.R_drew)); exact Kd.R_mono (Kd.R_far (p := ⟨gb217, 1, none⟩) (Kd.R_far (p := ⟨gb217, 0, none⟩) (Kd.R_types HO264.out BK217.out (by decide)) (fun _ hk => hk.2) (.bool true)) (fun _ hk => hk.2) (.int .i64 (wrap64 (x218001_1 + 1)))) (fun _ hk => trivial)⟩, ⟨by (with_reducible repeat (first | apply Kd.R_alloc | apply Kd.R_drewN | apply Kd.R_drew)); exact Kd.R_mono (Kd.R_far (p := ⟨gb217, 1, none⟩) (Kd.R_far (p := ⟨gb217, 0, none⟩) (Kd.R_types HO_4.out BK217.out (by decide)) (fun _ hk => hk.2) (.bool true)) (fun _ hk => hk.2) (.int .i64 (wrap64 (x218001_1 + 1)))) (fun _ hk => trivial)⟩, ⟨by (with_reducible repeat (first | refine blk_drewN ?_ _ | refine blk_drew ?_ | refine blk_alloc ?_ _)); refine blk_put (cs := #[.bool true, .int .i64 x218001_1]) ?_ (1) _ rfl; (with_reducible repeat (first | refine blk_drewN ?_ _ | refine blk_drew ?_ | refine blk_alloc ?_ _)); refine blk_put (cs := #[.bool x218000_1, .int .i64 x218001_1]) ?_ (0) _ rfl; (with_reducible repeat (first | refine blk_drewN ?_ _ | refine blk_drew ?_ | refine blk_alloc ?_ _)); exact BK217.out⟩, ⟨by repeat (first | (with_reducible first | exact HB.out | apply below_alloc | apply pw_below_drewN | apply below_drew1 | refine below_set ?_ GE217.out | refine below_set ?_ GE244.out | refine below_set ?_ GE245.out) | exact HB.out)⟩⟩
                                · rw [if_neg c44] at H
                                  have c44b0 : (!(x246000_5 == t227) || (!(x246001_5 == t228) || (!(x246002_5 == t229) || (!(x246003_5 == t230) || (!(x246004_5 == t231) || (!(x246005_5 == t232) || (!(x246006_5 == t233) || (!(x246007_5 == t234) || (!(x246008_5 == t235) || (!(x246009_5 == t236) || (!(x246010_5 == t237) || (!(x246011_5 == t238) || (!(x246012_5 == t239) || (!(x246013_5 == t240) || (!(x246014_5 == t241) || (!(x246015_5 == t242))))))))))))))))) = false := by simpa using c44
                                  clear c44
                                  by_cases c49 : x218000_1 = true
                                  · subst c49
                                    have H1 : (perilunelaw32_UplinkDamage.l0 k5 l0 y262 x4_1 (wrap64 (x6_1 + 1)) ((Int.tmod (wrap64 ((rd_T46 l0 x6_1).f0)) 32) != 18) x218001_1) = some r := by rw [if_pos rfl] at H; exact H
                                    clear H
                                    have H := H1
                                    clear H1
                                    have H' := Aside0.mk H
                                    clear H
                                    go_wp2_with (first | ((with_reducible refine gate_dst (N := 106) rfl ?_); refine seg_load_on (t := 22) (p := 10) (g := gb245) (off := 0) (T := 22) (cur := #[.int .u8 x246000_5, .int .u8 x246001_5, .int .u8 x246002_5, .int .u8 x246003_5, .int .u8 x246004_5, .int .u8 x246005_5, .int .u8 x246006_5, .int .u8 x246007_5, .int .u8 x246008_5, .int .u8 x246009_5, .int .u8 x246010_5, .int .u8 x246011_5, .int .u8 x246012_5, .int .u8 x246013_5, .int .u8 x246014_5, .int .u8 x246015_5]) (vs := [.int .u8 x246000_5, .int .u8 x246001_5, .int .u8 x246002_5, .int .u8 x246003_5, .int .u8 x246004_5, .int .u8 x246005_5, .int .u8 x246006_5, .int .u8 x246007_5, .int .u8 x246008_5, .int .u8 x246009_5, .int .u8 x246010_5, .int .u8 x246011_5, .int .u8 x246012_5, .int .u8 x246013_5, .int .u8 x246014_5, .int .u8 x246015_5]) ?hg ?ho ?hp ?hb Try.underlying22 ?hd ?hi ?hw ?_; (case ho => rfl); (case hg => first | rfl | (go_simp; done) | (simp [Region.wanted, yielded, *]; done)); (case hp => rfl); (case hb => exact (by (with_reducible repeat (first | refine blk_drewN ?_ _ | refine blk_drew ?_ | refine blk_alloc ?_ _)); exact BK245.out)); (case hd => rfl); (case hi => kernel_rfl); (case hw => rfl)) | ((with_reducible refine gate_builtin (b := .append) (xs := #[.tmp 105, .tmp 107]) rfl ?_); at_builtin; refine Kd.R_append k22 (w0 := w) w.heap.size rfl (.tmp 105) (.tmp 107) 37 22 (.agg #[(.int .u8 0), (.int .u8 0), (.int .u8 0), (.int .u8 0), (.int .u8 0), (.int .u8 0), (.int .u8 0), (.int .u8 0), (.int .u8 0), (.int .u8 0), (.int .u8 0), (.int .u8 0), (.int .u8 0), (.int .u8 0), (.int .u8 0), (.int .u8 0)]) 16 rfl Try.underlying37 info22 rfl (by decide) (by omega) u3 x3_1 (⟨x246000_5, x246001_5, x246002_5, x246003_5, x246004_5, x246005_5, x246006_5, x246007_5, x246008_5, x246009_5, x246010_5, x246011_5, x246012_5, x246013_5, x246014_5, x246015_5⟩ : S22) [.int .u8 x246000_5, .int .u8 x246001_5, .int .u8 x246002_5, .int .u8 x246003_5, .int .u8 x246004_5, .int .u8 x246005_5, .int .u8 x246006_5, .int .u8 x246007_5, .int .u8 x246008_5, .int .u8 x246009_5, .int .u8 x246010_5, .int .u8 x246011_5, .int .u8 x246012_5, .int .u8 x246013_5, .int .u8 x246014_5, .int .u8 x246015_5] (fun k_ => k_ ≠ gb244 ∧ k_ ≠ gb245) (fun _ => False) rfl rfl ?aP (fun _ hk => hk.elim) ?aF ?aO ?aB ?aS ?aL ?_; (case aP => exact k22_mkM _ _ _ (⟨x246000_5, x246001_5, x246002_5, x246003_5, x246004_5, x246005_5, x246006_5, x246007_5, x246008_5, x246009_5, x246010_5, x246011_5, x246012_5, x246013_5, x246014_5, x246015_5⟩ : S22)); (case aB => exact (by repeat (first | (with_reducible first | exact HB.out | apply below_alloc | apply pw_below_drewN | apply below_drew1 | refine below_set ?_ GE217.out | refine below_set ?_ GE244.out | refine below_set ?_ GE245.out) | exact HB.out))); (case aF => exact (fun k_ hk => ⟨Kd.freshB (g := gb244) (o := .cells #[.int .u8 t227, .int .u8 t228, .int .u8 t229, .int .u8 t230, .int .u8 t231, .int .u8 t232, .int .u8 t233, .int .u8 t234, .int .u8 t235, .int .u8 t236, .int .u8 t237, .int .u8 t238, .int .u8 t239, .int .u8 t240, .int .u8 t241, .int .u8 t242] 22 (0, 0)) (by (with_reducible repeat (first | refine blk_drewN ?_ _ | refine blk_drew ?_ | refine blk_alloc ?_ _)); exact BK244.out) k_ hk, Kd.freshB (g := gb245) (o := .cells #[.int .u8 x246000_5, .int .u8 x246001_5, .int .u8 x246002_5, .int .u8 x246003_5, .int .u8 x246004_5, .int .u8 x246005_5, .int .u8 x246006_5, .int .u8 x246007_5, .int .u8 x246008_5, .int .u8 x246009_5, .int .u8 x246010_5, .int .u8 x246011_5, .int .u8 x246012_5, .int .u8 x246013_5, .int .u8 x246014_5, .int .u8 x246015_5] 22 (0, 0)) (by (with_reducible repeat (first | refine blk_drewN ?_ _ | refine blk_drew ?_ | refine blk_alloc ?_ _)); exact BK245.out) k_ hk⟩)); (case aO => exact (by (with_reducible repeat (first | apply Kd.R_alloc | apply Kd.R_drewN | apply Kd.R_drew)); exact HO_3.out)); (case aS => exact (below_size (by repeat (first | (with_reducible first | exact HB.out | apply below_alloc | apply pw_below_drewN | apply below_drew1 | refine below_set ?_ GE217.out | refine below_set ?_ GE244.out | refine below_set ?_ GE245.out) | exact HB.out)))); (case aL => have := LMc43.out; omega); intro v263 w50 ho hb hg hat; rw [← Ny262.out] at ho; have n0_ := Aside0.mk (Kd.R_over' (by (with_reducible repeat (first | apply Kd.R_alloc | apply Kd.R_drewN | apply Kd.R_drew)); exact HO_4.out) (Kd.R_typed (by (with_reducible repeat (first | apply Kd.R_alloc | apply Kd.R_drewN | apply Kd.R_drew)); exact HO_3.out)) (by decide) hg); have n1_ := Aside0.mk (blk_grown (g := gb217) (o := .cells #[.bool true, .int .i64 x218001_1] 31 (0, 0)) (by (with_reducible repeat (first | refine blk_drewN ?_ _ | refine blk_drew ?_ | refine blk_alloc ?_ _)); exact BK217.out) hg (Kd.R_ne HO_3.out BK217.out (by decide))); have n2_ := Aside0.mk (blk_grown (g := gb244) (o := .cells #[.int .u8 t227, .int .u8 t228, .int .u8 t229, .int .u8 t230, .int .u8 t231, .int .u8 t232, .int .u8 t233, .int .u8 t234, .int .u8 t235, .int .u8 t236, .int .u8 t237, .int .u8 t238, .int .u8 t239, .int .u8 t240, .int .u8 t241, .int .u8 t242] 22 (0, 0)) (by (with_reducible repeat (first | refine blk_drewN ?_ _ | refine blk_drew ?_ | refine blk_alloc ?_ _)); exact BK244.out) hg (Kd.R_away HO_3.out (fun _ hk => hk.1))); have n3_ := Aside0.mk (blk_grown (g := gb245) (o := .cells #[.int .u8 x246000_5, .int .u8 x246001_5, .int .u8 x246002_5, .int .u8 x246003_5, .int .u8 x246004_5, .int .u8 x246005_5, .int .u8 x246006_5, .int .u8 x246007_5, .int .u8 x246008_5, .int .u8 x246009_5, .int .u8 x246010_5, .int .u8 x246011_5, .int .u8 x246012_5, .int .u8 x246013_5, .int .u8 x246014_5, .int .u8 x246015_5] 22 (0, 0)) (by (with_reducible repeat (first | refine blk_drewN ?_ _ | refine blk_drew ?_ | refine blk_alloc ?_ _)); exact BK245.out) hg (Kd.R_away HO_3.out (fun _ hk => hk.2))); have n4_ := Aside0.mk (hb); have n5_ := Aside0.mk (ho); clear HO_4; clear BK217; clear BK244; clear BK245; clear HB; clear HO_3; have HO_4 := n0_; have BK217 := n1_; have BK244 := n2_; have BK245 := n3_; have HB := n4_; have HO264 := n5_; clear n0_ n1_ n2_ n3_ n4_ n5_; clear ho hb hg hat) | ((with_reducible refine gate_dst (N := 109) rfl ?_); refine seg_load_on (t := 22) (p := 10) (g := gb245) (off := 0) (T := 22) (cur := #[.int .u8 x246000_5, .int .u8 x246001_5, .int .u8 x246002_5, .int .u8 x246003_5, .int .u8 x246004_5, .int .u8 x246005_5, .int .u8 x246006_5, .int .u8 x246007_5, .int .u8 x246008_5, .int .u8 x246009_5, .int .u8 x246010_5, .int .u8 x246011_5, .int .u8 x246012_5, .int .u8 x246013_5, .int .u8 x246014_5, .int .u8 x246015_5]) (vs := [.int .u8 x246000_5, .int .u8 x246001_5, .int .u8 x246002_5, .int .u8 x246003_5, .int .u8 x246004_5, .int .u8 x246005_5, .int .u8 x246006_5, .int .u8 x246007_5, .int .u8 x246008_5, .int .u8 x246009_5, .int .u8 x246010_5, .int .u8 x246011_5, .int .u8 x246012_5, .int .u8 x246013_5, .int .u8 x246014_5, .int .u8 x246015_5]) ?hg ?ho ?hp ?hb Try.underlying22 ?hd ?hi ?hw ?_; (case ho => rfl); (case hg => first | rfl | (go_simp; done) | (simp [Region.wanted, yielded, *]; done)); (case hp => rfl); (case hb => exact (by (with_reducible repeat (first | refine blk_drewN ?_ _ | refine blk_drew ?_ | refine blk_alloc ?_ _)); exact BK245.out)); (case hd => rfl); (case hi => kernel_rfl); (case hw => rfl)) | ((with_reducible refine gate_dst (N := 110) rfl ?_); refine seg_load_on (t := 22) (p := 8) (g := gb244) (off := 0) (T := 22) (cur := #[.int .u8 t227, .int .u8 t228, .int .u8 t229, .int .u8 t230, .int .u8 t231, .int .u8 t232, .int .u8 t233, .int .u8 t234, .int .u8 t235, .int .u8 t236, .int .u8 t237, .int .u8 t238, .int .u8 t239, .int .u8 t240, .int .u8 t241, .int .u8 t242]) (vs := [.int .u8 t227, .int .u8 t228, .int .u8 t229, .int .u8 t230, .int .u8 t231, .int .u8 t232, .int .u8 t233, .int .u8 t234, .int .u8 t235, .int .u8 t236, .int .u8 t237, .int .u8 t238, .int .u8 t239, .int .u8 t240, .int .u8 t241, .int .u8 t242]) ?hg ?ho ?hp ?hb Try.underlying22 ?hd ?hi ?hw ?_; (case ho => rfl); (case hg => first | rfl | (go_simp; done) | (simp [Region.wanted, yielded, *]; done)); (case hp => rfl); (case hb => exact (by (with_reducible repeat (first | refine blk_drewN ?_ _ | refine blk_drew ?_ | refine blk_alloc ?_ _)); exact BK244.out)); (case hd => rfl); (case hi => kernel_rfl); (case hw => rfl); have hnb51 := NB217_244.out; have hnc51 := NB244_217.out; have hnb52 := NB217_245.out; have hnc52 := NB245_217.out; have hcz53_0 : w50.cell? ⟨gb217, 0, none⟩ = some (.bool true) := (blk_cell BK217.out 0).trans rfl; have hcz53_1 : w50.cell? ⟨gb217, 1, none⟩ = some (.int .i64 x218001_1) := (blk_cell BK217.out 1).trans rfl; have hfz53_0 := blk_frozen BK217.out 0; have hfz53_1 := blk_frozen BK217.out 1))
                                    go_roundg k5
                                    case measure => have := HK1.out; have := HJ8.out; have := HJ19.out; have := HJ25.out; have := HK5.out; omega
                                    case rel => exact ⟨(y262), (x4_1), (wrap64 (x6_1 + 1)), (((Int.tmod (wrap64 ((rd_T46 l0 x6_1).f0)) 32) != 18)), (x218001_1), (by first | rfl | (simp; done) | (simp [*]; done)), H', ⟨by have := HK1.out; have := HJ8.out; have := HJ19.out; have := HJ25.out; have := HK5.out; omega⟩, ⟨by (with_reducible repeat (first | apply Kd.R_alloc | apply Kd.R_drewN | apply Kd.R_drew)); exact Kd.R_mono (Kd.R_far (p := ⟨gb217, 0, none⟩) (Kd.R_types HO264.out BK217.out (by decide)) (fun _ hk => hk.2) (.bool ((Int.tmod (wrap64 ((rd_T46 l0 x6_1).f0)) 32) != 18))) (fun _ hk => trivial)⟩, ⟨by (with_reducible repeat (first | apply Kd.R_alloc | apply Kd.R_drewN | apply Kd.R_drew)); exact Kd.R_mono (Kd.R_far (p := ⟨gb217, 0, none⟩) (Kd.R_types HO_4.out BK217.out (by decide)) (fun _ hk => hk.2) (.bool ((Int.tmod (wrap64 ((rd_T46 l0 x6_1).f0)) 32) != 18))) (fun _ hk => trivial)⟩, ⟨by (with_reducible repeat (first | refine blk_drewN ?_ _ | refine blk_drew ?_ | refine blk_alloc ?_ _)); refine blk_put (cs := #[.bool true, .int .i64 x218001_1]) ?_ (0) _ rfl; (with_reducible repeat (first | refine blk_drewN ?_ _ | refine blk_drew ?_ | refine blk_alloc ?_ _)); exact BK217.out⟩, ⟨by repeat (first | (with_reducible first | exact HB.out | apply below_alloc | apply pw_below_drewN | apply below_drew1 | refine below_set ?_ GE217.out | refine below_set ?_ GE244.out | refine below_set ?_ GE245.out) | exact HB.out)⟩⟩
                                  · replace c49 := Bool.eq_false_iff.mpr c49
                                    subst c49
                                    have H1 : (if x4_1.length < 17592186044416 then (perilunelaw32_UplinkDamage.l0 k5 l0 y262 (x4_1 ++ [(Int.tmod (wrap64 ((rd_T46 l0 x6_1).f0)) 32)]) (wrap64 (x6_1 + 1)) false x218001_1) else (none)) = some r := by rw [if_neg (show ¬ (false = true) by decide)] at H; exact H
                                    clear H
                                    have H := H1
                                    clear H1
                                    by_cases c54 : x4_1.length < 17592186044416
                                    · rw [if_pos c54] at H
                                      have LMc54 := Aside0.mk c54
                                      clear c54
                                      obtain ⟨y265, hy265⟩ : ∃ y_ : List Int, y_ = (x4_1 ++ [(Int.tmod (wrap64 ((rd_T46 l0 x6_1).f0)) 32)]) := ⟨_, rfl⟩
                                      replace H : (perilunelaw32_UplinkDamage.l0 k5 l0 y262 y265 (wrap64 (x6_1 + 1)) false x218001_1) = some r := by first | (rw [hy265]; with_reducible exact H) | (have H2_ := (Option.bind_some _ _).symm.trans H; rw [hy265]; with_reducible exact H2_) | (have H2_ := (Option.bind_some _ _).symm.trans H; with_reducible exact H2_) | with_reducible exact H | (rw [hy265]; exact H) | exact H
                                      have Ny265 := Aside0.mk hy265
                                      clear hy265
                                      have H' := Aside0.mk H
                                      clear H
                                      go_wp2_with (first | ((with_reducible refine gate_dst (N := 106) rfl ?_); refine seg_load_on (t := 22) (p := 10) (g := gb245) (off := 0) (T := 22) (cur := #[.int .u8 x246000_5, .int .u8 x246001_5, .int .u8 x246002_5, .int .u8 x246003_5, .int .u8 x246004_5, .int .u8 x246005_5, .int .u8 x246006_5, .int .u8 x246007_5, .int .u8 x246008_5, .int .u8 x246009_5, .int .u8 x246010_5, .int .u8 x246011_5, .int .u8 x246012_5, .int .u8 x246013_5, .int .u8 x246014_5, .int .u8 x246015_5]) (vs := [.int .u8 x246000_5, .int .u8 x246001_5, .int .u8 x246002_5, .int .u8 x246003_5, .int .u8 x246004_5, .int .u8 x246005_5, .int .u8 x246006_5, .int .u8 x246007_5, .int .u8 x246008_5, .int .u8 x246009_5, .int .u8 x246010_5, .int .u8 x246011_5, .int .u8 x246012_5, .int .u8 x246013_5, .int .u8 x246014_5, .int .u8 x246015_5]) ?hg ?ho ?hp ?hb Try.underlying22 ?hd ?hi ?hw ?_; (case ho => rfl); (case hg => first | rfl | (go_simp; done) | (simp [Region.wanted, yielded, *]; done)); (case hp => rfl); (case hb => exact (by (with_reducible repeat (first | refine blk_drewN ?_ _ | refine blk_drew ?_ | refine blk_alloc ?_ _)); exact BK245.out)); (case hd => rfl); (case hi => kernel_rfl); (case hw => rfl)) | ((with_reducible refine gate_builtin (b := .append) (xs := #[.tmp 105, .tmp 107]) rfl ?_); at_builtin; refine Kd.R_append k22 (w0 := w) w.heap.size rfl (.tmp 105) (.tmp 107) 37 22 (.agg #[(.int .u8 0), (.int .u8 0), (.int .u8 0), (.int .u8 0), (.int .u8 0), (.int .u8 0), (.int .u8 0), (.int .u8 0), (.int .u8 0), (.int .u8 0), (.int .u8 0), (.int .u8 0), (.int .u8 0), (.int .u8 0), (.int .u8 0), (.int .u8 0)]) 16 rfl Try.underlying37 info22 rfl (by decide) (by omega) u3 x3_1 (⟨x246000_5, x246001_5, x246002_5, x246003_5, x246004_5, x246005_5, x246006_5, x246007_5, x246008_5, x246009_5, x246010_5, x246011_5, x246012_5, x246013_5, x246014_5, x246015_5⟩ : S22) [.int .u8 x246000_5, .int .u8 x246001_5, .int .u8 x246002_5, .int .u8 x246003_5, .int .u8 x246004_5, .int .u8 x246005_5, .int .u8 x246006_5, .int .u8 x246007_5, .int .u8 x246008_5, .int .u8 x246009_5, .int .u8 x246010_5, .int .u8 x246011_5, .int .u8 x246012_5, .int .u8 x246013_5, .int .u8 x246014_5, .int .u8 x246015_5] (fun k_ => k_ ≠ gb244 ∧ k_ ≠ gb245) (fun _ => False) rfl rfl ?aP (fun _ hk => hk.elim) ?aF ?aO ?aB ?aS ?aL ?_; (case aP => exact k22_mkM _ _ _ (⟨x246000_5, x246001_5, x246002_5, x246003_5, x246004_5, x246005_5, x246006_5, x246007_5, x246008_5, x246009_5, x246010_5, x246011_5, x246012_5, x246013_5, x246014_5, x246015_5⟩ : S22)); (case aB => exact (by repeat (first | (with_reducible first | exact HB.out | apply below_alloc | apply pw_below_drewN | apply below_drew1 | refine below_set ?_ GE217.out | refine below_set ?_ GE244.out | refine below_set ?_ GE245.out) | exact HB.out))); (case aF => exact (fun k_ hk => ⟨Kd.freshB (g := gb244) (o := .cells #[.int .u8 t227, .int .u8 t228, .int .u8 t229, .int .u8 t230, .int .u8 t231, .int .u8 t232, .int .u8 t233, .int .u8 t234, .int .u8 t235, .int .u8 t236, .int .u8 t237, .int .u8 t238, .int .u8 t239, .int .u8 t240, .int .u8 t241, .int .u8 t242] 22 (0, 0)) (by (with_reducible repeat (first | refine blk_drewN ?_ _ | refine blk_drew ?_ | refine blk_alloc ?_ _)); exact BK244.out) k_ hk, Kd.freshB (g := gb245) (o := .cells #[.int .u8 x246000_5, .int .u8 x246001_5, .int .u8 x246002_5, .int .u8 x246003_5, .int .u8 x246004_5, .int .u8 x246005_5, .int .u8 x246006_5, .int .u8 x246007_5, .int .u8 x246008_5, .int .u8 x246009_5, .int .u8 x246010_5, .int .u8 x246011_5, .int .u8 x246012_5, .int .u8 x246013_5, .int .u8 x246014_5, .int .u8 x246015_5] 22 (0, 0)) (by (with_reducible repeat (first | refine blk_drewN ?_ _ | refine blk_drew ?_ | refine blk_alloc ?_ _)); exact BK245.out) k_ hk⟩)); (case aO => exact (by (with_reducible repeat (first | apply Kd.R_alloc | apply Kd.R_drewN | apply Kd.R_drew)); exact HO_3.out)); (case aS => exact (below_size (by repeat (first | (with_reducible first | exact HB.out | apply below_alloc | apply pw_below_drewN | apply below_drew1 | refine below_set ?_ GE217.out | refine below_set ?_ GE244.out | refine below_set ?_ GE245.out) | exact HB.out)))); (case aL => have := LMc43.out; omega); intro v263 w55 ho hb hg hat; rw [← Ny262.out] at ho; have n0_ := Aside0.mk (Kd.R_over' (by (with_reducible repeat (first | apply Kd.R_alloc | apply Kd.R_drewN | apply Kd.R_drew)); exact HO_4.out) (Kd.R_typed (by (with_reducible repeat (first | apply Kd.R_alloc | apply Kd.R_drewN | apply Kd.R_drew)); exact HO_3.out)) (by decide) hg); have n1_ := Aside0.mk (blk_grown (g := gb217) (o := .cells #[.bool false, .int .i64 x218001_1] 31 (0, 0)) (by (with_reducible repeat (first | refine blk_drewN ?_ _ | refine blk_drew ?_ | refine blk_alloc ?_ _)); exact BK217.out) hg (Kd.R_ne HO_3.out BK217.out (by decide))); have n2_ := Aside0.mk (blk_grown (g := gb244) (o := .cells #[.int .u8 t227, .int .u8 t228, .int .u8 t229, .int .u8 t230, .int .u8 t231, .int .u8 t232, .int .u8 t233, .int .u8 t234, .int .u8 t235, .int .u8 t236, .int .u8 t237, .int .u8 t238, .int .u8 t239, .int .u8 t240, .int .u8 t241, .int .u8 t242] 22 (0, 0)) (by (with_reducible repeat (first | refine blk_drewN ?_ _ | refine blk_drew ?_ | refine blk_alloc ?_ _)); exact BK244.out) hg (Kd.R_away HO_3.out (fun _ hk => hk.1))); have n3_ := Aside0.mk (blk_grown (g := gb245) (o := .cells #[.int .u8 x246000_5, .int .u8 x246001_5, .int .u8 x246002_5, .int .u8 x246003_5, .int .u8 x246004_5, .int .u8 x246005_5, .int .u8 x246006_5, .int .u8 x246007_5, .int .u8 x246008_5, .int .u8 x246009_5, .int .u8 x246010_5, .int .u8 x246011_5, .int .u8 x246012_5, .int .u8 x246013_5, .int .u8 x246014_5, .int .u8 x246015_5] 22 (0, 0)) (by (with_reducible repeat (first | refine blk_drewN ?_ _ | refine blk_drew ?_ | refine blk_alloc ?_ _)); exact BK245.out) hg (Kd.R_away HO_3.out (fun _ hk => hk.2))); have n4_ := Aside0.mk (hb); have n5_ := Aside0.mk (ho); clear HO_4; clear BK217; clear BK244; clear BK245; clear HB; clear HO_3; have HO_4 := n0_; have BK217 := n1_; have BK244 := n2_; have BK245 := n3_; have HB := n4_; have HO264 := n5_; clear n0_ n1_ n2_ n3_ n4_ n5_; clear ho hb hg hat) | ((with_reducible refine gate_dst (N := 109) rfl ?_); refine seg_load_on (t := 22) (p := 10) (g := gb245) (off := 0) (T := 22) (cur := #[.int .u8 x246000_5, .int .u8 x246001_5, .int .u8 x246002_5, .int .u8 x246003_5, .int .u8 x246004_5, .int .u8 x246005_5, .int .u8 x246006_5, .int .u8 x246007_5, .int .u8 x246008_5, .int .u8 x246009_5, .int .u8 x246010_5, .int .u8 x246011_5, .int .u8 x246012_5, .int .u8 x246013_5, .int .u8 x246014_5, .int .u8 x246015_5]) (vs := [.int .u8 x246000_5, .int .u8 x246001_5, .int .u8 x246002_5, .int .u8 x246003_5, .int .u8 x246004_5, .int .u8 x246005_5, .int .u8 x246006_5, .int .u8 x246007_5, .int .u8 x246008_5, .int .u8 x246009_5, .int .u8 x246010_5, .int .u8 x246011_5, .int .u8 x246012_5, .int .u8 x246013_5, .int .u8 x246014_5, .int .u8 x246015_5]) ?hg ?ho ?hp ?hb Try.underlying22 ?hd ?hi ?hw ?_; (case ho => rfl); (case hg => first | rfl | (go_simp; done) | (simp [Region.wanted, yielded, *]; done)); (case hp => rfl); (case hb => exact (by (with_reducible repeat (first | refine blk_drewN ?_ _ | refine blk_drew ?_ | refine blk_alloc ?_ _)); exact BK245.out)); (case hd => rfl); (case hi => kernel_rfl); (case hw => rfl)) | ((with_reducible refine gate_dst (N := 110) rfl ?_); refine seg_load_on (t := 22) (p := 8) (g := gb244) (off := 0) (T := 22) (cur := #[.int .u8 t227, .int .u8 t228, .int .u8 t229, .int .u8 t230, .int .u8 t231, .int .u8 t232, .int .u8 t233, .int .u8 t234, .int .u8 t235, .int .u8 t236, .int .u8 t237, .int .u8 t238, .int .u8 t239, .int .u8 t240, .int .u8 t241, .int .u8 t242]) (vs := [.int .u8 t227, .int .u8 t228, .int .u8 t229, .int .u8 t230, .int .u8 t231, .int .u8 t232, .int .u8 t233, .int .u8 t234, .int .u8 t235, .int .u8 t236, .int .u8 t237, .int .u8 t238, .int .u8 t239, .int .u8 t240, .int .u8 t241, .int .u8 t242]) ?hg ?ho ?hp ?hb Try.underlying22 ?hd ?hi ?hw ?_; (case ho => rfl); (case hg => first | rfl | (go_simp; done) | (simp [Region.wanted, yielded, *]; done)); (case hp => rfl); (case hb => exact (by (with_reducible repeat (first | refine blk_drewN ?_ _ | refine blk_drew ?_ | refine blk_alloc ?_ _)); exact BK244.out)); (case hd => rfl); (case hi => kernel_rfl); (case hw => rfl); have hnb56 := NB217_244.out; have hnc56 := NB244_217.out; have hnb57 := NB217_245.out; have hnc57 := NB245_217.out; have hcz58_0 : w55.cell? ⟨gb217, 0, none⟩ = some (.bool false) := (blk_cell BK217.out 0).trans rfl; have hcz58_1 : w55.cell? ⟨gb217, 1, none⟩ = some (.int .i64 x218001_1) := (blk_cell BK217.out 1).trans rfl; have hfz58_0 := blk_frozen BK217.out 0; have hfz58_1 := blk_frozen BK217.out 1) | ((with_reducible refine gate_builtin (b := .append) (xs := #[.tmp 122, .tmp 124]) rfl ?_); at_builtin; refine Kd.R_append (Kd.int .i64) (w0 := w) w.heap.size rfl (.tmp 122) (.tmp 124) 38 3 (.int .i64 0) 8 rfl Try.underlying38 info3 rfl (by decide) (by omega) u4 x4_1 (Int.tmod (wrap64 ((rd_T46 l0 x6_1).f0)) 32) [.int .i64 (Int.tmod (wrap64 ((rd_T46 l0 x6_1).f0)) 32)] (fun _ => True) (fun _ => False) rfl rfl ?aP (fun _ hk => hk.elim) ?aF ?aO ?aB ?aS ?aL ?_; (case aP => exact rfl); (case aB => exact (by repeat (first | (with_reducible first | exact HB.out | apply below_alloc | apply pw_below_drewN | apply below_drew1 | refine below_set ?_ GE217.out | refine below_set ?_ GE244.out | refine below_set ?_ GE245.out) | exact HB.out))); (case aF => exact (fun _ _ => trivial)); (case aO => exact (by (with_reducible repeat (first | apply Kd.R_alloc | apply Kd.R_drewN | apply Kd.R_drew)); exact HO_4.out)); (case aS => exact (below_size (by repeat (first | (with_reducible first | exact HB.out | apply below_alloc | apply pw_below_drewN | apply below_drew1 | refine below_set ?_ GE217.out | refine below_set ?_ GE244.out | refine below_set ?_ GE245.out) | exact HB.out)))); (case aL => have := LMc54.out; omega); intro v266 w59 ho hb hg hat; rw [← Ny265.out] at ho; have n0_ := Aside0.mk (blk_grown (g := gb217) (o := .cells #[.bool false, .int .i64 x218001_1] 31 (0, 0)) (by (with_reducible repeat (first | refine blk_drewN ?_ _ | refine blk_drew ?_ | refine blk_alloc ?_ _)); exact BK217.out) hg (Kd.R_ne HO_4.out BK217.out (by decide))); have n1_ := Aside0.mk (blk_grown (g := gb244) (o := .cells #[.int .u8 t227, .int .u8 t228, .int .u8 t229, .int .u8 t230, .int .u8 t231, .int .u8 t232, .int .u8 t233, .int .u8 t234, .int .u8 t235, .int .u8 t236, .int .u8 t237, .int .u8 t238, .int .u8 t239, .int .u8 t240, .int .u8 t241, .int .u8 t242] 22 (0, 0)) (by (with_reducible repeat (first | refine blk_drewN ?_ _ | refine blk_drew ?_ | refine blk_alloc ?_ _)); exact BK244.out) hg (Kd.R_ne HO_4.out BK244.out (by decide))); have n2_ := Aside0.mk (blk_grown (g := gb245) (o := .cells #[.int .u8 x246000_5, .int .u8 x246001_5, .int .u8 x246002_5, .int .u8 x246003_5, .int .u8 x246004_5, .int .u8 x246005_5, .int .u8 x246006_5, .int .u8 x246007_5, .int .u8 x246008_5, .int .u8 x246009_5, .int .u8 x246010_5, .int .u8 x246011_5, .int .u8 x246012_5, .int .u8 x246013_5, .int .u8 x246014_5, .int .u8 x246015_5] 22 (0, 0)) (by (with_reducible repeat (first | refine blk_drewN ?_ _ | refine blk_drew ?_ | refine blk_alloc ?_ _)); exact BK245.out) hg (Kd.R_ne HO_4.out BK245.out (by decide))); have n3_ := Aside0.mk (Kd.R_over' (by (with_reducible repeat (first | apply Kd.R_alloc | apply Kd.R_drewN | apply Kd.R_drew)); exact HO264.out) (Kd.R_typed (by (with_reducible repeat (first | apply Kd.R_alloc | apply Kd.R_drewN | apply Kd.R_drew)); exact HO_4.out)) (by decide) hg); have n4_ := Aside0.mk (hb); have n5_ := Aside0.mk (ho); clear BK217; clear BK244; clear BK245; clear HO264; clear HB; clear HO_4; have BK217 := n0_; have BK244 := n1_; have BK245 := n2_; have HO264 := n3_; have HB := n4_; have HO267 := n5_; clear n0_ n1_ n2_ n3_ n4_ n5_; clear ho hb hg hat))
                                      go_roundg k5
                                      case measure => have := HK1.out; have := HJ8.out; have := HJ19.out; have := HJ25.out; have := HK5.out; omega
                                      case rel => exact ⟨(y262), (y265), (wrap64 (x6_1 + 1)), (false), (x218001_1), (by first | rfl | (simp; done) | (simp [*]; done)), H', ⟨by have := HK1.out; have := HJ8.out; have := HJ19.out; have := HJ25.out; have := HK5.out; omega⟩, ⟨by (with_reducible repeat (first | apply Kd.R_alloc | apply Kd.R_drewN | apply Kd.R_drew)); exact Kd.R_mono HO264.out (fun _ hk => trivial)⟩, ⟨by (with_reducible repeat (first | apply Kd.R_alloc | apply Kd.R_drewN | apply Kd.R_drew)); exact HO267.out⟩, ⟨by (with_reducible repeat (first | refine blk_drewN ?_ _ | refine blk_drew ?_ | refine blk_alloc ?_ _)); exact BK217.out⟩, ⟨by repeat (first | (with_reducible first | exact HB.out | apply below_alloc | apply pw_below_drewN | apply below_drew1 | refine below_set ?_ GE217.out | refine below_set ?_ GE244.out | refine below_set ?_ GE245.out) | exact HB.out)⟩⟩
                                    · rw [if_neg c54] at H
                                      exact absurd H (by simp)
                              · rw [if_neg c43] at H
                                exact absurd H (by simp)
          · rw [if_neg c7] at H
            exact absurd H (by simp)
        · rw [if_neg c6] at H
          have c6b0 : decide (x6_1 < (l0.length : Int)) = false := decide_eq_false c6
          clear c6
          replace H := Option.bind_eq_some_iff.mp H
          obtain ⟨⟨t218, t221, t222⟩, A600, H⟩ := H
          replace H : ((periluneref32_Same.f k1 t218 x4_1).bind fun t224 => (if t224 = true then (if (t221 == x218000_1 && (t222 == x218001_1)) = true then ((perilunelaw32_awake.f k1).bind fun t225 => (some t225)) else (some false)) else (some false))) = some r := H
          have A60 := Aside0.mk A600
          clear A600
          replace H := Option.bind_eq_some_iff.mp H
          obtain ⟨t224, A610, H⟩ := H
          replace H : (if t224 = true then (if (t221 == x218000_1 && (t222 == x218001_1)) = true then ((perilunelaw32_awake.f k1).bind fun t225 => (some t225)) else (some false)) else (some false)) = some r := H
          have A61 := Aside0.mk A610
          clear A610
          by_cases c62 : t224 = true
          · subst c62
            have H1 : (if (t221 == x218000_1 && (t222 == x218001_1)) = true then ((perilunelaw32_awake.f k1).bind fun t225 => (some t225)) else (some false)) = some r := by rw [if_pos rfl] at H; exact H
            clear H
            have H := H1
            clear H1
            by_cases c63 : (t221 == x218000_1 && (t222 == x218001_1)) = true
            · rw [if_pos c63] at H
              have c63b0 : (t221 == x218000_1 && (t222 == x218001_1)) = true := c63
              (try (have c63b1 : decide (t221 = x218000_1 && (t222 == x218001_1)) = true := by simpa using c63))
              (try (have c63b2 : (t221 == x218000_1 && (t222 == x218001_1)) = true := by simpa using c63))
              clear c63
              replace H := Option.bind_eq_some_iff.mp H
              obtain ⟨t225, A640, H⟩ := H
              replace H : (some t225) = some r := H
              have A64 := Aside0.mk A640
              clear A640
              obtain rfl := Option.some.inj H
              obtain ⟨Ao65, co65, eo65⟩ := Kd.R_slice HO_3.out
              subst eo65
              go_wp2_with (first | ((with_reducible refine gate_callee (f := 18) rfl ?_); refine goesL_ (some 128) rfl rfl Try.func18 (by kernel_rfl) rfl #[.slice Ao65 x3_1.length co65] rfl (by (try simp only [List.map_toArray, List.map_cons, List.map_nil]); first | done | rfl | (simp only [List.length_drop, List.length_take]; rfl)) ?_; (with_reducible refine (uplink_All.calls k1 _ _ x3_1 t218 t221 t222 _ ?side1 ?side2 A60.out).mono ?_); (case side1 => repeat (first | exact (Kd.R_reads' HO_3.out).2.2 | (with_reducible refine Kd.C_alloc ?_ _) | (with_reducible refine Kd.C_drewN ?_ _) | (with_reducible refine Kd.C_drew ?_))); (case side2 => exact (Kd.R_reads' HO_3.out).2.1); rintro e w66 ⟨v219, rfl, ho0, hb⟩; refine ⟨_, rfl, ?_⟩; have n0_ := Aside0.mk (Kd.R_below (by (with_reducible repeat (first | apply Kd.R_alloc | apply Kd.R_drewN | apply Kd.R_drew)); exact HO_3.out) hb); have n1_ := Aside0.mk (Kd.R_elder' (by (with_reducible repeat (first | apply Kd.R_alloc | apply Kd.R_drewN | apply Kd.R_drew)); exact HO_4.out) (Kd.R_base ho0) hb); have n2_ := Aside0.mk (Kd.R_lower (Kd.R_new' ho0 (Kd.R_lt (by (with_reducible repeat (first | apply Kd.R_alloc | apply Kd.R_drewN | apply Kd.R_drew)); exact HO_4.out))) (below_size (by repeat (first | (with_reducible first | exact HB.out | apply below_alloc | apply pw_below_drewN | apply below_drew1 | refine below_set ?_ GE217.out) | exact HB.out)))); have n3_ := Aside0.mk (blk_below (g := gb217) (o := .cells #[.bool x218000_1, .int .i64 x218001_1] 31 (0, 0)) (by (with_reducible repeat (first | refine blk_drewN ?_ _ | refine blk_drew ?_ | refine blk_alloc ?_ _)); exact BK217.out) hb); have n4_ := Aside0.mk (below_step (by repeat (first | (with_reducible first | exact HB.out | apply below_alloc | apply pw_below_drewN | apply below_drew1 | refine below_set ?_ GE217.out) | exact HB.out)) hb); clear HO_3; clear HO_4; clear BK217; clear HB; have HO_3 := n0_; have HO_4 := n1_; have HO220 := n2_; have BK217 := n3_; have HB := n4_; clear n0_ n1_ n2_ n3_ n4_; (try clear hb); (try clear hb2); (try clear hk); (try clear hi); (try clear ho0)) | ((with_reducible refine gate_dst (N := 13) rfl ?_); refine box_event ?hg (N := 13) ?hd (cs := #[.bool false, .int .i64 0]) (t := 31) ?hr ?_; (case hd => rfl); (case hg => rfl); (case hr => first | (go_simp; done) | (go_simp; rfl)); intro gb223 hg w67 hbox hb; have n0_ := Aside0.mk (Kd.R_below (by (with_reducible repeat (first | apply Kd.R_alloc | apply Kd.R_drewN | apply Kd.R_drew)); exact HO_3.out) hb); have n1_ := Aside0.mk (Kd.R_below (by (with_reducible repeat (first | apply Kd.R_alloc | apply Kd.R_drewN | apply Kd.R_drew)); exact HO_4.out) hb); have n2_ := Aside0.mk (Kd.R_below (by (with_reducible repeat (first | apply Kd.R_alloc | apply Kd.R_drewN | apply Kd.R_drew)); exact HO220.out) hb); have n3_ := Aside0.mk (blk_below (g := gb217) (o := .cells #[.bool x218000_1, .int .i64 x218001_1] 31 (0, 0)) (by (with_reducible repeat (first | refine blk_drewN ?_ _ | refine blk_drew ?_ | refine blk_alloc ?_ _)); exact BK217.out) hb); have n4_ := Aside0.mk (below_step (by repeat (first | (with_reducible first | exact HB.out | apply below_alloc | apply pw_below_drewN | apply below_drew1 | refine below_set ?_ GE217.out) | exact HB.out)) hb); have n5_ := Aside0.mk (hbox); have n6_ := Aside0.mk ((by rw [hg]; exact (below_size (by repeat (first | (with_reducible first | exact HB.out | apply below_alloc | apply pw_below_drewN | apply below_drew1 | refine below_set ?_ GE217.out) | exact HB.out))) : w.heap.size ≤ gb223)); have n7_ := Aside0.mk ((by rw [hg]; exact (below_size (by repeat (first | (with_reducible first | exact HB.out | apply below_alloc | apply pw_below_drewN | apply below_drew1 | refine below_set ?_ GE217.out) | exact HB.out))) : w.heap.size ≤ gb223)); have n8_ := Aside0.mk ((by rw [hg]; exact Nat.ne_of_lt (blk_lt (g := gb217) (o := .cells #[.bool x218000_1, .int .i64 x218001_1] 31 (0, 0)) (by (with_reducible repeat (first | refine blk_drewN ?_ _ | refine blk_drew ?_ | refine blk_alloc ?_ _)); exact BK217.out)) : gb217 ≠ gb223)); have n9_ := Aside0.mk ((by rw [hg]; exact Nat.ne_of_gt (blk_lt (g := gb217) (o := .cells #[.bool x218000_1, .int .i64 x218001_1] 31 (0, 0)) (by (with_reducible repeat (first | refine blk_drewN ?_ _ | refine blk_drew ?_ | refine blk_alloc ?_ _)); exact BK217.out)) : gb223 ≠ gb217)); clear HO_3; clear HO_4; clear HO220; clear BK217; clear HB; have HO_3 := n0_; have HO_4 := n1_; have HO220 := n2_; have BK217 := n3_; have HB := n4_; have BK223 := n5_; have GW223 := n6_; have GE223 := n7_; have NB217_223 := n8_; have NB223_217 := n9_; clear n0_ n1_ n2_ n3_ n4_ n5_ n6_ n7_ n8_ n9_; clear hb hbox hg; have hnb68 := NB223_217.out; have hnc68 := NB217_223.out; have hcz69_0 : w67.cell? ⟨gb223, 0, none⟩ = some (.bool false) := (blk_cell BK223.out 0).trans rfl; have hcz69_1 : w67.cell? ⟨gb223, 1, none⟩ = some (.int .i64 0) := (blk_cell BK223.out 1).trans rfl; have hfz69_0 := blk_frozen BK223.out 0; have hfz69_1 := blk_frozen BK223.out 1; obtain ⟨Ao70, co70, eo70⟩ := Kd.R_slice HO220.out; subst eo70; obtain ⟨Ao71, co71, eo71⟩ := Kd.R_slice HO_4.out; subst eo71) | ((with_reducible refine gate_callee (f := 20) rfl ?_); refine goesL_ (some 133) rfl rfl Try.func20 (by kernel_rfl) rfl #[.slice Ao70 t218.length co70, .slice Ao71 x4_1.length co71] rfl (by (try simp only [List.map_toArray, List.map_cons, List.map_nil]); first | done | rfl | (simp only [List.length_drop, List.length_take]; rfl)) ?_; (with_reducible refine (periluneref32_Same.calls k1 _ _ t218 _ _ x4_1 true _ ?side1 ?side2 ?side3 ?side4 A61.out).mono ?_); (case side1 => refine (Kd.R_reads' (e := 3) (base := w.heap.size) (ok := fun k_ => (True ∧ some k_ ≠ (.slice Ao71 x4_1.length co71 : Value).ownBlock)) (n := t218.length) (c := co70) ?_).2.2; exact (by (with_reducible repeat (first | apply Kd.R_alloc | apply Kd.R_drewN | apply Kd.R_drew)); exact (Kd.R_mono (Kd.R_far (p := ⟨gb223, 1, none⟩) (Kd.R_far (p := ⟨gb223, 0, none⟩) (Kd.R_types HO220.out BK223.out (by decide)) (fun _ hk => hk.2) (.bool t221)) (fun _ hk => hk.2) (.int .i64 t222)) (fun _ h_ => h_.1)))); (case side2 => exact (Kd.R_reads' HO220.out).2.1); (case side3 => refine (Kd.R_reads' (e := 3) (base := w.heap.size) (ok := fun k_ => (True ∧ some k_ ≠ (.slice Ao70 t218.length co70 : Value).ownBlock)) (n := x4_1.length) (c := co71) ?_).2.2; exact (by (with_reducible repeat (first | apply Kd.R_alloc | apply Kd.R_drewN | apply Kd.R_drew)); exact (Kd.R_mono (Kd.R_far (p := ⟨gb223, 1, none⟩) (Kd.R_far (p := ⟨gb223, 0, none⟩) (Kd.R_types HO_4.out BK223.out (by decide)) (fun _ hk => hk.2) (.bool t221)) (fun _ hk => hk.2) (.int .i64 t222)) (fun _ h_ => h_.1)))); (case side4 => exact (Kd.R_reads' HO_4.out).2.1); rintro e w' ⟨rfl, ⟨nd, rfl⟩⟩; refine ⟨_, rfl, ?_⟩; have hcz72_0 : w67.cell? ⟨gb217, 0, none⟩ = some (.bool x218000_1) := (blk_cell BK217.out 0).trans rfl; have hcz72_1 : w67.cell? ⟨gb217, 1, none⟩ = some (.int .i64 x218001_1) := (blk_cell BK217.out 1).trans rfl; have hfz72_0 := blk_frozen BK217.out 0; have hfz72_1 := blk_frozen BK217.out 1) | (go_at_call 15; (with_reducible refine (perilunelaw32_awake.calls k1  t225 _ A64.out).mono ?_); rintro e w73 ⟨rfl, hb⟩; have n0_ := Aside0.mk (Kd.R_below (by (with_reducible repeat (first | apply Kd.R_alloc | apply Kd.R_drewN | apply Kd.R_drew)); exact (Kd.R_mono (Kd.R_far (p := ⟨gb223, 1, none⟩) (Kd.R_far (p := ⟨gb223, 0, none⟩) (Kd.R_types HO_3.out BK223.out (by decide)) (fun _ hk => hk.2) (.bool t221)) (fun _ hk => hk.2) (.int .i64 t222)) (fun _ h_ => h_.1))) hb); have n1_ := Aside0.mk (Kd.R_below (by (with_reducible repeat (first | apply Kd.R_alloc | apply Kd.R_drewN | apply Kd.R_drew)); exact (Kd.R_mono (Kd.R_far (p := ⟨gb223, 1, none⟩) (Kd.R_far (p := ⟨gb223, 0, none⟩) (Kd.R_types HO_4.out BK223.out (by decide)) (fun _ hk => hk.2) (.bool t221)) (fun _ hk => hk.2) (.int .i64 t222)) (fun _ h_ => h_.1))) hb); have n2_ := Aside0.mk (Kd.R_below (by (with_reducible repeat (first | apply Kd.R_alloc | apply Kd.R_drewN | apply Kd.R_drew)); exact (Kd.R_mono (Kd.R_far (p := ⟨gb223, 1, none⟩) (Kd.R_far (p := ⟨gb223, 0, none⟩) (Kd.R_types HO220.out BK223.out (by decide)) (fun _ hk => hk.2) (.bool t221)) (fun _ hk => hk.2) (.int .i64 t222)) (fun _ h_ => h_.1))) hb); have n3_ := Aside0.mk (blk_below (g := gb217) (o := .cells #[.bool x218000_1, .int .i64 x218001_1] 31 (0, 0)) (by (with_reducible repeat (first | refine blk_drewN ?_ _ | refine blk_drew ?_ | refine blk_alloc ?_ _)); refine blk_far ?_ NB217_223.out _; (with_reducible repeat (first | refine blk_drewN ?_ _ | refine blk_drew ?_ | refine blk_alloc ?_ _)); refine blk_far ?_ NB217_223.out _; (with_reducible repeat (first | refine blk_drewN ?_ _ | refine blk_drew ?_ | refine blk_alloc ?_ _)); exact BK217.out) hb); have n4_ := Aside0.mk (blk_below (g := gb223) (o := .cells #[.bool t221, .int .i64 t222] 31 (0, 0)) (by (with_reducible repeat (first | refine blk_drewN ?_ _ | refine blk_drew ?_ | refine blk_alloc ?_ _)); refine blk_put (cs := #[.bool t221, .int .i64 0]) ?_ (1) _ rfl; (with_reducible repeat (first | refine blk_drewN ?_ _ | refine blk_drew ?_ | refine blk_alloc ?_ _)); refine blk_put (cs := #[.bool false, .int .i64 0]) ?_ (0) _ rfl; (with_reducible repeat (first | refine blk_drewN ?_ _ | refine blk_drew ?_ | refine blk_alloc ?_ _)); exact BK223.out) hb); have n5_ := Aside0.mk (below_step (by repeat (first | (with_reducible first | exact HB.out | apply below_alloc | apply pw_below_drewN | apply below_drew1 | refine below_set ?_ GE217.out | refine below_set ?_ GE223.out) | exact HB.out)) hb); clear HO_3; clear HO_4; clear HO220; clear BK217; clear BK223; clear HB; have HO_3 := n0_; have HO_4 := n1_; have HO220 := n2_; have BK217 := n3_; have BK223 := n4_; have HB := n5_; clear n0_ n1_ n2_ n3_ n4_ n5_; (try clear hb); (try clear hb2); (try clear hk); (try clear hi)))
              go_ret
              exact ⟨by first | rfl | (simp [errW_none, errW_some] <;> rfl) | (simp [*, errW_none, errW_some] <;> rfl), by repeat (first | (with_reducible first | exact HB.out | apply below_alloc | apply pw_below_drewN | apply below_drew1 | refine below_set ?_ GE217.out | refine below_set ?_ GE223.out) | exact HB.out)⟩
            · rw [if_neg c63] at H
              have c63b0 : (t221 == x218000_1 && (t222 == x218001_1)) = false := by simpa using c63
              (try (have c63b1 : decide (t221 = x218000_1 && (t222 == x218001_1)) = false := by simpa using c63))
              (try (have c63b2 : (t221 == x218000_1 && (t222 == x218001_1)) = false := by simpa using c63))
              (try (have c63b3 : ¬ (t221 = x218000_1 && (t222 == x218001_1)) := by simpa using c63))
              clear c63
              exact absurd (Option.some.inj H) (by rw [hT_.out]; decide)
          · replace c62 := Bool.eq_false_iff.mpr c62
            subst c62
            have H1 : (some false) = some r := by rw [if_neg (show ¬ (false = true) by decide)] at H; exact H
            clear H
            have H := H1
            clear H1
            exact absurd (Option.some.inj H) (by rw [hT_.out]; decide)

end Go.Proofs.Ytdncfnlhkacpaaa.P
