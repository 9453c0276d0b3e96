-- Printed by a session's own program (wip/turnprint.py, wip/myprint.sh) over the translation's print.
import Derived.Test.YtdncfnlhkacpaaaPx0
namespace Go.Proofs.Ytdncfnlhkacpaaa.P
open Go.RowKit Go.Proofs.YtdncfnlhkacpaaaW.PrintWords Go.Proofs.YtdncfnlhkacpaaaW.PrintLast Go.Proofs.YtdncfnlhkacpaaaW.PrintMore
attribute [local go_sem] max2_int min2_int max_two min_two max_three min_three max_four min_four   -- for this text's walks alone
set_option linter.unusedVariables false
set_option linter.unusedSimpArgs false

theorem eqA50 (d : Nat) (w : World) (x0 y0 : Int) (x1 y1 : Int) (x2 y2 : Int) (x3 y3 : Int) (x4 y4 : Int) :
    (Op.equalIn (d + 2) 50 (.agg #[.int .u8 x0, .int .u8 x1, .int .u8 x2, .int .u8 x3, .int .u8 x4]) (.agg #[.int .u8 y0, .int .u8 y1, .int .u8 y2, .int .u8 y3, .int .u8 y4])).run Try.prog w = .ok (x0 == y0 && (x1 == y1 && (x2 == y2 && (x3 == y3 && (x4 == y4))))) w := by
  refine eqArr_of (e := 5) (n := 5) Try.underlying50 (by kernel_rfl) ?_
  refine eqi_cons (i := 0) (a := .int .u8 x0) (b := .int .u8 y0) (is := [1, 2, 3, 4]) (by kernel_rfl) (by kernel_rfl) (by go_simp) ?_
  refine eqi_cons (i := 1) (a := .int .u8 x1) (b := .int .u8 y1) (is := [2, 3, 4]) (by kernel_rfl) (by kernel_rfl) (by go_simp) ?_
  refine eqi_cons (i := 2) (a := .int .u8 x2) (b := .int .u8 y2) (is := [3, 4]) (by kernel_rfl) (by kernel_rfl) (by go_simp) ?_
  refine eqi_cons (i := 3) (a := .int .u8 x3) (b := .int .u8 y3) (is := [4]) (by kernel_rfl) (by kernel_rfl) (by go_simp) ?_
  exact eqi_last (i := 4) (a := .int .u8 x4) (b := .int .u8 y4) (by kernel_rfl) (by kernel_rfl) (by go_simp)
end Go.Proofs.Ytdncfnlhkacpaaa.P
