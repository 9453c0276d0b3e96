-- Printed by a session's own program (wip/turnprint.py, wip/myprint.sh) over the translation's print.
import Derived.Test.YtndcaaklcacnoaaQx0
namespace Go.Proofs.Ytndcaaklcacnoaa.Q
open Go.RowKit Go.Proofs.YtndcaaklcacnoaaW.PrintWords Go.Proofs.YtndcaaklcacnoaaW.PrintLast Go.Proofs.YtndcaaklcacnoaaW.PrintMore
attribute [local go_sem] max2_int min2_int max_two min_two max_three min_three max_four min_four   -- for this text's walks alone
set_option linter.unusedVariables false
set_option linter.unusedSimpArgs false

theorem eqA45 (d : Nat) (w : World) (x0 y0 : Int) (x1 y1 : Int) (x2 y2 : Int) (x3 y3 : Int) (x4 y4 : Int) (x5 y5 : Int) :
    (Op.equalIn (d + 2) 45 (.agg #[.int .i64 x0, .int .i64 x1, .int .i64 x2, .int .i64 x3, .int .i64 x4, .int .i64 x5]) (.agg #[.int .i64 y0, .int .i64 y1, .int .i64 y2, .int .i64 y3, .int .i64 y4, .int .i64 y5])).run Try.prog w = .ok (x0 == y0 && (x1 == y1 && (x2 == y2 && (x3 == y3 && (x4 == y4 && (x5 == y5)))))) w := by
  refine eqArr_of (e := 3) (n := 6) Try.underlying45 (by kernel_rfl) ?_
  refine eqi_cons (i := 0) (a := .int .i64 x0) (b := .int .i64 y0) (is := [1, 2, 3, 4, 5]) (by kernel_rfl) (by kernel_rfl) (by go_simp) ?_
  refine eqi_cons (i := 1) (a := .int .i64 x1) (b := .int .i64 y1) (is := [2, 3, 4, 5]) (by kernel_rfl) (by kernel_rfl) (by go_simp) ?_
  refine eqi_cons (i := 2) (a := .int .i64 x2) (b := .int .i64 y2) (is := [3, 4, 5]) (by kernel_rfl) (by kernel_rfl) (by go_simp) ?_
  refine eqi_cons (i := 3) (a := .int .i64 x3) (b := .int .i64 y3) (is := [4, 5]) (by kernel_rfl) (by kernel_rfl) (by go_simp) ?_
  refine eqi_cons (i := 4) (a := .int .i64 x4) (b := .int .i64 y4) (is := [5]) (by kernel_rfl) (by kernel_rfl) (by go_simp) ?_
  exact eqi_last (i := 5) (a := .int .i64 x5) (b := .int .i64 y5) (by kernel_rfl) (by kernel_rfl) (by go_simp)
end Go.Proofs.Ytndcaaklcacnoaa.Q
