-- Printed by a session's own program (wip/turnprint.py, wip/myprint.sh) over the translation's print.
import Derived.Test.YtdncfnlhkacpaaaPx0
namespace Go.Proofs.Ytdncfnlhkacpaaa.P
open Go.RowKit Go.Proofs.YtdncfnlhkacpaaaW.PrintWords Go.Proofs.YtdncfnlhkacpaaaW.PrintLast Go.Proofs.YtdncfnlhkacpaaaW.PrintMore
attribute [local go_sem] max2_int min2_int max_two min_two max_three min_three max_four min_four   -- for this text's walks alone
set_option linter.unusedVariables false
set_option linter.unusedSimpArgs false

theorem eqA22 (d : Nat) (w : World) (x0 y0 : Int) (x1 y1 : Int) (x2 y2 : Int) (x3 y3 : Int) (x4 y4 : Int) (x5 y5 : Int) (x6 y6 : Int) (x7 y7 : Int) (x8 y8 : Int) (x9 y9 : Int) (x10 y10 : Int) (x11 y11 : Int) (x12 y12 : Int) (x13 y13 : Int) (x14 y14 : Int) (x15 y15 : Int) :
    (Op.equalIn (d + 2) 22 (.agg #[.int .u8 x0, .int .u8 x1, .int .u8 x2, .int .u8 x3, .int .u8 x4, .int .u8 x5, .int .u8 x6, .int .u8 x7, .int .u8 x8, .int .u8 x9, .int .u8 x10, .int .u8 x11, .int .u8 x12, .int .u8 x13, .int .u8 x14, .int .u8 x15]) (.agg #[.int .u8 y0, .int .u8 y1, .int .u8 y2, .int .u8 y3, .int .u8 y4, .int .u8 y5, .int .u8 y6, .int .u8 y7, .int .u8 y8, .int .u8 y9, .int .u8 y10, .int .u8 y11, .int .u8 y12, .int .u8 y13, .int .u8 y14, .int .u8 y15])).run Try.prog w = .ok (x0 == y0 && (x1 == y1 && (x2 == y2 && (x3 == y3 && (x4 == y4 && (x5 == y5 && (x6 == y6 && (x7 == y7 && (x8 == y8 && (x9 == y9 && (x10 == y10 && (x11 == y11 && (x12 == y12 && (x13 == y13 && (x14 == y14 && (x15 == y15)))))))))))))))) w := by
  refine eqArr_of (e := 5) (n := 16) Try.underlying22 (by kernel_rfl) ?_
  refine eqi_cons (i := 0) (a := .int .u8 x0) (b := .int .u8 y0) (is := [1, 2, 3, 4, 5, 6, 7, 8, 9, 10, 11, 12, 13, 14, 15]) (by kernel_rfl) (by kernel_rfl) (by go_simp) ?_
  refine eqi_cons (i := 1) (a := .int .u8 x1) (b := .int .u8 y1) (is := [2, 3, 4, 5, 6, 7, 8, 9, 10, 11, 12, 13, 14, 15]) (by kernel_rfl) (by kernel_rfl) (by go_simp) ?_
  refine eqi_cons (i := 2) (a := .int .u8 x2) (b := .int .u8 y2) (is := [3, 4, 5, 6, 7, 8, 9, 10, 11, 12, 13, 14, 15]) (by kernel_rfl) (by kernel_rfl) (by go_simp) ?_
  refine eqi_cons (i := 3) (a := .int .u8 x3) (b := .int .u8 y3) (is := [4, 5, 6, 7, 8, 9, 10, 11, 12, 13, 14, 15]) (by kernel_rfl) (by kernel_rfl) (by go_simp) ?_
  refine eqi_cons (i := 4) (a := .int .u8 x4) (b := .int .u8 y4) (is := [5, 6, 7, 8, 9, 10, 11, 12, 13, 14, 15]) (by kernel_rfl) (by kernel_rfl) (by go_simp) ?_
  refine eqi_cons (i := 5) (a := .int .u8 x5) (b := .int .u8 y5) (is := [6, 7, 8, 9, 10, 11, 12, 13, 14, 15]) (by kernel_rfl) (by kernel_rfl) (by go_simp) ?_
  refine eqi_cons (i := 6) (a := .int .u8 x6) (b := .int .u8 y6) (is := [7, 8, 9, 10, 11, 12, 13, 14, 15]) (by kernel_rfl) (by kernel_rfl) (by go_simp) ?_
  refine eqi_cons (i := 7) (a := .int .u8 x7) (b := .int .u8 y7) (is := [8, 9, 10, 11, 12, 13, 14, 15]) (by kernel_rfl) (by kernel_rfl) (by go_simp) ?_
  refine eqi_cons (i := 8) (a := .int .u8 x8) (b := .int .u8 y8) (is := [9, 10, 11, 12, 13, 14, 15]) (by kernel_rfl) (by kernel_rfl) (by go_simp) ?_
  refine eqi_cons (i := 9) (a := .int .u8 x9) (b := .int .u8 y9) (is := [10, 11, 12, 13, 14, 15]) (by kernel_rfl) (by kernel_rfl) (by go_simp) ?_
  refine eqi_cons (i := 10) (a := .int .u8 x10) (b := .int .u8 y10) (is := [11, 12, 13, 14, 15]) (by kernel_rfl) (by kernel_rfl) (by go_simp) ?_
  refine eqi_cons (i := 11) (a := .int .u8 x11) (b := .int .u8 y11) (is := [12, 13, 14, 15]) (by kernel_rfl) (by kernel_rfl) (by go_simp) ?_
  refine eqi_cons (i := 12) (a := .int .u8 x12) (b := .int .u8 y12) (is := [13, 14, 15]) (by kernel_rfl) (by kernel_rfl) (by go_simp) ?_
  refine eqi_cons (i := 13) (a := .int .u8 x13) (b := .int .u8 y13) (is := [14, 15]) (by kernel_rfl) (by kernel_rfl) (by go_simp) ?_
  refine eqi_cons (i := 14) (a := .int .u8 x14) (b := .int .u8 y14) (is := [15]) (by kernel_rfl) (by kernel_rfl) (by go_simp) ?_
  exact eqi_last (i := 15) (a := .int .u8 x15) (b := .int .u8 y15) (by kernel_rfl) (by kernel_rfl) (by go_simp)
end Go.Proofs.Ytdncfnlhkacpaaa.P
