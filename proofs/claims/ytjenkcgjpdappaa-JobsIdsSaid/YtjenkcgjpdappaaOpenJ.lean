/- An argument of type Jobs reads as seven cores and a last id. No condition. -/
import Derived.Test.YtjenkcgjpdappaaPlainJ
import Derived.Deep.Slices
import Derived.ChangeArms
import Derived.ProofKit
import Derived.OpenShut
namespace Go.Proofs.Ytjenkcgjpdappaa.Read
open Go.ChangeShapes Go.WideShapes Go.Deep Go.RowKit Go.Proofs.Ytjenkcgjpdappaa.P Go.Proofs.Ytjenkcgjpdappaa.Plain Go.Proofs.YtjenkcgjpdappaaW.PrintWords Go.Proofs.YtjenkcgjpdappaaW.PrintLast
section
variable {H : Type} {enc : TypeId × Value → H} {W : World} {base : Nat} {spare : Nat → Bool} {held : Bool}
def cellsC (c : C) : List Value := [.bool c.u, .int .i64 c.id, .int .i64 c.pr, .int .i64 c.gr, .bool c.sl, .int .i64 c.lf]
def cellsT (t : Tab) : List Value := [.bool t.c0.u, .int .i64 t.c0.id, .int .i64 t.c0.pr, .int .i64 t.c0.gr, .bool t.c0.sl, .int .i64 t.c0.lf, .bool t.c1.u, .int .i64 t.c1.id, .int .i64 t.c1.pr, .int .i64 t.c1.gr, .bool t.c1.sl, .int .i64 t.c1.lf, .bool t.c2.u, .int .i64 t.c2.id, .int .i64 t.c2.pr, .int .i64 t.c2.gr, .bool t.c2.sl, .int .i64 t.c2.lf, .bool t.c3.u, .int .i64 t.c3.id, .int .i64 t.c3.pr, .int .i64 t.c3.gr, .bool t.c3.sl, .int .i64 t.c3.lf, .bool t.c4.u, .int .i64 t.c4.id, .int .i64 t.c4.pr, .int .i64 t.c4.gr, .bool t.c4.sl, .int .i64 t.c4.lf, .bool t.c5.u, .int .i64 t.c5.id, .int .i64 t.c5.pr, .int .i64 t.c5.gr, .bool t.c5.sl, .int .i64 t.c5.lf, .bool t.c6.u, .int .i64 t.c6.id, .int .i64 t.c6.pr, .int .i64 t.c6.gr, .bool t.c6.sl, .int .i64 t.c6.lf, .int .i64 t.la]
theorem some_of {α : Type} {l : List α} {n i : Nat} (hl : l.length = n) (hi : i < n) : ∃ y, l[i]? = some y := ⟨l[i]'(by omega), List.getElem?_eq_getElem (by omega)⟩
theorem open_core {fuel : Nat} {cs : List Value} {x : DataW H × List MemPlace} (h : DataW.trod enc Try.prog W base spare held fuel 24 cs = some x) : ∃ c : C, cs = cellsC c := by
  obtain ⟨xs, n, _, _, hl, hxl, hf⟩ := DataW.trod_struct Try.underlying24 h
  have hxl6 : xs.length = 6 := hxl
  have hc : Try.prog.cellsOf 24 = 6 := by kernel_rfl
  have h3 : Try.prog.cellsOf 3 = 1 := by kernel_rfl
  have h4 : Try.prog.cellsOf 4 = 1 := by kernel_rfl
  rw [hc] at hl
  match cs, hl with
  | [c0, c1, c2, c3, c4, c5], _ =>
    have g0 : DataW.trod enc Try.prog W base spare held n 4 [c0] = xs[0]? := by simpa [h4] using hf 0 _ rfl
    have g1 : DataW.trod enc Try.prog W base spare held n 3 [c1] = xs[1]? := by simpa [h3] using hf 1 _ rfl
    have g2 : DataW.trod enc Try.prog W base spare held n 3 [c2] = xs[2]? := by simpa [h3] using hf 2 _ rfl
    have g3 : DataW.trod enc Try.prog W base spare held n 3 [c3] = xs[3]? := by simpa [h3] using hf 3 _ rfl
    have g4 : DataW.trod enc Try.prog W base spare held n 4 [c4] = xs[4]? := by simpa [h4] using hf 4 _ rfl
    have g5 : DataW.trod enc Try.prog W base spare held n 3 [c5] = xs[5]? := by simpa [h3] using hf 5 _ rfl
    obtain ⟨y0, q0⟩ := some_of hxl6 (i := 0) (by omega)
    rw [q0] at g0
    obtain ⟨a0, e0, _⟩ := DataW.trod_bool Try.underlying4 g0
    obtain ⟨y1, q1⟩ := some_of hxl6 (i := 1) (by omega)
    rw [q1] at g1
    obtain ⟨a1, e1, _, _⟩ := DataW.trod_int Try.underlying3 g1
    obtain ⟨y2, q2⟩ := some_of hxl6 (i := 2) (by omega)
    rw [q2] at g2
    obtain ⟨a2, e2, _, _⟩ := DataW.trod_int Try.underlying3 g2
    obtain ⟨y3, q3⟩ := some_of hxl6 (i := 3) (by omega)
    rw [q3] at g3
    obtain ⟨a3, e3, _, _⟩ := DataW.trod_int Try.underlying3 g3
    obtain ⟨y4, q4⟩ := some_of hxl6 (i := 4) (by omega)
    rw [q4] at g4
    obtain ⟨a4, e4, _⟩ := DataW.trod_bool Try.underlying4 g4
    obtain ⟨y5, q5⟩ := some_of hxl6 (i := 5) (by omega)
    rw [q5] at g5
    obtain ⟨a5, e5, _, _⟩ := DataW.trod_int Try.underlying3 g5
    simp only [List.cons.injEq, and_true] at e0 e1 e2 e3 e4 e5
    subst e0 e1 e2 e3 e4 e5
    exact ⟨⟨a0, a1, a2, a3, a4, a5⟩, rfl⟩
theorem open_jobs {fuel : Nat} {cs : List Value} {x : DataW H × List MemPlace} (h : DataW.trod enc Try.prog W base spare held fuel 27 cs = some x) : ∃ t : Tab, cs = cellsT t := by
  obtain ⟨xs, n, _, _, hl, hxl, hf⟩ := DataW.trod_struct Try.underlying27 h
  have hxl2 : xs.length = 2 := hxl
  have hc : Try.prog.cellsOf 27 = 43 := by kernel_rfl
  have h25 : Try.prog.cellsOf 25 = 42 := by kernel_rfl
  have h24 : Try.prog.cellsOf 24 = 6 := by kernel_rfl
  have h3 : Try.prog.cellsOf 3 = 1 := by kernel_rfl
  rw [hc] at hl
  obtain _ | ⟨x0, cs⟩ := cs
  · exact absurd hl (by simp)
  obtain _ | ⟨x1, cs⟩ := cs
  · exact absurd hl (by simp)
  obtain _ | ⟨x2, cs⟩ := cs
  · exact absurd hl (by simp)
  obtain _ | ⟨x3, cs⟩ := cs
  · exact absurd hl (by simp)
  obtain _ | ⟨x4, cs⟩ := cs
  · exact absurd hl (by simp)
  obtain _ | ⟨x5, cs⟩ := cs
  · exact absurd hl (by simp)
  obtain _ | ⟨x6, cs⟩ := cs
  · exact absurd hl (by simp)
  obtain _ | ⟨x7, cs⟩ := cs
  · exact absurd hl (by simp)
  obtain _ | ⟨x8, cs⟩ := cs
  · exact absurd hl (by simp)
  obtain _ | ⟨x9, cs⟩ := cs
  · exact absurd hl (by simp)
  obtain _ | ⟨x10, cs⟩ := cs
  · exact absurd hl (by simp)
  obtain _ | ⟨x11, cs⟩ := cs
  · exact absurd hl (by simp)
  obtain _ | ⟨x12, cs⟩ := cs
  · exact absurd hl (by simp)
  obtain _ | ⟨x13, cs⟩ := cs
  · exact absurd hl (by simp)
  obtain _ | ⟨x14, cs⟩ := cs
  · exact absurd hl (by simp)
  obtain _ | ⟨x15, cs⟩ := cs
  · exact absurd hl (by simp)
  obtain _ | ⟨x16, cs⟩ := cs
  · exact absurd hl (by simp)
  obtain _ | ⟨x17, cs⟩ := cs
  · exact absurd hl (by simp)
  obtain _ | ⟨x18, cs⟩ := cs
  · exact absurd hl (by simp)
  obtain _ | ⟨x19, cs⟩ := cs
  · exact absurd hl (by simp)
  obtain _ | ⟨x20, cs⟩ := cs
  · exact absurd hl (by simp)
  obtain _ | ⟨x21, cs⟩ := cs
  · exact absurd hl (by simp)
  obtain _ | ⟨x22, cs⟩ := cs
  · exact absurd hl (by simp)
  obtain _ | ⟨x23, cs⟩ := cs
  · exact absurd hl (by simp)
  obtain _ | ⟨x24, cs⟩ := cs
  · exact absurd hl (by simp)
  obtain _ | ⟨x25, cs⟩ := cs
  · exact absurd hl (by simp)
  obtain _ | ⟨x26, cs⟩ := cs
  · exact absurd hl (by simp)
  obtain _ | ⟨x27, cs⟩ := cs
  · exact absurd hl (by simp)
  obtain _ | ⟨x28, cs⟩ := cs
  · exact absurd hl (by simp)
  obtain _ | ⟨x29, cs⟩ := cs
  · exact absurd hl (by simp)
  obtain _ | ⟨x30, cs⟩ := cs
  · exact absurd hl (by simp)
  obtain _ | ⟨x31, cs⟩ := cs
  · exact absurd hl (by simp)
  obtain _ | ⟨x32, cs⟩ := cs
  · exact absurd hl (by simp)
  obtain _ | ⟨x33, cs⟩ := cs
  · exact absurd hl (by simp)
  obtain _ | ⟨x34, cs⟩ := cs
  · exact absurd hl (by simp)
  obtain _ | ⟨x35, cs⟩ := cs
  · exact absurd hl (by simp)
  obtain _ | ⟨x36, cs⟩ := cs
  · exact absurd hl (by simp)
  obtain _ | ⟨x37, cs⟩ := cs
  · exact absurd hl (by simp)
  obtain _ | ⟨x38, cs⟩ := cs
  · exact absurd hl (by simp)
  obtain _ | ⟨x39, cs⟩ := cs
  · exact absurd hl (by simp)
  obtain _ | ⟨x40, cs⟩ := cs
  · exact absurd hl (by simp)
  obtain _ | ⟨x41, cs⟩ := cs
  · exact absurd hl (by simp)
  obtain _ | ⟨x42, cs⟩ := cs
  · exact absurd hl (by simp)
  obtain rfl : cs = [] := by simpa using hl
  · skip
    have g0 : DataW.trod enc Try.prog W base spare held n 25 [x0, x1, x2, x3, x4, x5, x6, x7, x8, x9, x10, x11, x12, x13, x14, x15, x16, x17, x18, x19, x20, x21, x22, x23, x24, x25, x26, x27, x28, x29, x30, x31, x32, x33, x34, x35, x36, x37, x38, x39, x40, x41] = xs[0]? := by simpa [h25] using hf 0 _ rfl
    have g1 : DataW.trod enc Try.prog W base spare held n 3 [x42] = xs[1]? := by simpa [h3] using hf 1 _ rfl
    obtain ⟨y0, q0⟩ := some_of hxl2 (i := 0) (by omega)
    obtain ⟨y1, q1⟩ := some_of hxl2 (i := 1) (by omega)
    rw [q0] at g0
    rw [q1] at g1
    obtain ⟨la, e1, _, _⟩ := DataW.trod_int Try.underlying3 g1
    simp only [List.cons.injEq, and_true] at e1
    subst e1
    obtain ⟨ys, m, _, _, _, hyl, hel⟩ := DataW.trod_array Try.underlying25 g0
    simp only [h24] at hel
    have k0 : DataW.trod enc Try.prog W base spare held m 24 [x0, x1, x2, x3, x4, x5] = ys[0]? := hel 0 (by omega)
    obtain ⟨z0, p0⟩ := some_of hyl (i := 0) (by omega)
    rw [p0] at k0
    obtain ⟨c0, f0⟩ := open_core k0
    simp only [cellsC, List.cons.injEq, and_true] at f0
    obtain ⟨rfl, rfl, rfl, rfl, rfl, rfl⟩ := f0
    have k1 : DataW.trod enc Try.prog W base spare held m 24 [x6, x7, x8, x9, x10, x11] = ys[1]? := hel 1 (by omega)
    obtain ⟨z1, p1⟩ := some_of hyl (i := 1) (by omega)
    rw [p1] at k1
    obtain ⟨c1, f1⟩ := open_core k1
    simp only [cellsC, List.cons.injEq, and_true] at f1
    obtain ⟨rfl, rfl, rfl, rfl, rfl, rfl⟩ := f1
    have k2 : DataW.trod enc Try.prog W base spare held m 24 [x12, x13, x14, x15, x16, x17] = ys[2]? := hel 2 (by omega)
    obtain ⟨z2, p2⟩ := some_of hyl (i := 2) (by omega)
    rw [p2] at k2
    obtain ⟨c2, f2⟩ := open_core k2
    simp only [cellsC, List.cons.injEq, and_true] at f2
    obtain ⟨rfl, rfl, rfl, rfl, rfl, rfl⟩ := f2
    have k3 : DataW.trod enc Try.prog W base spare held m 24 [x18, x19, x20, x21, x22, x23] = ys[3]? := hel 3 (by omega)
    obtain ⟨z3, p3⟩ := some_of hyl (i := 3) (by omega)
    rw [p3] at k3
    obtain ⟨c3, f3⟩ := open_core k3
    simp only [cellsC, List.cons.injEq, and_true] at f3
    obtain ⟨rfl, rfl, rfl, rfl, rfl, rfl⟩ := f3
    have k4 : DataW.trod enc Try.prog W base spare held m 24 [x24, x25, x26, x27, x28, x29] = ys[4]? := hel 4 (by omega)
    obtain ⟨z4, p4⟩ := some_of hyl (i := 4) (by omega)
    rw [p4] at k4
    obtain ⟨c4, f4⟩ := open_core k4
    simp only [cellsC, List.cons.injEq, and_true] at f4
    obtain ⟨rfl, rfl, rfl, rfl, rfl, rfl⟩ := f4
    have k5 : DataW.trod enc Try.prog W base spare held m 24 [x30, x31, x32, x33, x34, x35] = ys[5]? := hel 5 (by omega)
    obtain ⟨z5, p5⟩ := some_of hyl (i := 5) (by omega)
    rw [p5] at k5
    obtain ⟨c5, f5⟩ := open_core k5
    simp only [cellsC, List.cons.injEq, and_true] at f5
    obtain ⟨rfl, rfl, rfl, rfl, rfl, rfl⟩ := f5
    have k6 : DataW.trod enc Try.prog W base spare held m 24 [x36, x37, x38, x39, x40, x41] = ys[6]? := hel 6 (by omega)
    obtain ⟨z6, p6⟩ := some_of hyl (i := 6) (by omega)
    rw [p6] at k6
    obtain ⟨c6, f6⟩ := open_core k6
    simp only [cellsC, List.cons.injEq, and_true] at f6
    obtain ⟨rfl, rfl, rfl, rfl, rfl, rfl⟩ := f6
    exact ⟨⟨c0, c1, c2, c3, c4, c5, c6, la⟩, rfl⟩
end
end Go.Proofs.Ytjenkcgjpdappaa.Read
