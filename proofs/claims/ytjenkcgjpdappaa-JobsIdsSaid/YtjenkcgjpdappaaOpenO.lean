/- An argument of type Op reads as five whole numbers. No condition. -/
import Derived.Test.YtjenkcgjpdappaaOpenJ
namespace Go.Proofs.Ytjenkcgjpdappaa.Read
open Go.ChangeShapes Go.WideShapes Go.Deep Go.RowKit Go.Proofs.Ytjenkcgjpdappaa.P Go.Proofs.Ytjenkcgjpdappaa.Plain Go.Proofs.YtjenkcgjpdappaaW.PrintWords Go.Proofs.YtjenkcgjpdappaaW.PrintLast
section
variable {H : Type} {enc : TypeId × Value → H} {W : World} {base : Nat} {spare : Nat → Bool} {held : Bool}
theorem open_op {fuel : Nat} {cs : List Value} {x : DataW H × List MemPlace} (h : DataW.trod enc Try.prog W base spare held fuel 33 cs = some x) : ∃ d x n g l : Int, cs = [.int .i64 d, .int .i64 x, .int .i64 n, .int .i64 g, .int .i64 l] := by
  obtain ⟨xs, n, _, _, hl, hxl, hf⟩ := DataW.trod_struct Try.underlying33 h
  have hxl5 : xs.length = 5 := hxl
  have hc : Try.prog.cellsOf 33 = 5 := by kernel_rfl
  have h3 : Try.prog.cellsOf 3 = 1 := by kernel_rfl
  rw [hc] at hl
  match cs, hl with
  | [c0, c1, c2, c3, c4], _ =>
    have g0 : DataW.trod enc Try.prog W base spare held n 3 [c0] = xs[0]? := by simpa [h3] using hf 0 _ rfl
    have g1 : DataW.trod enc Try.prog W base spare held n 3 [c1] = xs[1]? := by simpa [h3] using hf 1 _ rfl
    have g2 : DataW.trod enc Try.prog W base spare held n 3 [c2] = xs[2]? := by simpa [h3] using hf 2 _ rfl
    have g3 : DataW.trod enc Try.prog W base spare held n 3 [c3] = xs[3]? := by simpa [h3] using hf 3 _ rfl
    have g4 : DataW.trod enc Try.prog W base spare held n 3 [c4] = xs[4]? := by simpa [h3] using hf 4 _ rfl
    obtain ⟨y0, q0⟩ := some_of hxl5 (i := 0) (by omega)
    rw [q0] at g0
    obtain ⟨a0, e0, _, _⟩ := DataW.trod_int Try.underlying3 g0
    obtain ⟨y1, q1⟩ := some_of hxl5 (i := 1) (by omega)
    rw [q1] at g1
    obtain ⟨a1, e1, _, _⟩ := DataW.trod_int Try.underlying3 g1
    obtain ⟨y2, q2⟩ := some_of hxl5 (i := 2) (by omega)
    rw [q2] at g2
    obtain ⟨a2, e2, _, _⟩ := DataW.trod_int Try.underlying3 g2
    obtain ⟨y3, q3⟩ := some_of hxl5 (i := 3) (by omega)
    rw [q3] at g3
    obtain ⟨a3, e3, _, _⟩ := DataW.trod_int Try.underlying3 g3
    obtain ⟨y4, q4⟩ := some_of hxl5 (i := 4) (by omega)
    rw [q4] at g4
    obtain ⟨a4, e4, _, _⟩ := DataW.trod_int Try.underlying3 g4
    simp only [List.cons.injEq, and_true] at e0 e1 e2 e3 e4
    subst e0 e1 e2 e3 e4
    exact ⟨a0, a1, a2, a3, a4, rfl⟩
end
end Go.Proofs.Ytjenkcgjpdappaa.Read
