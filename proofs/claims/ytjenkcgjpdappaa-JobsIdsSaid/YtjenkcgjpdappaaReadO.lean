/- An argument of type []Op reads as a list of records of five whole numbers. No condition. -/
import Derived.Test.YtjenkcgjpdappaaPx0
import Derived.Test.YtjenkcgjpdappaaOpenO
import Derived.Deep.Slices
import Derived.ChangeArms
import Derived.ProofKit
set_option linter.unusedVariables false
namespace Go.Proofs.Ytjenkcgjpdappaa.Read
open Go.ChangeShapes Go.WideShapes Go.Deep Go.RowKit Go.Proofs.Ytjenkcgjpdappaa.P Go.Proofs.YtjenkcgjpdappaaW.PrintWords Go.Proofs.YtjenkcgjpdappaaW.PrintLast
section
variable {H : Type} {enc : TypeId × Value → H} {W : World} {base : Nat} {spare : Nat → Bool} {held : Bool}
theorem open_ops {fuel : Nat} {cs : List Value} {x : DataW H × List MemPlace} (h : DataW.trod enc Try.prog W base spare held fuel 22 cs = some x) :
    ∃ (A : Option Addr) (cap : Nat) (l : List S33), cs = [.slice A l.length cap] ∧ l.length ≤ cap ∧ Kd.C k33 W A l.length l := by
  rcases open_slice Try.underlying22 h with ⟨rfl, _⟩ | ⟨a, len, cap, m, n, D, Pl, rfl, hb, hl, hm, hmm, hx, hi⟩
  · exact ⟨none, 0, [], rfl, Nat.le_refl _, Kd.C_nil k33 W⟩
  · have hc : Try.prog.cellsOf 33 = 5 := by kernel_rfl
    have hle : len ≤ m := by rw [hmm]; split <;> omega
    rw [hc] at hi
    have key : ∀ i, i < len → ∃ t : S33, W.cell? (a.add (i * 5)) = some (.int .i64 t.f0) ∧ W.cell? (a.add (i * 5 + 1)) = some (.int .i64 t.f1) ∧ W.cell? (a.add (i * 5 + 2)) = some (.int .i64 t.f2) ∧ W.cell? (a.add (i * 5 + 3)) = some (.int .i64 t.f3) ∧ W.cell? (a.add (i * 5 + 4)) = some (.int .i64 t.f4) := by
      intro i hil
      obtain ⟨cs', hcells, ht⟩ := hi i (by omega)
      obtain ⟨a0, a1, a2, a3, a4, rfl⟩ := open_op ht
      obtain ⟨_, _, hat⟩ := World.cells?_some hcells
      have h0 := hat 0 (by decide)
      have h1 := hat 1 (by decide)
      have h2 := hat 2 (by decide)
      have h3 := hat 3 (by decide)
      have h4 := hat 4 (by decide)
      rw [Deep.add_add] at h0 h1 h2 h3 h4
      exact ⟨⟨a0, a1, a2, a3, a4⟩, by simpa using h0, by simpa using h1, by simpa using h2, by simpa using h3, by simpa using h4⟩
    letI : Inhabited S33 := ⟨z33⟩
    obtain ⟨V, hV⟩ := choose_lt (α := S33) (n := len) (p := fun i t => W.cell? (a.add (i * 5)) = some (.int .i64 t.f0) ∧ W.cell? (a.add (i * 5 + 1)) = some (.int .i64 t.f1) ∧ W.cell? (a.add (i * 5 + 2)) = some (.int .i64 t.f2) ∧ W.cell? (a.add (i * 5 + 3)) = some (.int .i64 t.f3) ∧ W.cell? (a.add (i * 5 + 4)) = some (.int .i64 t.f4)) key
    refine ⟨some a, cap, (List.range len).map V, by simp, by simpa using hl, ?_⟩
    refine ⟨rfl, by simp; unfold maxLen at hm; omega, fun _ => ⟨a, rfl, fun j p hj => ?_⟩⟩
    simp only [List.getElem?_map, Option.map_eq_some_iff] at hj
    obtain ⟨q, hq, rfl⟩ := hj
    have hjl : j < len := by
      rcases Nat.lt_or_ge j len with h | h
      · exact h
      · rw [List.getElem?_eq_none (by simpa using h)] at hq; cases hq
    have hqj : q = j := by
      rw [List.getElem?_range hjl] at hq
      exact (Option.some.inj hq).symm
    subst hqj
    obtain ⟨e0, e1, e2, e3, e4⟩ := hV q hjl
    refine ⟨[.int .i64 (V q).f0, .int .i64 (V q).f1, .int .i64 (V q).f2, .int .i64 (V q).f3, .int .i64 (V q).f4], rfl, k33_mk W (V q), fun i u hu => ?_⟩
    match i, hu with
    | 0, hu => simp at hu; subst hu; exact e0
    | 1, hu => simp at hu; subst hu; exact e1
    | 2, hu => simp at hu; subst hu; exact e2
    | 3, hu => simp at hu; subst hu; exact e3
    | 4, hu => simp at hu; subst hu; exact e4
end
end Go.Proofs.Ytjenkcgjpdappaa.Read
