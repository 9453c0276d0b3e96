/- An argument of type []Sent reads as a list of records of four whole numbers. No condition. -/
import Derived.Test.YtdncfnlhkacpaaaPx0
import Derived.Test.YtdncfnlhkacpaaaPlainD
import Derived.Deep.Slices
import Derived.ChangeArms
import Derived.ProofKit
import Derived.OpenShut
set_option linter.unusedVariables false
namespace Go.Proofs.Ytdncfnlhkacpaaa.Read
open Go.ChangeShapes Go.WideShapes Go.Deep Go.RowKit Go.Proofs.Ytdncfnlhkacpaaa.P Go.Proofs.Ytdncfnlhkacpaaa.Plain Go.Proofs.YtdncfnlhkacpaaaW.PrintWords Go.Proofs.YtdncfnlhkacpaaaW.PrintLast
section
variable {H : Type} {enc : TypeId × Value → H} {W : World} {base : Nat} {spare : Nat → Bool} {held : Bool}
theorem some_of {α : Type} {l : List α} {n i : Nat} (hl : l.length = n) (hi : i < n) : ∃ y, l[i]? = some y := ⟨l[i]'(by omega), List.getElem?_eq_getElem (by omega)⟩
def okT (t : S46) : Prop := 0 ≤ t.f0 ∧ t.f0 ≤ 255 ∧ 0 ≤ t.f1 ∧ 0 ≤ t.f2
theorem open_sent {fuel : Nat} {cs : List Value} {x : DataW H × List MemPlace} (h : DataW.trod enc Try.prog W base spare held fuel 46 cs = some x) : ∃ t : S46, cs = [.int .u8 t.f0, .int .u8 t.f1, .int .u8 t.f2, .int .u16 t.f3] ∧ okT t := by
  obtain ⟨xs, n, _, _, hl, hxl, hf⟩ := DataW.trod_struct Try.underlying46 h
  have hxl4 : xs.length = 4 := hxl
  have hc : Try.prog.cellsOf 46 = 4 := by kernel_rfl
  have h5 : Try.prog.cellsOf 5 = 1 := by kernel_rfl
  have h6 : Try.prog.cellsOf 44 = 1 := by kernel_rfl
  rw [hc] at hl
  match cs, hl with
  | [c0, c1, c2, c3], _ =>
    have g0 : DataW.trod enc Try.prog W base spare held n 5 [c0] = xs[0]? := by simpa [h5, h6] using hf 0 _ rfl
    have g1 : DataW.trod enc Try.prog W base spare held n 5 [c1] = xs[1]? := by simpa [h5, h6] using hf 1 _ rfl
    have g2 : DataW.trod enc Try.prog W base spare held n 5 [c2] = xs[2]? := by simpa [h5, h6] using hf 2 _ rfl
    have g3 : DataW.trod enc Try.prog W base spare held n 44 [c3] = xs[3]? := by simpa [h5, h6] using hf 3 _ rfl
    obtain ⟨y0, q0⟩ := some_of hxl4 (i := 0) (by omega)
    rw [q0] at g0
    obtain ⟨a0, e0, _, w0⟩ := DataW.trod_int Try.underlying5 g0
    obtain ⟨y1, q1⟩ := some_of hxl4 (i := 1) (by omega)
    rw [q1] at g1
    obtain ⟨a1, e1, _, w1⟩ := DataW.trod_int Try.underlying5 g1
    obtain ⟨y2, q2⟩ := some_of hxl4 (i := 2) (by omega)
    rw [q2] at g2
    obtain ⟨a2, e2, _, w2⟩ := DataW.trod_int Try.underlying5 g2
    obtain ⟨y3, q3⟩ := some_of hxl4 (i := 3) (by omega)
    rw [q3] at g3
    obtain ⟨a3, e3, _, w3⟩ := DataW.trod_int Try.underlying44 g3
    simp only [List.cons.injEq, and_true] at e0 e1 e2 e3
    subst e0 e1 e2 e3
    have b0 : 0 ≤ a0 ∧ a0 ≤ 255 := by simpa [Lit.wf, IntKind.min, IntKind.max, IntKind.signed, IntKind.bits] using w0
    have b1 : 0 ≤ a1 ∧ a1 ≤ 255 := by simpa [Lit.wf, IntKind.min, IntKind.max, IntKind.signed, IntKind.bits] using w1
    have b2 : 0 ≤ a2 ∧ a2 ≤ 255 := by simpa [Lit.wf, IntKind.min, IntKind.max, IntKind.signed, IntKind.bits] using w2
    exact ⟨⟨a0, a1, a2, a3⟩, rfl, b0.1, b0.2, b1.1, b2.1⟩
theorem open_sents {fuel : Nat} {cs : List Value} {x : DataW H × List MemPlace} (h : DataW.trod enc Try.prog W base spare held fuel 43 cs = some x) :
    ∃ (A : Option Addr) (cap : Nat) (l : List S46), cs = [.slice A l.length cap] ∧ l.length ≤ cap ∧ Kd.C k46 W A l.length l ∧ okS l := by
  rcases open_slice Try.underlying43 h with ⟨rfl, _⟩ | ⟨a, len, cap, m, n, D, Pl, rfl, hb, hl, hm, hmm, hx, hi⟩
  · exact ⟨none, 0, [], rfl, Nat.le_refl _, Kd.C_nil k46 W, fun t ht => by cases ht⟩
  · have hc : Try.prog.cellsOf 46 = 4 := by kernel_rfl
    have hle : len ≤ m := by rw [hmm]; split <;> omega
    rw [hc] at hi
    have key : ∀ i, i < len → ∃ t : S46, W.cell? (a.add (i * 4)) = some (.int .u8 t.f0) ∧ W.cell? (a.add (i * 4 + 1)) = some (.int .u8 t.f1) ∧ W.cell? (a.add (i * 4 + 2)) = some (.int .u8 t.f2) ∧ W.cell? (a.add (i * 4 + 3)) = some (.int .u16 t.f3) ∧ okT t := by
      intro i hil
      obtain ⟨cs', hcells, ht⟩ := hi i (by omega)
      obtain ⟨t, rfl, hok⟩ := open_sent ht
      obtain ⟨_, _, hat⟩ := World.cells?_some hcells
      have h0 := hat 0 (by decide)
      have h1 := hat 1 (by decide)
      have h2 := hat 2 (by decide)
      have h3 := hat 3 (by decide)
      rw [Deep.add_add] at h0 h1 h2 h3
      exact ⟨t, by simpa using h0, by simpa using h1, by simpa using h2, by simpa using h3, hok⟩
    letI : Inhabited S46 := ⟨z46⟩
    obtain ⟨V, hV⟩ := choose_lt (α := S46) (n := len) (p := fun i t => W.cell? (a.add (i * 4)) = some (.int .u8 t.f0) ∧ W.cell? (a.add (i * 4 + 1)) = some (.int .u8 t.f1) ∧ W.cell? (a.add (i * 4 + 2)) = some (.int .u8 t.f2) ∧ W.cell? (a.add (i * 4 + 3)) = some (.int .u16 t.f3) ∧ okT t) key
    refine ⟨some a, cap, (List.range len).map V, by simp, by simpa using hl, ?_, fun t ht => ?_⟩
    · refine ⟨rfl, by simp; unfold maxLen at hm; omega, fun _ => ⟨a, rfl, fun j p hj => ?_⟩⟩
      simp only [List.getElem?_map, Option.map_eq_some_iff] at hj
      obtain ⟨q, hq, rfl⟩ := hj
      have hjl : j < len := by
        rcases Nat.lt_or_ge j len with h | h
        · exact h
        · rw [List.getElem?_eq_none (by simpa using h)] at hq; cases hq
      have hqj : q = j := by
        rw [List.getElem?_range hjl] at hq
        exact (Option.some.inj hq).symm
      subst hqj
      obtain ⟨e0, e1, e2, e3, _⟩ := hV q hjl
      refine ⟨[.int .u8 (V q).f0, .int .u8 (V q).f1, .int .u8 (V q).f2, .int .u16 (V q).f3], rfl, k46_mk W (V q), fun i u hu => ?_⟩
      match i, hu with
      | 0, hu => simp at hu; subst hu; exact e0
      | 1, hu => simp at hu; subst hu; exact e1
      | 2, hu => simp at hu; subst hu; exact e2
      | 3, hu => simp at hu; subst hu; exact e3
    · obtain ⟨i, hi', rfl⟩ := List.mem_map.1 ht
      exact (hV i (List.mem_range.1 hi')).2.2.2.2
end
end Go.Proofs.Ytdncfnlhkacpaaa.Read
