/- A slice of tasks that came in reads as a list of tasks, of a length that its weight allows. No condition. -/
import Derived.Test.YteffinafobeefaaPx0
import Derived.Test.YteffinafobeefaaWSized
import Derived.Deep.Slices
import Derived.ChangeArms
import Derived.ProofKit
namespace Go.Proofs.Yteffinafobeefaa.Read
open Go.ChangeShapes Go.WideShapes Go.Deep Go.RowKit Go.Proofs.Yteffinafobeefaa.P Go.Proofs.YteffinafobeefaaW.PrintWords Go.Proofs.YteffinafobeefaaW.PrintLast
section
variable {H : Type} {enc : TypeId × Value → H} {W : World} {base : Nat} {spare : Nat → Bool} {held : Bool}

theorem open_task {fuel : Nat} {cs : List Value} {x : DataW H × List MemPlace} (h : DataW.trod enc Try.prog W base spare held fuel 24 cs = some x) :
    ∃ t : S24, cs = [.int .i64 t.f0, .int .i64 t.f1, .int .i64 t.f2] := by
  obtain ⟨xs, n, _, _, hl, hxl, hf⟩ := DataW.trod_struct Try.underlying24 h
  have hxl3 : xs.length = 3 := hxl
  have hc : Try.prog.cellsOf 24 = 3 := by kernel_rfl
  have h3 : Try.prog.cellsOf 3 = 1 := by kernel_rfl
  rw [hc] at hl
  match cs, hl with
  | [c0, c1, c2], _ =>
    have g0 : DataW.trod enc Try.prog W base spare held n 3 [c0] = xs[0]? := by simpa [h3] using hf 0 _ rfl
    have g1 : DataW.trod enc Try.prog W base spare held n 3 [c1] = xs[1]? := by simpa [h3] using hf 1 _ rfl
    have g2 : DataW.trod enc Try.prog W base spare held n 3 [c2] = xs[2]? := by simpa [h3] using hf 2 _ rfl
    have q0 : ∃ y, DataW.trod enc Try.prog W base spare held n 3 [c0] = some y := by
      rcases e : xs[0]? with _ | y
      · have := List.getElem?_eq_none_iff.1 e; omega
      · exact ⟨y, g0.trans e⟩
    have q1 : ∃ y, DataW.trod enc Try.prog W base spare held n 3 [c1] = some y := by
      rcases e : xs[1]? with _ | y
      · have := List.getElem?_eq_none_iff.1 e; omega
      · exact ⟨y, g1.trans e⟩
    have q2 : ∃ y, DataW.trod enc Try.prog W base spare held n 3 [c2] = some y := by
      rcases e : xs[2]? with _ | y
      · have := List.getElem?_eq_none_iff.1 e; omega
      · exact ⟨y, g2.trans e⟩
    obtain ⟨_, q0⟩ := q0
    obtain ⟨_, q1⟩ := q1
    obtain ⟨_, q2⟩ := q2
    obtain ⟨a, e0, _, _⟩ := DataW.trod_int Try.underlying3 q0
    obtain ⟨b, e1, _, _⟩ := DataW.trod_int Try.underlying3 q1
    obtain ⟨c, e2, _, _⟩ := DataW.trod_int Try.underlying3 q2
    simp only [List.cons.injEq, and_true] at e0 e1 e2
    subst e0 e1 e2
    exact ⟨⟨a, b, c⟩, rfl⟩

theorem open_tasks {fuel : Nat} {cs : List Value} {x : DataW H × List MemPlace} (h : DataW.trod enc Try.prog W base spare held fuel 22 cs = some x) :
    ∃ (A : Option Addr) (cap : Nat) (l : List S24), cs = [.slice A l.length cap] ∧ l.length ≤ cap ∧ Kd.C k24 W A l.length l ∧ (l.length = 0 ∨ ∃ e s, x.1 = .slice e s ∧ e.length = l.length) := by
  rcases open_slice Try.underlying22 h with ⟨rfl, _⟩ | ⟨a, len, cap, m, n, D, Pl, rfl, hb, hl, hm, hmm, hx, hi⟩
  · exact ⟨none, 0, [], rfl, Nat.le_refl _, Kd.C_nil k24 W, .inl rfl⟩
  · have hc : Try.prog.cellsOf 24 = 3 := by kernel_rfl
    have hle : len ≤ m := by rw [hmm]; split <;> omega
    rw [hc] at hi
    have key : ∀ i, i < len → ∃ t : S24, W.cell? (a.add (i * 3)) = some (.int .i64 t.f0) ∧ W.cell? (a.add (i * 3 + 1)) = some (.int .i64 t.f1) ∧ W.cell? (a.add (i * 3 + 2)) = some (.int .i64 t.f2) := by
      intro i hil
      obtain ⟨cs', hcells, ht⟩ := hi i (by omega)
      obtain ⟨t, rfl⟩ := open_task ht
      obtain ⟨_, _, hat⟩ := World.cells?_some hcells
      have h0 := hat 0 (by decide)
      have h1 := hat 1 (by decide)
      have h2 := hat 2 (by decide)
      rw [Deep.add_add] at h0 h1 h2
      exact ⟨t, by simpa using h0, by simpa using h1, by simpa using h2⟩
    letI : Inhabited S24 := ⟨z24⟩
    obtain ⟨V, hV⟩ := choose_lt (α := S24) (n := len) (p := fun i t => W.cell? (a.add (i * 3)) = some (.int .i64 t.f0) ∧ W.cell? (a.add (i * 3 + 1)) = some (.int .i64 t.f1) ∧ W.cell? (a.add (i * 3 + 2)) = some (.int .i64 t.f2)) key
    refine ⟨some a, cap, (List.range len).map V, by simp, by simpa using hl, ?_, .inr ⟨_, _, by rw [hx], by simp⟩⟩
    refine ⟨rfl, by simp; unfold maxLen at hm; omega, fun _ => ⟨a, rfl, fun j p hj => ?_⟩⟩
    simp only [List.getElem?_map, Option.map_eq_some_iff] at hj
    obtain ⟨q, hq, rfl⟩ := hj
    have hjl : j < len := by
      rcases Nat.lt_or_ge j len with h | h
      · exact h
      · rw [List.getElem?_eq_none (by simpa using h)] at hq; cases hq
    have hqj : q = j := by
      rw [List.getElem?_range hjl] at hq
      exact (Option.some.inj hq).symm
    subst hqj
    obtain ⟨e0, e1, e2⟩ := hV q hjl
    refine ⟨[.int .i64 (V q).f0, .int .i64 (V q).f1, .int .i64 (V q).f2], rfl, k24_mk W (V q), fun i u hu => ?_⟩
    match i, hu with
    | 0, hu => simp at hu; subst hu; exact e0
    | 1, hu => simp at hu; subst hu; exact e1
    | 2, hu => simp at hu; subst hu; exact e2
end

theorem tasks_sized {H : Type} {enc : TypeId × Value → H} {W : World} {base : Nat} {spare : Nat → Bool} {held : Bool} {fuel : Nat} {cs : List Value} {x : DataW H × List MemPlace} {ts : List TypeId} {ds : List (DataW H)} {j n : Nat}
    (hsz : (DataW.weightsEach Try.prog ts ds).all (· ≤ reachBytes) = true) (ht : ts[j]? = some 22) (hd : ds[j]? = some x.1) (h : n = 0 ∨ ∃ e s, x.1 = .slice e s ∧ e.length = n) (_ : DataW.trod enc Try.prog W base spare held fuel 22 cs = some x) : n ≤ 5864062014634 := by
  rcases h with h | ⟨e, s, hx, hn⟩
  · omega
  · rw [hx] at hd
    have z := sized_slice hsz ht hd Try.underlying22
    have hb : Try.prog.bytesOf 24 = 24 := by kernel_rfl
    rw [hb, hn] at z
    have hr : reachBytes = 140737488351232 := by kernel_rfl
    rw [hr] at z
    omega
end Go.Proofs.Yteffinafobeefaa.Read
