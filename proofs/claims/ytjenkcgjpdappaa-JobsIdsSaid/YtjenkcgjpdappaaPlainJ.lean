/- Plain facts on what the printed functions of package jobs and of its reference answer, over tables told as seven cores and a last id: Valid, fits. No condition. -/
import Derived.Test.YtjenkcgjpdappaaPx4
import Derived.Test.YtjenkcgjpdappaaPx11
set_option linter.unusedVariables false
namespace Go.Proofs.Ytjenkcgjpdappaa.Plain
open Go.RowKit Go.Proofs.Ytjenkcgjpdappaa.P Go.Proofs.YtjenkcgjpdappaaW.PrintWords Go.Proofs.YtjenkcgjpdappaaW.PrintLast
theorem wrap_id (x : Int) (h0 : -9223372036854775808 ≤ x) (h1 : x ≤ 9223372036854775807) : wrap64 x = x := by unfold wrap64; omega
structure C where
  u : Bool
  id : Int
  pr : Int
  gr : Int
  sl : Bool
  lf : Int
  deriving DecidableEq
structure Tab where
  c0 : C
  c1 : C
  c2 : C
  c3 : C
  c4 : C
  c5 : C
  c6 : C
  la : Int
  deriving DecidableEq
structure G where
  g0 : Int
  g1 : Int
  g2 : Int
  g3 : Int
  g4 : Int
  g5 : Int
  g6 : Int
def C0 : C := ⟨false, 0, 0, 0, false, 0⟩
def Tab.at (t : Tab) (i : Int) : C := ⟨pk7 t.c0.u t.c1.u t.c2.u t.c3.u t.c4.u t.c5.u t.c6.u i, pk7 t.c0.id t.c1.id t.c2.id t.c3.id t.c4.id t.c5.id t.c6.id i, pk7 t.c0.pr t.c1.pr t.c2.pr t.c3.pr t.c4.pr t.c5.pr t.c6.pr i, pk7 t.c0.gr t.c1.gr t.c2.gr t.c3.gr t.c4.gr t.c5.gr t.c6.gr i, pk7 t.c0.sl t.c1.sl t.c2.sl t.c3.sl t.c4.sl t.c5.sl t.c6.sl i, pk7 t.c0.lf t.c1.lf t.c2.lf t.c3.lf t.c4.lf t.c5.lf t.c6.lf i⟩
def G.at (g : G) (i : Int) : Int := pk7 g.g0 g.g1 g.g2 g.g3 g.g4 g.g5 g.g6 i
def G.put (g : G) (i v : Int) : G := ⟨pt 0 i v g.g0, pt 1 i v g.g1, pt 2 i v g.g2, pt 3 i v g.g3, pt 4 i v g.g4, pt 5 i v g.g5, pt 6 i v g.g6⟩
def C.nz (c : C) : Bool := c.u || (!(c.id == 0) || (!(c.pr == 0) || (!(c.gr == 0) || (c.sl || (!(c.lf == 0))))))
theorem G.at_put (g : G) (i v q : Int) (h0 : 0 ≤ i) (h1 : i < 7) (h2 : 0 ≤ q) (h3 : q < 7) : (g.put i v).at q = if q = i then v else g.at q := by
  obtain rfl | rfl | rfl | rfl | rfl | rfl | rfl : q = 0 ∨ q = 1 ∨ q = 2 ∨ q = 3 ∨ q = 4 ∨ q = 5 ∨ q = 6 := by omega
  all_goals simp [G.at, G.put, pk7, pt, eq_comm]
theorem C.nz_iff (c : C) : c.nz = false ↔ c = C0 := by
  obtain ⟨u, a, b, g, s, l⟩ := c
  simp [C.nz, C0]
def fitsS (p g l : Int) : Bool := decide (1 ≤ p ∧ p ≤ 63 ∧ ((g = 0 ∧ 1 ≤ l ∧ l ≤ 1073741824) ∨ (1 ≤ g ∧ g ≤ 6 ∧ l = 0)))
theorem fits_at (p g l : Int) (k : Nat) : jobs_fits.f (k + 1) p g l = some (fitsS p g l) := by
  unfold jobs_fits.f fitsS
  by_cases h1 : p < 1
  · rw [if_pos h1, jobs_fits.j0, if_pos rfl]
    simp; omega
  rw [if_neg h1, jobs_fits.j0]
  by_cases h2 : p > 63
  · rw [if_pos (by simpa using h2)]
    simp; omega
  rw [if_neg (by simpa using h2)]
  by_cases h3 : g = 0
  · rw [if_pos h3]
    by_cases h4 : l ≥ 1
    · rw [if_pos h4]
      congr 1
      rw [decide_eq_decide]
      omega
    · rw [if_neg h4]
      simp; omega
  · rw [if_neg h3]
    by_cases h5 : g < 0
    · rw [if_pos h5]
      simp; omega
    · rw [if_neg h5]
      by_cases h6 : g > 6
      · rw [if_pos h6]
        simp; omega
      · rw [if_neg h6]
        congr 1
        by_cases h7 : l = 0
        · simp [h7]; omega
        · rw [show (l == 0) = false from by simpa using h7, eq_comm, decide_eq_false_iff_not]; omega
theorem rfits_at (p g l : Int) (k : Nat) : periluneref23_fits.f (k + 1) p g l = some (fitsS p g l) := by
  unfold periluneref23_fits.f fitsS
  by_cases h1 : p < 1
  · rw [if_pos h1, periluneref23_fits.j0, if_pos rfl]
    simp; omega
  rw [if_neg h1]
  by_cases h2 : p > 63
  · rw [if_pos h2, periluneref23_fits.j0, if_pos rfl]
    simp; omega
  rw [if_neg h2]
  by_cases h5 : g < 0
  · rw [if_pos h5, periluneref23_fits.j0, if_pos rfl]
    simp; omega
  rw [if_neg h5, periluneref23_fits.j0]
  by_cases h6 : g > 6
  · rw [if_pos (by simpa using h6)]
    simp; omega
  rw [if_neg (by simpa using h6)]
  by_cases h3 : g = 0
  · rw [if_pos h3]
    by_cases h4 : l ≥ 1
    · rw [if_pos h4]
      congr 1
      rw [decide_eq_decide]
      omega
    · rw [if_neg h4]
      simp; omega
  · rw [if_neg h3]
    congr 1
    by_cases h7 : l = 0
    · simp [h7]; omega
    · rw [show (l == 0) = false from by simpa using h7, eq_comm, decide_eq_false_iff_not]; omega
/-- A core set of a valid table. -/
def good (t : Tab) (i : Int) : Prop := if (t.at i).u = true then 1 ≤ (t.at i).id ∧ (t.at i).id ≤ t.la ∧ fitsS (t.at i).pr (t.at i).gr (t.at i).lf = true ∧ ∀ k, 0 ≤ k → k < i → (t.at k).u = true → (t.at k).id ≠ (t.at i).id ∧ ¬ ((t.at k).gr = (t.at i).gr ∧ (t.at i).gr ≠ 0) else t.at i = C0
def valid (t : Tab) : Prop := 0 ≤ t.la ∧ t.la ≤ 1073741824 ∧ ∀ i, 0 ≤ i → i < 7 → good t i
/-! ### the reference's Valid -/
def rl0 (k : Nat) (i : Int) (t : Tab) := periluneref23_Valid.l0 k i t.c0.u t.c0.id t.c0.pr t.c0.gr t.c0.sl t.c0.lf t.c1.u t.c1.id t.c1.pr t.c1.gr t.c1.sl t.c1.lf t.c2.u t.c2.id t.c2.pr t.c2.gr t.c2.sl t.c2.lf t.c3.u t.c3.id t.c3.pr t.c3.gr t.c3.sl t.c3.lf t.c4.u t.c4.id t.c4.pr t.c4.gr t.c4.sl t.c4.lf t.c5.u t.c5.id t.c5.pr t.c5.gr t.c5.sl t.c5.lf t.c6.u t.c6.id t.c6.pr t.c6.gr t.c6.sl t.c6.lf t.la
def rj2 (k : Nat) (i : Int) (b : Bool) (t : Tab) (c : C) := periluneref23_Valid.j2 k i b t.c0.u t.c0.id t.c0.pr t.c0.gr t.c0.sl t.c0.lf t.c1.u t.c1.id t.c1.pr t.c1.gr t.c1.sl t.c1.lf t.c2.u t.c2.id t.c2.pr t.c2.gr t.c2.sl t.c2.lf t.c3.u t.c3.id t.c3.pr t.c3.gr t.c3.sl t.c3.lf t.c4.u t.c4.id t.c4.pr t.c4.gr t.c4.sl t.c4.lf t.c5.u t.c5.id t.c5.pr t.c5.gr t.c5.sl t.c5.lf t.c6.u t.c6.id t.c6.pr t.c6.gr t.c6.sl t.c6.lf t.la c.u c.id c.pr c.gr c.sl c.lf
def rl1 (k : Nat) (i j : Int) (t : Tab) (c : C) := periluneref23_Valid.l1 k i j t.c0.u t.c0.id t.c0.pr t.c0.gr t.c0.sl t.c0.lf t.c1.u t.c1.id t.c1.pr t.c1.gr t.c1.sl t.c1.lf t.c2.u t.c2.id t.c2.pr t.c2.gr t.c2.sl t.c2.lf t.c3.u t.c3.id t.c3.pr t.c3.gr t.c3.sl t.c3.lf t.c4.u t.c4.id t.c4.pr t.c4.gr t.c4.sl t.c4.lf t.c5.u t.c5.id t.c5.pr t.c5.gr t.c5.sl t.c5.lf t.c6.u t.c6.id t.c6.pr t.c6.gr t.c6.sl t.c6.lf t.la c.u c.id c.pr c.gr c.sl c.lf
theorem rl0_succ (k : Nat) (i : Int) (t : Tab) : rl0 (k + 1) i t = if i < 7 then (if 0 ≤ i then (if (t.at i).u = true then (if (t.at i).id < 1 then rj2 k i true t (t.at i) else (if (t.at i).id > t.la then rj2 k i true t (t.at i) else ((periluneref23_fits.f k (t.at i).pr (t.at i).gr (t.at i).lf).bind fun f => rj2 k i (!f) t (t.at i)))) else (if (t.at i).nz = true then some false else rl0 k (wrap64 (i + 1)) t)) else none) else some true := rfl
theorem rj2_succ (k : Nat) (i : Int) (b : Bool) (t : Tab) (c : C) : rj2 (k + 1) i b t c = if b = true then some false else rl1 k i 0 t c := rfl
theorem rl1_succ (k : Nat) (i j : Int) (t : Tab) (c : C) : rl1 (k + 1) i j t c = if j < i then (if 0 ≤ j then (if j < 7 then (if (t.at j).u = true then (if (t.at j).id = c.id then some false else (if (t.at j).gr = c.gr then (if c.gr = 0 then rl1 k i (wrap64 (j + 1)) t c else some false) else rl1 k i (wrap64 (j + 1)) t c)) else rl1 k i (wrap64 (j + 1)) t c) else none) else none) else rl0 k (wrap64 (i + 1)) t := rfl
theorem rl1_at (t : Tab) (i : Int) (h1 : i < 7) (c : C) (r : Bool) (K : Nat) (hr : ∀ k, K ≤ k → rl0 k (i + 1) t = some r) (d : Nat) : ∀ (k : Nat) (j : Int), 0 ≤ j → j ≤ i → i - j = d → K + d < k →
    (rl1 k i j t c = some r ∧ ∀ q, j ≤ q → q < i → (t.at q).u = true → (t.at q).id ≠ c.id ∧ ¬ ((t.at q).gr = c.gr ∧ c.gr ≠ 0)) ∨ (rl1 k i j t c = some false ∧ ∃ q, j ≤ q ∧ q < i ∧ (t.at q).u = true ∧ ((t.at q).id = c.id ∨ ((t.at q).gr = c.gr ∧ c.gr ≠ 0))) := by
  induction d with
  | zero =>
    intro k j h0 h2 hd hk
    obtain ⟨k, rfl⟩ : ∃ q, k = q + 1 := ⟨k - 1, by omega⟩
    left
    rw [rl1_succ, if_neg (by omega), wrap_id (i + 1) (by omega) (by omega)]
    exact ⟨hr k (by omega), fun q g0 g1 => by omega⟩
  | succ d ih =>
    intro k j h0 h2 hd hk
    obtain ⟨k, rfl⟩ : ∃ q, k = q + 1 := ⟨k - 1, by omega⟩
    rw [rl1_succ, if_pos (by omega), if_pos h0, if_pos (by omega), wrap_id (j + 1) (by omega) (by omega)]
    have step : (¬ ((t.at j).u = true) ∨ ((t.at j).id ≠ c.id ∧ ¬ ((t.at j).gr = c.gr ∧ c.gr ≠ 0))) → (rl1 k i (j + 1) t c = some r ∧ ∀ q, j ≤ q → q < i → (t.at q).u = true → (t.at q).id ≠ c.id ∧ ¬ ((t.at q).gr = c.gr ∧ c.gr ≠ 0)) ∨ (rl1 k i (j + 1) t c = some false ∧ ∃ q, j ≤ q ∧ q < i ∧ (t.at q).u = true ∧ ((t.at q).id = c.id ∨ ((t.at q).gr = c.gr ∧ c.gr ≠ 0))) := by
      intro hs
      rcases ih k (j + 1) (by omega) (by omega) (by omega) (by omega) with ⟨e, g⟩ | ⟨e, q, g0, g1, g2⟩
      · left
        refine ⟨e, fun q g0 g1 g2 => ?_⟩
        by_cases e2 : q = j
        · subst e2
          rcases hs with hs | hs
          · exact absurd g2 hs
          · exact hs
        · exact g q (by omega) g1 g2
      · right
        exact ⟨e, q, by omega, g1, g2⟩
    by_cases c1 : (t.at j).u = true
    · rw [if_pos c1]
      by_cases c2 : (t.at j).id = c.id
      · rw [if_pos c2]
        right
        exact ⟨rfl, j, by omega, by omega, c1, .inl c2⟩
      · rw [if_neg c2]
        by_cases c3 : (t.at j).gr = c.gr
        · rw [if_pos c3]
          by_cases c4 : c.gr = 0
          · rw [if_pos c4]
            exact step (.inr ⟨c2, fun h => h.2 c4⟩)
          · rw [if_neg c4]
            right
            exact ⟨rfl, j, by omega, by omega, c1, .inr ⟨c3, c4⟩⟩
        · rw [if_neg c3]
          exact step (.inr ⟨c2, fun h => c3 h.1⟩)
    · rw [if_neg c1]
      exact step (.inl c1)
open Classical in
theorem rl0_at (t : Tab) (d : Nat) : ∀ (k : Nat) (i : Int), 0 ≤ i → i ≤ 7 → 7 - i = d → 12 * d + 2 ≤ k → rl0 k i t = some (decide (∀ q, i ≤ q → q < 7 → good t q)) := by
  induction d with
  | zero =>
    intro k i h0 h1 hd hk
    obtain ⟨k, rfl⟩ : ∃ q, k = q + 1 := ⟨k - 1, by omega⟩
    rw [rl0_succ, if_neg (by omega), decide_eq_true (fun q g0 g1 => by omega)]
  | succ d ih =>
    intro k i h0 h1 hd hk
    obtain ⟨k, rfl⟩ : ∃ q, k = q + 1 := ⟨k - 1, by omega⟩
    obtain ⟨m, rfl⟩ : ∃ q, k = q + 1 := ⟨k - 1, by omega⟩
    have nxt : ∀ k, 12 * d + 2 ≤ k → rl0 k (i + 1) t = some (decide (∀ q, i + 1 ≤ q → q < 7 → good t q)) := fun k hk => ih k (i + 1) (by omega) (by omega) (by omega) hk
    have both : (∀ q, i ≤ q → q < 7 → good t q) ↔ good t i ∧ ∀ q, i + 1 ≤ q → q < 7 → good t q := by
      constructor
      · intro h
        exact ⟨h i (by omega) (by omega), fun q g0 g1 => h q (by omega) g1⟩
      · intro h q g0 g1
        by_cases e : q = i
        · rw [e]; exact h.1
        · exact h.2 q (by omega) g1
    rw [rl0_succ, if_pos (by omega), if_pos h0]
    by_cases c1 : (t.at i).u = true
    · have bad : ¬ good t i → (some false : Option Bool) = some (decide (∀ q, i ≤ q → q < 7 → good t q)) := by
        intro h
        rw [decide_eq_false (fun g => h (both.1 g).1)]
      rw [if_pos c1]
      have gd : good t i ↔ 1 ≤ (t.at i).id ∧ (t.at i).id ≤ t.la ∧ fitsS (t.at i).pr (t.at i).gr (t.at i).lf = true ∧ ∀ k, 0 ≤ k → k < i → (t.at k).u = true → (t.at k).id ≠ (t.at i).id ∧ ¬ ((t.at k).gr = (t.at i).gr ∧ (t.at i).gr ≠ 0) := by
        unfold good
        rw [if_pos c1]
      by_cases c2 : (t.at i).id < 1
      · rw [if_pos c2, rj2_succ, if_pos rfl]
        exact bad (fun g => by have := (gd.1 g).1; omega)
      rw [if_neg c2]
      by_cases c3 : (t.at i).id > t.la
      · rw [if_pos c3, rj2_succ, if_pos rfl]
        exact bad (fun g => by have := (gd.1 g).2.1; omega)
      rw [if_neg c3, rfits_at]
      simp only [Option.bind_some]
      rw [rj2_succ]
      by_cases c4 : fitsS (t.at i).pr (t.at i).gr (t.at i).lf = true
      · rw [if_neg (by rw [c4]; decide)]
        rcases rl1_at t i (by omega) (t.at i) _ (12 * d + 2) nxt i.toNat m 0 (by omega) (by omega) (by omega) (by omega) with ⟨e, g⟩ | ⟨e, q, g0, g1, g2, g3⟩
        · rw [e]
          congr 1
          rw [decide_eq_decide, both]
          exact ⟨fun h => ⟨gd.2 ⟨by omega, by omega, c4, g⟩, h⟩, fun h => h.2⟩
        · rw [e]
          refine bad (fun h => ?_)
          have := (gd.1 h).2.2.2 q g0 g1 g2
          rcases g3 with g3 | g3
          · exact this.1 g3
          · exact this.2 g3
      · rw [if_pos (by simpa using c4)]
        exact bad (fun g => c4 (gd.1 g).2.2.1)
    · rw [if_neg c1]
      by_cases c2 : (t.at i).nz = true
      · rw [if_pos c2, decide_eq_false]
        intro h
        have := (both.1 h).1
        unfold good at this
        rw [if_neg c1, ← C.nz_iff] at this
        rw [this] at c2
        cases c2
      · rw [if_neg c2, wrap_id (i + 1) (by omega) (by omega), nxt (m + 1) (by omega)]
        congr 1
        rw [decide_eq_decide, both]
        refine ⟨fun h => ⟨?_, h⟩, fun h => h.2⟩
        unfold good
        rw [if_neg c1, ← C.nz_iff]
        simpa using c2
def rV (k : Nat) (t : Tab) := periluneref23_Valid.f k t.c0.u t.c0.id t.c0.pr t.c0.gr t.c0.sl t.c0.lf t.c1.u t.c1.id t.c1.pr t.c1.gr t.c1.sl t.c1.lf t.c2.u t.c2.id t.c2.pr t.c2.gr t.c2.sl t.c2.lf t.c3.u t.c3.id t.c3.pr t.c3.gr t.c3.sl t.c3.lf t.c4.u t.c4.id t.c4.pr t.c4.gr t.c4.sl t.c4.lf t.c5.u t.c5.id t.c5.pr t.c5.gr t.c5.sl t.c5.lf t.c6.u t.c6.id t.c6.pr t.c6.gr t.c6.sl t.c6.lf t.la
theorem rV_def (k : Nat) (t : Tab) : rV (k + 1) t = if t.la < 0 then some false else (if (decide (t.la > 1073741824)) = true then some false else rl0 k 0 t) := by
  show (if t.la < 0 then _ else _) = _
  by_cases h : t.la < 0
  · rw [if_pos h, if_pos h]; rfl
  · rw [if_neg h, if_neg h]; rfl
open Classical in
theorem rV_at (t : Tab) (k : Nat) (hk : 100 ≤ k) : rV k t = some (decide (valid t)) := by
  obtain ⟨k, rfl⟩ : ∃ q, k = q + 1 := ⟨k - 1, by omega⟩
  rw [rV_def]
  by_cases h1 : t.la < 0
  · rw [if_pos h1, decide_eq_false (fun h => by have := h.1; omega)]
  rw [if_neg h1]
  by_cases h2 : t.la > 1073741824
  · rw [if_pos (by simpa using h2), decide_eq_false (fun h => by have := h.2.1; omega)]
  rw [if_neg (by simpa using h2), rl0_at t 7 k 0 (by omega) (by omega) (by omega) (by omega)]
  congr 1
  rw [decide_eq_decide]
  exact ⟨fun h => ⟨by omega, by omega, h⟩, fun h => h.2.2⟩
/-! ### the package's Valid -/
def jl0 (k : Nat) (i : Int) (t : Tab) (g : G) := jobs_Valid.l0 k i t.c0.u t.c0.id t.c0.pr t.c0.gr t.c0.sl t.c0.lf t.c1.u t.c1.id t.c1.pr t.c1.gr t.c1.sl t.c1.lf t.c2.u t.c2.id t.c2.pr t.c2.gr t.c2.sl t.c2.lf t.c3.u t.c3.id t.c3.pr t.c3.gr t.c3.sl t.c3.lf t.c4.u t.c4.id t.c4.pr t.c4.gr t.c4.sl t.c4.lf t.c5.u t.c5.id t.c5.pr t.c5.gr t.c5.sl t.c5.lf t.c6.u t.c6.id t.c6.pr t.c6.gr t.c6.sl t.c6.lf t.la g.g0 g.g1 g.g2 g.g3 g.g4 g.g5 g.g6 t.c0.u t.c0.id t.c0.pr t.c0.gr t.c0.sl t.c0.lf t.c1.u t.c1.id t.c1.pr t.c1.gr t.c1.sl t.c1.lf t.c2.u t.c2.id t.c2.pr t.c2.gr t.c2.sl t.c2.lf t.c3.u t.c3.id t.c3.pr t.c3.gr t.c3.sl t.c3.lf t.c4.u t.c4.id t.c4.pr t.c4.gr t.c4.sl t.c4.lf t.c5.u t.c5.id t.c5.pr t.c5.gr t.c5.sl t.c5.lf t.c6.u t.c6.id t.c6.pr t.c6.gr t.c6.sl t.c6.lf
def jj2 (k : Nat) (x4 i : Int) (b : Bool) (t : Tab) (g : G) (c : C) := jobs_Valid.j2 k x4 i b t.c0.u t.c0.id t.c0.pr t.c0.gr t.c0.sl t.c0.lf t.c1.u t.c1.id t.c1.pr t.c1.gr t.c1.sl t.c1.lf t.c2.u t.c2.id t.c2.pr t.c2.gr t.c2.sl t.c2.lf t.c3.u t.c3.id t.c3.pr t.c3.gr t.c3.sl t.c3.lf t.c4.u t.c4.id t.c4.pr t.c4.gr t.c4.sl t.c4.lf t.c5.u t.c5.id t.c5.pr t.c5.gr t.c5.sl t.c5.lf t.c6.u t.c6.id t.c6.pr t.c6.gr t.c6.sl t.c6.lf t.la g.g0 g.g1 g.g2 g.g3 g.g4 g.g5 g.g6 c.u c.id c.pr c.gr c.sl c.lf t.c0.u t.c0.id t.c0.pr t.c0.gr t.c0.sl t.c0.lf t.c1.u t.c1.id t.c1.pr t.c1.gr t.c1.sl t.c1.lf t.c2.u t.c2.id t.c2.pr t.c2.gr t.c2.sl t.c2.lf t.c3.u t.c3.id t.c3.pr t.c3.gr t.c3.sl t.c3.lf t.c4.u t.c4.id t.c4.pr t.c4.gr t.c4.sl t.c4.lf t.c5.u t.c5.id t.c5.pr t.c5.gr t.c5.sl t.c5.lf t.c6.u t.c6.id t.c6.pr t.c6.gr t.c6.sl t.c6.lf
def jj3 (k : Nat) (x4 i : Int) (b : Bool) (t : Tab) (g : G) (c : C) := jobs_Valid.j3 k x4 i b t.c0.u t.c0.id t.c0.pr t.c0.gr t.c0.sl t.c0.lf t.c1.u t.c1.id t.c1.pr t.c1.gr t.c1.sl t.c1.lf t.c2.u t.c2.id t.c2.pr t.c2.gr t.c2.sl t.c2.lf t.c3.u t.c3.id t.c3.pr t.c3.gr t.c3.sl t.c3.lf t.c4.u t.c4.id t.c4.pr t.c4.gr t.c4.sl t.c4.lf t.c5.u t.c5.id t.c5.pr t.c5.gr t.c5.sl t.c5.lf t.c6.u t.c6.id t.c6.pr t.c6.gr t.c6.sl t.c6.lf t.la g.g0 g.g1 g.g2 g.g3 g.g4 g.g5 g.g6 c.u c.id c.pr c.gr c.sl c.lf t.c0.u t.c0.id t.c0.pr t.c0.gr t.c0.sl t.c0.lf t.c1.u t.c1.id t.c1.pr t.c1.gr t.c1.sl t.c1.lf t.c2.u t.c2.id t.c2.pr t.c2.gr t.c2.sl t.c2.lf t.c3.u t.c3.id t.c3.pr t.c3.gr t.c3.sl t.c3.lf t.c4.u t.c4.id t.c4.pr t.c4.gr t.c4.sl t.c4.lf t.c5.u t.c5.id t.c5.pr t.c5.gr t.c5.sl t.c5.lf t.c6.u t.c6.id t.c6.pr t.c6.gr t.c6.sl t.c6.lf
def jl1 (k : Nat) (i n j : Int) (t : Tab) (g : G) (c : C) := jobs_Valid.l1 k i n j t.c0.u t.c0.id t.c0.pr t.c0.gr t.c0.sl t.c0.lf t.c1.u t.c1.id t.c1.pr t.c1.gr t.c1.sl t.c1.lf t.c2.u t.c2.id t.c2.pr t.c2.gr t.c2.sl t.c2.lf t.c3.u t.c3.id t.c3.pr t.c3.gr t.c3.sl t.c3.lf t.c4.u t.c4.id t.c4.pr t.c4.gr t.c4.sl t.c4.lf t.c5.u t.c5.id t.c5.pr t.c5.gr t.c5.sl t.c5.lf t.c6.u t.c6.id t.c6.pr t.c6.gr t.c6.sl t.c6.lf t.la g.g0 g.g1 g.g2 g.g3 g.g4 g.g5 g.g6 c.u c.id c.pr c.gr c.sl c.lf t.c0.u t.c0.id t.c0.pr t.c0.gr t.c0.sl t.c0.lf t.c1.u t.c1.id t.c1.pr t.c1.gr t.c1.sl t.c1.lf t.c2.u t.c2.id t.c2.pr t.c2.gr t.c2.sl t.c2.lf t.c3.u t.c3.id t.c3.pr t.c3.gr t.c3.sl t.c3.lf t.c4.u t.c4.id t.c4.pr t.c4.gr t.c4.sl t.c4.lf t.c5.u t.c5.id t.c5.pr t.c5.gr t.c5.sl t.c5.lf t.c6.u t.c6.id t.c6.pr t.c6.gr t.c6.sl t.c6.lf
theorem jl0_succ (k : Nat) (i : Int) (t : Tab) (g : G) : jl0 (k + 1) i t g = if i < 7 then (if 0 ≤ i then (if (t.at i).u = true then (if (t.at i).id < 1 then jj2 k i i true t g (t.at i) else (if (t.at i).id > t.la then jj2 k i i true t g (t.at i) else ((jobs_fits.f k (t.at i).pr (t.at i).gr (t.at i).lf).bind fun f => jj2 k i i (!f) t g (t.at i)))) else (if (t.at i).nz = true then some false else jl0 k (wrap64 (i + 1)) t g)) else none) else some true := rfl
theorem jj2_succ (k : Nat) (x4 i : Int) (b : Bool) (t : Tab) (g : G) (c : C) : jj2 (k + 1) x4 i b t g c = if b = true then some false else (if 0 ≤ c.gr then (if c.gr < 7 then (if c.gr = 0 then jj3 k x4 i false t (g.put c.gr (wrap64 (g.at c.gr + 1))) c else jj3 k x4 i (decide ((g.put c.gr (wrap64 (g.at c.gr + 1))).at c.gr > 1)) t (g.put c.gr (wrap64 (g.at c.gr + 1))) c) else none) else none) := rfl
theorem jj3_succ (k : Nat) (x4 i : Int) (b : Bool) (t : Tab) (g : G) (c : C) : jj3 (k + 1) x4 i b t g c = if b = true then some false else (if 0 ≤ x4 then (if x4 < 7 then jl1 k i x4 0 t g c else none) else none) := rfl
theorem jl1_succ (k : Nat) (i n j : Int) (t : Tab) (g : G) (c : C) : jl1 (k + 1) i n j t g c = if j < n then (if 0 ≤ n then (if n < 7 then (if 0 ≤ j then (if (t.at j).u = true then (if (t.at j).id = c.id then some false else jl1 k i n (wrap64 (j + 1)) t g c) else jl1 k i n (wrap64 (j + 1)) t g c) else none) else none) else none) else jl0 k (wrap64 (i + 1)) t g := rfl
theorem jl1_at (t : Tab) (g : G) (i : Int) (h1 : i < 7) (c : C) (r : Bool) (K : Nat) (hr : ∀ k, K ≤ k → jl0 k (i + 1) t g = some r) (d : Nat) : ∀ (k : Nat) (j : Int), 0 ≤ j → j ≤ i → i - j = d → K + d < k →
    (jl1 k i i j t g c = some r ∧ ∀ q, j ≤ q → q < i → (t.at q).u = true → (t.at q).id ≠ c.id) ∨ (jl1 k i i j t g c = some false ∧ ∃ q, j ≤ q ∧ q < i ∧ (t.at q).u = true ∧ (t.at q).id = c.id) := by
  induction d with
  | zero =>
    intro k j h0 h2 hd hk
    obtain ⟨k, rfl⟩ : ∃ q, k = q + 1 := ⟨k - 1, by omega⟩
    left
    rw [jl1_succ, if_neg (by omega), wrap_id (i + 1) (by omega) (by omega)]
    exact ⟨hr k (by omega), fun q g0 g1 => by omega⟩
  | succ d ih =>
    intro k j h0 h2 hd hk
    obtain ⟨k, rfl⟩ : ∃ q, k = q + 1 := ⟨k - 1, by omega⟩
    rw [jl1_succ, if_pos (by omega), if_pos (by omega), if_pos (by omega), if_pos h0, wrap_id (j + 1) (by omega) (by omega)]
    have step : (¬ ((t.at j).u = true) ∨ (t.at j).id ≠ c.id) → (jl1 k i i (j + 1) t g c = some r ∧ ∀ q, j ≤ q → q < i → (t.at q).u = true → (t.at q).id ≠ c.id) ∨ (jl1 k i i (j + 1) t g c = some false ∧ ∃ q, j ≤ q ∧ q < i ∧ (t.at q).u = true ∧ (t.at q).id = c.id) := by
      intro hs
      rcases ih k (j + 1) (by omega) (by omega) (by omega) (by omega) with ⟨e, g⟩ | ⟨e, q, g0, g1, g2⟩
      · left
        refine ⟨e, fun q g0 g1 g2 => ?_⟩
        by_cases e2 : q = j
        · subst e2
          rcases hs with hs | hs
          · exact absurd g2 hs
          · exact hs
        · exact g q (by omega) g1 g2
      · right
        exact ⟨e, q, by omega, g1, g2⟩
    by_cases c1 : (t.at j).u = true
    · rw [if_pos c1]
      by_cases c2 : (t.at j).id = c.id
      · rw [if_pos c2]
        right
        exact ⟨rfl, j, by omega, by omega, c1, c2⟩
      · rw [if_neg c2]
        exact step (.inr c2)
    · rw [if_neg c1]
      exact step (.inl c1)
/-- What the counters hold when the core sets below i have been seen. -/
def cnt (t : Tab) (i : Int) (g : G) : Prop := (0 ≤ g.at 0 ∧ g.at 0 ≤ i) ∧ ∀ q, 1 ≤ q → q < 7 → (g.at q = 0 ∧ (∀ k, 0 ≤ k → k < i → (t.at k).u = true → (t.at k).gr ≠ q) ∨ g.at q = 1 ∧ ∃ k, 0 ≤ k ∧ k < i ∧ (t.at k).u = true ∧ (t.at k).gr = q)
open Classical in
theorem jl0_at (t : Tab) (d : Nat) : ∀ (k : Nat) (i : Int) (g : G), 0 ≤ i → i ≤ 7 → 7 - i = d → 12 * d + 2 ≤ k → cnt t i g → jl0 k i t g = some (decide (∀ q, i ≤ q → q < 7 → good t q)) := by
  induction d with
  | zero =>
    intro k i g h0 h1 hd hk hg
    obtain ⟨k, rfl⟩ : ∃ q, k = q + 1 := ⟨k - 1, by omega⟩
    rw [jl0_succ, if_neg (by omega), decide_eq_true (fun q g0 g1 => by omega)]
  | succ d ih =>
    intro k i g h0 h1 hd hk hg
    obtain ⟨k, rfl⟩ : ∃ q, k = q + 1 := ⟨k - 1, by omega⟩
    obtain ⟨m, rfl⟩ : ∃ q, k = q + 1 := ⟨k - 1, by omega⟩
    obtain ⟨n, rfl⟩ : ∃ q, m = q + 1 := ⟨m - 1, by omega⟩
    have nxt : ∀ g', cnt t (i + 1) g' → ∀ k, 12 * d + 2 ≤ k → jl0 k (i + 1) t g' = some (decide (∀ q, i + 1 ≤ q → q < 7 → good t q)) := fun g' hg' k hk => ih k (i + 1) g' (by omega) (by omega) (by omega) hk hg'
    have both : (∀ q, i ≤ q → q < 7 → good t q) ↔ good t i ∧ ∀ q, i + 1 ≤ q → q < 7 → good t q := by
      constructor
      · intro h
        exact ⟨h i (by omega) (by omega), fun q g0 g1 => h q (by omega) g1⟩
      · intro h q g0 g1
        by_cases e : q = i
        · rw [e]; exact h.1
        · exact h.2 q (by omega) g1
    rw [jl0_succ, if_pos (by omega), if_pos h0]
    by_cases c1 : (t.at i).u = true
    · have bad : ¬ good t i → (some false : Option Bool) = some (decide (∀ q, i ≤ q → q < 7 → good t q)) := by
        intro h
        rw [decide_eq_false (fun g => h (both.1 g).1)]
      rw [if_pos c1]
      have gd : good t i ↔ 1 ≤ (t.at i).id ∧ (t.at i).id ≤ t.la ∧ fitsS (t.at i).pr (t.at i).gr (t.at i).lf = true ∧ ∀ k, 0 ≤ k → k < i → (t.at k).u = true → (t.at k).id ≠ (t.at i).id ∧ ¬ ((t.at k).gr = (t.at i).gr ∧ (t.at i).gr ≠ 0) := by
        unfold good
        rw [if_pos c1]
      by_cases c2 : (t.at i).id < 1
      · rw [if_pos c2, jj2_succ, if_pos rfl]
        exact bad (fun g => by have := (gd.1 g).1; omega)
      rw [if_neg c2]
      by_cases c3 : (t.at i).id > t.la
      · rw [if_pos c3, jj2_succ, if_pos rfl]
        exact bad (fun g => by have := (gd.1 g).2.1; omega)
      rw [if_neg c3, fits_at]
      simp only [Option.bind_some]
      rw [jj2_succ]
      by_cases c4 : fitsS (t.at i).pr (t.at i).gr (t.at i).lf = true
      · have hgr : 0 ≤ (t.at i).gr ∧ (t.at i).gr < 7 := by
          have h := c4
          unfold fitsS at h
          have := of_decide_eq_true h
          omega
        rw [if_neg (by rw [c4]; decide), if_pos hgr.1, if_pos hgr.2]
        obtain ⟨⟨z0, z1⟩, zq⟩ := hg
        have fin : ∀ g', cnt t (i + 1) g' → (∀ k, 0 ≤ k → k < i → (t.at k).u = true → ¬ ((t.at k).gr = (t.at i).gr ∧ (t.at i).gr ≠ 0)) → jj3 (n + 1) i i false t g' (t.at i) = some (decide (∀ q, i ≤ q → q < 7 → good t q)) := by
          intro g' hg' hn
          rw [jj3_succ, if_neg (by decide), if_pos h0, if_pos (by omega)]
          rcases jl1_at t g' i (by omega) (t.at i) _ (12 * d + 2) (nxt g' hg') i.toNat n 0 (by omega) (by omega) (by omega) (by omega) with ⟨e, g⟩ | ⟨e, q, g0, g1, g2, g3⟩
          · rw [e]
            congr 1
            rw [decide_eq_decide, both]
            exact ⟨fun h => ⟨gd.2 ⟨by omega, by omega, c4, fun q q0 q1 q2 => ⟨g q q0 q1 q2, hn q q0 q1 q2⟩⟩, h⟩, fun h => h.2⟩
          · rw [e]
            exact bad (fun h => ((gd.1 h).2.2.2 q g0 g1 g2).1 g3)
        have new : ∀ v, ((t.at i).gr = 0 → 0 ≤ v ∧ v ≤ i + 1) → ((t.at i).gr ≠ 0 → v = 1) → cnt t (i + 1) (g.put (t.at i).gr v) := by
          intro v v0 v1
          refine ⟨?_, fun q q0 q1 => ?_⟩
          · rw [G.at_put _ _ _ _ hgr.1 hgr.2 (by omega) (by omega)]
            by_cases e : (0 : Int) = (t.at i).gr
            · rw [if_pos e]; exact v0 e.symm
            · rw [if_neg e]; omega
          · rw [G.at_put _ _ _ _ hgr.1 hgr.2 (by omega) q1]
            by_cases e : q = (t.at i).gr
            · rw [if_pos e]
              right
              exact ⟨v1 (by omega), i, h0, by omega, c1, e.symm⟩
            · rw [if_neg e]
              rcases zq q q0 q1 with ⟨y0, y1⟩ | ⟨y0, k, y1, y2, y3, y4⟩
              · left
                refine ⟨y0, fun k k0 k1 k2 => ?_⟩
                by_cases e2 : k = i
                · rw [e2]; exact fun h => e h.symm
                · exact y1 k k0 (by omega) k2
              · right
                exact ⟨y0, k, y1, by omega, y3, y4⟩
        by_cases c5 : (t.at i).gr = 0
        · rw [if_pos c5]
          rw [c5] at new ⊢
          rw [wrap_id (g.at 0 + 1) (by omega) (by omega)]
          refine fin _ (new _ (fun _ => by omega) (fun h => absurd rfl h)) (fun k _ _ _ h => h.2 c5)
        · rw [if_neg c5]
          rcases zq (t.at i).gr (by omega) (by omega) with ⟨y0, y1⟩ | ⟨y0, k, y1, y2, y3, y4⟩
          · rw [y0, show wrap64 (0 + 1) = 1 from (by rw [show (0 : Int) + 1 = 1 from rfl]; exact wrap_id 1 (by omega) (by omega))]
            have hp : (g.put (t.at i).gr 1).at (t.at i).gr = 1 := by rw [G.at_put _ _ _ _ hgr.1 hgr.2 hgr.1 hgr.2, if_pos rfl]
            rw [hp, show decide ((1 : Int) > 1) = false from rfl]
            exact fin _ (new 1 (fun h => absurd h c5) (fun _ => rfl)) (fun k k0 k1 k2 h => y1 k k0 k1 k2 h.1)
          · rw [y0, show wrap64 (1 + 1) = 2 from (by rw [show (1 : Int) + 1 = 2 from rfl]; exact wrap_id 2 (by omega) (by omega))]
            have hp : (g.put (t.at i).gr 2).at (t.at i).gr = 2 := by rw [G.at_put _ _ _ _ hgr.1 hgr.2 hgr.1 hgr.2, if_pos rfl]
            rw [hp, show decide ((2 : Int) > 1) = true from rfl, jj3_succ, if_pos rfl]
            exact bad (fun h => ((gd.1 h).2.2.2 k y1 y2 y3).2 ⟨y4, c5⟩)
      · rw [if_pos (by simpa using c4)]
        exact bad (fun g => c4 (gd.1 g).2.2.1)
    · rw [if_neg c1]
      by_cases c2 : (t.at i).nz = true
      · rw [if_pos c2, decide_eq_false]
        intro h
        have := (both.1 h).1
        unfold good at this
        rw [if_neg c1, ← C.nz_iff] at this
        rw [this] at c2
        cases c2
      · have hg' : cnt t (i + 1) g := by
          obtain ⟨⟨z0, z1⟩, zq⟩ := hg
          refine ⟨by omega, fun q q0 q1 => ?_⟩
          rcases zq q q0 q1 with ⟨y0, y1⟩ | ⟨y0, k, y1, y2, y3, y4⟩
          · left
            refine ⟨y0, fun k k0 k1 k2 => ?_⟩
            by_cases e2 : k = i
            · rw [e2] at k2; exact absurd k2 c1
            · exact y1 k k0 (by omega) k2
          · right
            exact ⟨y0, k, y1, by omega, y3, y4⟩
        rw [if_neg c2, wrap_id (i + 1) (by omega) (by omega), nxt g hg' (n + 1 + 1) (by omega)]
        congr 1
        rw [decide_eq_decide, both]
        refine ⟨fun h => ⟨?_, h⟩, fun h => h.2⟩
        unfold good
        rw [if_neg c1, ← C.nz_iff]
        simpa using c2
def jV (k : Nat) (t : Tab) := jobs_Valid.f k t.c0.u t.c0.id t.c0.pr t.c0.gr t.c0.sl t.c0.lf t.c1.u t.c1.id t.c1.pr t.c1.gr t.c1.sl t.c1.lf t.c2.u t.c2.id t.c2.pr t.c2.gr t.c2.sl t.c2.lf t.c3.u t.c3.id t.c3.pr t.c3.gr t.c3.sl t.c3.lf t.c4.u t.c4.id t.c4.pr t.c4.gr t.c4.sl t.c4.lf t.c5.u t.c5.id t.c5.pr t.c5.gr t.c5.sl t.c5.lf t.c6.u t.c6.id t.c6.pr t.c6.gr t.c6.sl t.c6.lf t.la
def G0 : G := ⟨0, 0, 0, 0, 0, 0, 0⟩
theorem jV_def (k : Nat) (t : Tab) : jV (k + 1) t = if t.la < 0 then some false else (if (decide (t.la > 1073741824)) = true then some false else jl0 k 0 t G0) := by
  show (if t.la < 0 then _ else _) = _
  by_cases h : t.la < 0
  · rw [if_pos h, if_pos h]; rfl
  · rw [if_neg h, if_neg h]; rfl
open Classical in
theorem jV_at (t : Tab) (k : Nat) (hk : 100 ≤ k) : jV k t = some (decide (valid t)) := by
  obtain ⟨k, rfl⟩ : ∃ q, k = q + 1 := ⟨k - 1, by omega⟩
  rw [jV_def]
  by_cases h1 : t.la < 0
  · rw [if_pos h1, decide_eq_false (fun h => by have := h.1; omega)]
  rw [if_neg h1]
  by_cases h2 : t.la > 1073741824
  · rw [if_pos (by simpa using h2), decide_eq_false (fun h => by have := h.2.1; omega)]
  have hc : cnt t 0 G0 := by
    refine ⟨by decide, fun q q0 q1 => .inl ⟨?_, fun k k0 k1 => by omega⟩⟩
    obtain rfl | rfl | rfl | rfl | rfl | rfl : q = 1 ∨ q = 2 ∨ q = 3 ∨ q = 4 ∨ q = 5 ∨ q = 6 := by omega
    all_goals rfl
  rw [if_neg (by simpa using h2), jl0_at t 7 k 0 G0 (by omega) (by omega) (by omega) (by omega) hc]
  congr 1
  rw [decide_eq_decide]
  exact ⟨fun h => ⟨by omega, by omega, h⟩, fun h => h.2.2⟩
end Go.Proofs.Ytjenkcgjpdappaa.Plain
