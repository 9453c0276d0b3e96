/- Plain facts: which core set a job has, as the package and its reference find it. No condition. -/
import Derived.Test.YtjenkcgjpdappaaPlainJ
import Derived.Test.YtjenkcgjpdappaaPx6
import Derived.Test.YtjenkcgjpdappaaPx9
import Derived.Test.YtjenkcgjpdappaaPx13
set_option linter.unusedVariables false
namespace Go.Proofs.Ytjenkcgjpdappaa.Plain
open Go.RowKit Go.Proofs.Ytjenkcgjpdappaa.P Go.Proofs.YtjenkcgjpdappaaW.PrintWords Go.Proofs.YtjenkcgjpdappaaW.PrintLast
theorem live_at (k : Nat) (hk : 60 ≤ k) : perilunelaw23_live.f k = some true := at_rounds (g := fun k => perilunelaw23_live.f k) (fun k => perilunelaw23_live.mono k) hk (by decide +kernel)
/-! ### find -/
def idxF (t : Tab) (x : Int) : Nat → Int → Int
  | 0, _ => -1
  | d + 1, i => if (t.at i).u = true ∧ (t.at i).id = x then i else idxF t x d (i + 1)
/-- The core set of a job, or -1. -/
def idx (t : Tab) (x : Int) : Int := idxF t x 7 0
theorem idxF_range (t : Tab) (x : Int) (d : Nat) : ∀ i : Int, 0 ≤ i → i + (d : Int) = 7 → idxF t x d i = -1 ∨ (i ≤ idxF t x d i ∧ idxF t x d i < 7) := by
  induction d with
  | zero => intro i h0 h1; exact .inl rfl
  | succ d ih =>
    intro i h0 h1
    unfold idxF
    by_cases c : (t.at i).u = true ∧ (t.at i).id = x
    · rw [if_pos c]; omega
    · rw [if_neg c]
      rcases ih (i + 1) (by omega) (by omega) with h | h
      · exact .inl h
      · right; omega
theorem idx_range (t : Tab) (x : Int) : idx t x = -1 ∨ (0 ≤ idx t x ∧ idx t x < 7) := idxF_range t x 7 0 (by omega) (by omega)
theorem idxF_is (t : Tab) (x : Int) (d : Nat) : ∀ i : Int, 0 ≤ i → 0 ≤ idxF t x d i → (t.at (idxF t x d i)).u = true ∧ (t.at (idxF t x d i)).id = x := by
  induction d with
  | zero => intro i h0 h1; unfold idxF at h1; omega
  | succ d ih =>
    intro i h0 h1
    unfold idxF at h1 ⊢
    by_cases c : (t.at i).u = true ∧ (t.at i).id = x
    · rw [if_pos c]; exact c
    · rw [if_neg c] at h1 ⊢
      exact ih (i + 1) (by omega) h1
theorem idx_is (t : Tab) (x : Int) (h : 0 ≤ idx t x) : (t.at (idx t x)).u = true ∧ (t.at (idx t x)).id = x := idxF_is t x 7 0 (by omega) h
def jf0 (k : Nat) (x i : Int) (t : Tab) := jobs_find.l0 k x i t.c0.u t.c0.id t.c0.pr t.c0.gr t.c0.sl t.c0.lf t.c1.u t.c1.id t.c1.pr t.c1.gr t.c1.sl t.c1.lf t.c2.u t.c2.id t.c2.pr t.c2.gr t.c2.sl t.c2.lf t.c3.u t.c3.id t.c3.pr t.c3.gr t.c3.sl t.c3.lf t.c4.u t.c4.id t.c4.pr t.c4.gr t.c4.sl t.c4.lf t.c5.u t.c5.id t.c5.pr t.c5.gr t.c5.sl t.c5.lf t.c6.u t.c6.id t.c6.pr t.c6.gr t.c6.sl t.c6.lf
def jf (k : Nat) (t : Tab) (x : Int) := jobs_find.f k t.c0.u t.c0.id t.c0.pr t.c0.gr t.c0.sl t.c0.lf t.c1.u t.c1.id t.c1.pr t.c1.gr t.c1.sl t.c1.lf t.c2.u t.c2.id t.c2.pr t.c2.gr t.c2.sl t.c2.lf t.c3.u t.c3.id t.c3.pr t.c3.gr t.c3.sl t.c3.lf t.c4.u t.c4.id t.c4.pr t.c4.gr t.c4.sl t.c4.lf t.c5.u t.c5.id t.c5.pr t.c5.gr t.c5.sl t.c5.lf t.c6.u t.c6.id t.c6.pr t.c6.gr t.c6.sl t.c6.lf t.la x
def rs0 (k : Nat) (x i : Int) (t : Tab) := periluneref23_set.l0 k x i t.c0.u t.c0.id t.c0.pr t.c0.gr t.c0.sl t.c0.lf t.c1.u t.c1.id t.c1.pr t.c1.gr t.c1.sl t.c1.lf t.c2.u t.c2.id t.c2.pr t.c2.gr t.c2.sl t.c2.lf t.c3.u t.c3.id t.c3.pr t.c3.gr t.c3.sl t.c3.lf t.c4.u t.c4.id t.c4.pr t.c4.gr t.c4.sl t.c4.lf t.c5.u t.c5.id t.c5.pr t.c5.gr t.c5.sl t.c5.lf t.c6.u t.c6.id t.c6.pr t.c6.gr t.c6.sl t.c6.lf t.la
def rs (k : Nat) (t : Tab) (x : Int) := periluneref23_set.f k t.c0.u t.c0.id t.c0.pr t.c0.gr t.c0.sl t.c0.lf t.c1.u t.c1.id t.c1.pr t.c1.gr t.c1.sl t.c1.lf t.c2.u t.c2.id t.c2.pr t.c2.gr t.c2.sl t.c2.lf t.c3.u t.c3.id t.c3.pr t.c3.gr t.c3.sl t.c3.lf t.c4.u t.c4.id t.c4.pr t.c4.gr t.c4.sl t.c4.lf t.c5.u t.c5.id t.c5.pr t.c5.gr t.c5.sl t.c5.lf t.c6.u t.c6.id t.c6.pr t.c6.gr t.c6.sl t.c6.lf t.la x
theorem jf0_succ (k : Nat) (x i : Int) (t : Tab) : jf0 (k + 1) x i t = if i < 7 then (if 0 ≤ i then (if (t.at i).u = true then (if (t.at i).id = x then some (i, 0) else jf0 k x (wrap64 (i + 1)) t) else jf0 k x (wrap64 (i + 1)) t) else none) else some (0, 7) := rfl
theorem rs0_succ (k : Nat) (x i : Int) (t : Tab) : rs0 (k + 1) x i t = if i < 7 then (if 0 ≤ i then (if (t.at i).u = true then (if (t.at i).id = x then some i else rs0 k x (wrap64 (i + 1)) t) else rs0 k x (wrap64 (i + 1)) t) else none) else some (-1) := rfl
theorem jf0_at (t : Tab) (x : Int) (d : Nat) : ∀ (k : Nat) (i : Int), 0 ≤ i → i ≤ 7 → 7 - i = d → d < k → jf0 k x i t = some (if 0 ≤ idxF t x d i then (idxF t x d i, 0) else (0, 7)) := by
  induction d with
  | zero =>
    intro k i h0 h1 hd hk
    obtain ⟨k, rfl⟩ : ∃ q, k = q + 1 := ⟨k - 1, by omega⟩
    rw [jf0_succ, if_neg (by omega)]
    rfl
  | succ d ih =>
    intro k i h0 h1 hd hk
    obtain ⟨k, rfl⟩ : ∃ q, k = q + 1 := ⟨k - 1, by omega⟩
    rw [jf0_succ, if_pos (by omega), if_pos h0, wrap_id (i + 1) (by omega) (by omega)]
    by_cases c1 : (t.at i).u = true
    · rw [if_pos c1]
      by_cases c2 : (t.at i).id = x
      · rw [if_pos c2, show idxF t x (d + 1) i = i from by rw [idxF, if_pos ⟨c1, c2⟩], if_pos h0]
      · rw [if_neg c2, show idxF t x (d + 1) i = idxF t x d (i + 1) from by rw [idxF, if_neg (fun h => c2 h.2)]]
        exact ih k (i + 1) (by omega) (by omega) (by omega) (by omega)
    · rw [if_neg c1, show idxF t x (d + 1) i = idxF t x d (i + 1) from by rw [idxF, if_neg (fun h => c1 h.1)]]
      exact ih k (i + 1) (by omega) (by omega) (by omega) (by omega)
theorem rs0_at (t : Tab) (x : Int) (d : Nat) : ∀ (k : Nat) (i : Int), 0 ≤ i → i ≤ 7 → 7 - i = d → d < k → rs0 k x i t = some (idxF t x d i) := by
  induction d with
  | zero =>
    intro k i h0 h1 hd hk
    obtain ⟨k, rfl⟩ : ∃ q, k = q + 1 := ⟨k - 1, by omega⟩
    rw [rs0_succ, if_neg (by omega)]
    rfl
  | succ d ih =>
    intro k i h0 h1 hd hk
    obtain ⟨k, rfl⟩ : ∃ q, k = q + 1 := ⟨k - 1, by omega⟩
    rw [rs0_succ, if_pos (by omega), if_pos h0, wrap_id (i + 1) (by omega) (by omega), idxF]
    by_cases c1 : (t.at i).u = true
    · rw [if_pos c1]
      by_cases c2 : (t.at i).id = x
      · rw [if_pos c2, if_pos ⟨c1, c2⟩]
      · rw [if_neg c2, if_neg (fun h => c2 h.2)]
        exact ih k (i + 1) (by omega) (by omega) (by omega) (by omega)
    · rw [if_neg c1, if_neg (fun h => c1 h.1)]
      exact ih k (i + 1) (by omega) (by omega) (by omega) (by omega)
theorem jf_def (k : Nat) (t : Tab) (x : Int) : jf k t x = (jV k t).bind fun v => if v = true then jf0 k x 0 t else some (0, 2) := rfl
open Classical in
theorem jf_at (t : Tab) (x : Int) (k : Nat) (hk : 100 ≤ k) : jf k t x = some (if valid t then (if 0 ≤ idx t x then (idx t x, 0) else (0, 7)) else (0, 2)) := by
  rw [jf_def, jV_at t k hk]
  simp only [Option.bind_some]
  by_cases hv : valid t
  · rw [if_pos (decide_eq_true hv), if_pos hv]
    exact jf0_at t x 7 k 0 (by omega) (by omega) (by omega) (by omega)
  · rw [if_neg (by simpa using hv), if_neg hv]
theorem rs_at (t : Tab) (x : Int) (k : Nat) (hk : 100 ≤ k) : rs k t x = some (idx t x) := rs0_at t x 7 k 0 (by omega) (by omega) (by omega) (by omega)
end Go.Proofs.Ytjenkcgjpdappaa.Plain
