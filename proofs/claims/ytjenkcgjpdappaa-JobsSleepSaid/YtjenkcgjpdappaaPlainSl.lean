/- Plain facts on what Sleep, Wake and SetPriority of package jobs and of its reference answer; the law JobsSleep. No condition. -/
import Derived.Test.YtjenkcgjpdappaaPlainF
import Derived.Test.YtjenkcgjpdappaaPx23
set_option linter.unusedVariables false
namespace Go.Proofs.Ytjenkcgjpdappaa.Plain
open Go.RowKit Go.Proofs.Ytjenkcgjpdappaa.P Go.Proofs.YtjenkcgjpdappaaW.PrintWords Go.Proofs.YtjenkcgjpdappaaW.PrintLast
def T0 : Tab := ⟨C0, C0, C0, C0, C0, C0, C0, 0⟩
def rtE (t : Tab) (e : Int) : Bool × Int × Int × Int × Bool × Int × Bool × Int × Int × Int × Bool × Int × Bool × Int × Int × Int × Bool × Int × Bool × Int × Int × Int × Bool × Int × Bool × Int × Int × Int × Bool × Int × Bool × Int × Int × Int × Bool × Int × Bool × Int × Int × Int × Bool × Int × Int × Int := (t.c0.u, t.c0.id, t.c0.pr, t.c0.gr, t.c0.sl, t.c0.lf, t.c1.u, t.c1.id, t.c1.pr, t.c1.gr, t.c1.sl, t.c1.lf, t.c2.u, t.c2.id, t.c2.pr, t.c2.gr, t.c2.sl, t.c2.lf, t.c3.u, t.c3.id, t.c3.pr, t.c3.gr, t.c3.sl, t.c3.lf, t.c4.u, t.c4.id, t.c4.pr, t.c4.gr, t.c4.sl, t.c4.lf, t.c5.u, t.c5.id, t.c5.pr, t.c5.gr, t.c5.sl, t.c5.lf, t.c6.u, t.c6.id, t.c6.pr, t.c6.gr, t.c6.sl, t.c6.lf, t.la, e)
def Tab.set_sl (t : Tab) (i : Int) (v : Bool) : Tab := ⟨{ t.c0 with sl := pt 0 i v t.c0.sl }, { t.c1 with sl := pt 1 i v t.c1.sl }, { t.c2 with sl := pt 2 i v t.c2.sl }, { t.c3 with sl := pt 3 i v t.c3.sl }, { t.c4 with sl := pt 4 i v t.c4.sl }, { t.c5 with sl := pt 5 i v t.c5.sl }, { t.c6 with sl := pt 6 i v t.c6.sl }, t.la⟩
def Tab.set_pr (t : Tab) (i : Int) (v : Int) : Tab := ⟨{ t.c0 with pr := pt 0 i v t.c0.pr }, { t.c1 with pr := pt 1 i v t.c1.pr }, { t.c2 with pr := pt 2 i v t.c2.pr }, { t.c3 with pr := pt 3 i v t.c3.pr }, { t.c4 with pr := pt 4 i v t.c4.pr }, { t.c5 with pr := pt 5 i v t.c5.pr }, { t.c6 with pr := pt 6 i v t.c6.pr }, t.la⟩
def as0 (k : Nat) (b : Bool) (i e : Int) (c : Bool) (t : Tab) := jobs_asleep.j0 k b i e c t.c0.u t.c0.id t.c0.pr t.c0.gr t.c0.sl t.c0.lf t.c1.u t.c1.id t.c1.pr t.c1.gr t.c1.sl t.c1.lf t.c2.u t.c2.id t.c2.pr t.c2.gr t.c2.sl t.c2.lf t.c3.u t.c3.id t.c3.pr t.c3.gr t.c3.sl t.c3.lf t.c4.u t.c4.id t.c4.pr t.c4.gr t.c4.sl t.c4.lf t.c5.u t.c5.id t.c5.pr t.c5.gr t.c5.sl t.c5.lf t.c6.u t.c6.id t.c6.pr t.c6.gr t.c6.sl t.c6.lf t.la
def asl (k : Nat) (t : Tab) (x : Int) (b : Bool) := jobs_asleep.f k t.c0.u t.c0.id t.c0.pr t.c0.gr t.c0.sl t.c0.lf t.c1.u t.c1.id t.c1.pr t.c1.gr t.c1.sl t.c1.lf t.c2.u t.c2.id t.c2.pr t.c2.gr t.c2.sl t.c2.lf t.c3.u t.c3.id t.c3.pr t.c3.gr t.c3.sl t.c3.lf t.c4.u t.c4.id t.c4.pr t.c4.gr t.c4.sl t.c4.lf t.c5.u t.c5.id t.c5.pr t.c5.gr t.c5.sl t.c5.lf t.c6.u t.c6.id t.c6.pr t.c6.gr t.c6.sl t.c6.lf t.la x b
def rsl (k : Nat) (t : Tab) (x : Int) (b : Bool) := periluneref23_sleeps.f k t.c0.u t.c0.id t.c0.pr t.c0.gr t.c0.sl t.c0.lf t.c1.u t.c1.id t.c1.pr t.c1.gr t.c1.sl t.c1.lf t.c2.u t.c2.id t.c2.pr t.c2.gr t.c2.sl t.c2.lf t.c3.u t.c3.id t.c3.pr t.c3.gr t.c3.sl t.c3.lf t.c4.u t.c4.id t.c4.pr t.c4.gr t.c4.sl t.c4.lf t.c5.u t.c5.id t.c5.pr t.c5.gr t.c5.sl t.c5.lf t.c6.u t.c6.id t.c6.pr t.c6.gr t.c6.sl t.c6.lf t.la x b
def jS (k : Nat) (t : Tab) (x : Int) := jobs_Sleep.f k t.c0.u t.c0.id t.c0.pr t.c0.gr t.c0.sl t.c0.lf t.c1.u t.c1.id t.c1.pr t.c1.gr t.c1.sl t.c1.lf t.c2.u t.c2.id t.c2.pr t.c2.gr t.c2.sl t.c2.lf t.c3.u t.c3.id t.c3.pr t.c3.gr t.c3.sl t.c3.lf t.c4.u t.c4.id t.c4.pr t.c4.gr t.c4.sl t.c4.lf t.c5.u t.c5.id t.c5.pr t.c5.gr t.c5.sl t.c5.lf t.c6.u t.c6.id t.c6.pr t.c6.gr t.c6.sl t.c6.lf t.la x
def rS (k : Nat) (t : Tab) (x : Int) := periluneref23_Sleep.f k t.c0.u t.c0.id t.c0.pr t.c0.gr t.c0.sl t.c0.lf t.c1.u t.c1.id t.c1.pr t.c1.gr t.c1.sl t.c1.lf t.c2.u t.c2.id t.c2.pr t.c2.gr t.c2.sl t.c2.lf t.c3.u t.c3.id t.c3.pr t.c3.gr t.c3.sl t.c3.lf t.c4.u t.c4.id t.c4.pr t.c4.gr t.c4.sl t.c4.lf t.c5.u t.c5.id t.c5.pr t.c5.gr t.c5.sl t.c5.lf t.c6.u t.c6.id t.c6.pr t.c6.gr t.c6.sl t.c6.lf t.la x
def jW (k : Nat) (t : Tab) (x : Int) := jobs_Wake.f k t.c0.u t.c0.id t.c0.pr t.c0.gr t.c0.sl t.c0.lf t.c1.u t.c1.id t.c1.pr t.c1.gr t.c1.sl t.c1.lf t.c2.u t.c2.id t.c2.pr t.c2.gr t.c2.sl t.c2.lf t.c3.u t.c3.id t.c3.pr t.c3.gr t.c3.sl t.c3.lf t.c4.u t.c4.id t.c4.pr t.c4.gr t.c4.sl t.c4.lf t.c5.u t.c5.id t.c5.pr t.c5.gr t.c5.sl t.c5.lf t.c6.u t.c6.id t.c6.pr t.c6.gr t.c6.sl t.c6.lf t.la x
def rW (k : Nat) (t : Tab) (x : Int) := periluneref23_Wake.f k t.c0.u t.c0.id t.c0.pr t.c0.gr t.c0.sl t.c0.lf t.c1.u t.c1.id t.c1.pr t.c1.gr t.c1.sl t.c1.lf t.c2.u t.c2.id t.c2.pr t.c2.gr t.c2.sl t.c2.lf t.c3.u t.c3.id t.c3.pr t.c3.gr t.c3.sl t.c3.lf t.c4.u t.c4.id t.c4.pr t.c4.gr t.c4.sl t.c4.lf t.c5.u t.c5.id t.c5.pr t.c5.gr t.c5.sl t.c5.lf t.c6.u t.c6.id t.c6.pr t.c6.gr t.c6.sl t.c6.lf t.la x
def sp0 (k : Nat) (x p : Int) (c : Bool) (t : Tab) := jobs_SetPriority.j0 k x p c t.c0.u t.c0.id t.c0.pr t.c0.gr t.c0.sl t.c0.lf t.c1.u t.c1.id t.c1.pr t.c1.gr t.c1.sl t.c1.lf t.c2.u t.c2.id t.c2.pr t.c2.gr t.c2.sl t.c2.lf t.c3.u t.c3.id t.c3.pr t.c3.gr t.c3.sl t.c3.lf t.c4.u t.c4.id t.c4.pr t.c4.gr t.c4.sl t.c4.lf t.c5.u t.c5.id t.c5.pr t.c5.gr t.c5.sl t.c5.lf t.c6.u t.c6.id t.c6.pr t.c6.gr t.c6.sl t.c6.lf t.la
def rsp0 (k : Nat) (x p : Int) (c : Bool) (t : Tab) := periluneref23_SetPriority.j0 k x p c t.c0.u t.c0.id t.c0.pr t.c0.gr t.c0.sl t.c0.lf t.c1.u t.c1.id t.c1.pr t.c1.gr t.c1.sl t.c1.lf t.c2.u t.c2.id t.c2.pr t.c2.gr t.c2.sl t.c2.lf t.c3.u t.c3.id t.c3.pr t.c3.gr t.c3.sl t.c3.lf t.c4.u t.c4.id t.c4.pr t.c4.gr t.c4.sl t.c4.lf t.c5.u t.c5.id t.c5.pr t.c5.gr t.c5.sl t.c5.lf t.c6.u t.c6.id t.c6.pr t.c6.gr t.c6.sl t.c6.lf t.la
def jP (k : Nat) (t : Tab) (x p : Int) := jobs_SetPriority.f k t.c0.u t.c0.id t.c0.pr t.c0.gr t.c0.sl t.c0.lf t.c1.u t.c1.id t.c1.pr t.c1.gr t.c1.sl t.c1.lf t.c2.u t.c2.id t.c2.pr t.c2.gr t.c2.sl t.c2.lf t.c3.u t.c3.id t.c3.pr t.c3.gr t.c3.sl t.c3.lf t.c4.u t.c4.id t.c4.pr t.c4.gr t.c4.sl t.c4.lf t.c5.u t.c5.id t.c5.pr t.c5.gr t.c5.sl t.c5.lf t.c6.u t.c6.id t.c6.pr t.c6.gr t.c6.sl t.c6.lf t.la x p
def rP (k : Nat) (t : Tab) (x p : Int) := periluneref23_SetPriority.f k t.c0.u t.c0.id t.c0.pr t.c0.gr t.c0.sl t.c0.lf t.c1.u t.c1.id t.c1.pr t.c1.gr t.c1.sl t.c1.lf t.c2.u t.c2.id t.c2.pr t.c2.gr t.c2.sl t.c2.lf t.c3.u t.c3.id t.c3.pr t.c3.gr t.c3.sl t.c3.lf t.c4.u t.c4.id t.c4.pr t.c4.gr t.c4.sl t.c4.lf t.c5.u t.c5.id t.c5.pr t.c5.gr t.c5.sl t.c5.lf t.c6.u t.c6.id t.c6.pr t.c6.gr t.c6.sl t.c6.lf t.la x p
def lawSleep (k : Nat) (t : Tab) (x p : Int) := perilunelaw23_JobsSleep.f k t.c0.u t.c0.id t.c0.pr t.c0.gr t.c0.sl t.c0.lf t.c1.u t.c1.id t.c1.pr t.c1.gr t.c1.sl t.c1.lf t.c2.u t.c2.id t.c2.pr t.c2.gr t.c2.sl t.c2.lf t.c3.u t.c3.id t.c3.pr t.c3.gr t.c3.sl t.c3.lf t.c4.u t.c4.id t.c4.pr t.c4.gr t.c4.sl t.c4.lf t.c5.u t.c5.id t.c5.pr t.c5.gr t.c5.sl t.c5.lf t.c6.u t.c6.id t.c6.pr t.c6.gr t.c6.sl t.c6.lf t.la x p
theorem as0_true (k : Nat) (b : Bool) (i e : Int) (t : Tab) : as0 (k + 1) b i e true t = some (rtE T0 14) := rfl
theorem as0_false (k : Nat) (b : Bool) (i e : Int) (t : Tab) : as0 (k + 1) b i e false t = if e = 0 then (if 0 ≤ i then (if i < 7 then some (rtE (t.set_sl i b) 0) else none) else none) else some (rtE T0 e) := rfl
theorem asl_def (k : Nat) (t : Tab) (x : Int) (b : Bool) : asl k t x b = (jf k t x).bind fun r => if r.2 = 0 then (if 0 ≤ r.1 then (if r.1 < 7 then as0 k b r.1 r.2 ((t.at r.1).sl == b) t else none) else none) else as0 k b r.1 r.2 false t := rfl
theorem rsl_def (k : Nat) (t : Tab) (x : Int) (b : Bool) : rsl k t x b = (rV k t).bind fun v => if v = true then ((rs k t x).bind fun i => if i < 0 then some (rtE T0 7) else (if 0 ≤ i then (if i < 7 then (if ((t.at i).sl == b) = true then some (rtE T0 14) else some (rtE (t.set_sl i b) 0)) else none) else none)) else some (rtE T0 2) := rfl
open Classical in
noncomputable def slS (t : Tab) (x : Int) (b : Bool) := if valid t then (if 0 ≤ idx t x then (if ((t.at (idx t x)).sl == b) = true then rtE T0 14 else rtE (t.set_sl (idx t x) b) 0) else rtE T0 7) else rtE T0 2
theorem asl_at (t : Tab) (x : Int) (b : Bool) (k : Nat) (hk : 101 ≤ k) : asl k t x b = some (slS t x b) := by
  obtain ⟨k, rfl⟩ : ∃ q, k = q + 1 := ⟨k - 1, by omega⟩
  rw [asl_def, jf_at t x (k + 1) (by omega)]
  unfold slS
  simp only [Option.bind_some]
  by_cases hv : valid t
  · rw [if_pos hv, if_pos hv]
    by_cases hi : 0 ≤ idx t x
    · have := idx_range t x
      rw [if_pos hi, if_pos hi, if_pos rfl, if_pos hi, if_pos (by omega)]
      by_cases c : ((t.at (idx t x)).sl == b) = true
      · rw [if_pos c, c, as0_true]
      · rw [if_neg c, Bool.eq_false_iff.mpr c, as0_false, if_pos rfl, if_pos hi, if_pos (by omega)]
    · rw [if_neg hi, if_neg hi, if_neg (by decide), as0_false, if_neg (by decide)]
  · rw [if_neg hv, if_neg hv, if_neg (by decide), as0_false, if_neg (by decide)]
theorem rsl_at (t : Tab) (x : Int) (b : Bool) (k : Nat) (hk : 101 ≤ k) : rsl k t x b = some (slS t x b) := by
  rw [rsl_def, rV_at t k (by omega), rs_at t x k (by omega)]
  unfold slS
  simp only [Option.bind_some]
  by_cases hv : valid t
  · rw [if_pos (by simpa using hv), if_pos hv]
    by_cases hi : 0 ≤ idx t x
    · have := idx_range t x
      rw [if_neg (by omega), if_pos hi, if_pos hi, if_pos (by omega)]
      by_cases c : ((t.at (idx t x)).sl == b) = true
      · rw [if_pos c, if_pos c]
      · rw [if_neg c, if_neg c]
    · rw [if_pos (by omega), if_neg hi]
  · rw [if_neg (by simpa using hv), if_neg hv]
theorem jS_def (k : Nat) (t : Tab) (x : Int) : jS k t x = (asl k t x true).bind fun r => some r := rfl
theorem rS_def (k : Nat) (t : Tab) (x : Int) : rS k t x = (rsl k t x true).bind fun r => some r := rfl
theorem jW_def (k : Nat) (t : Tab) (x : Int) : jW k t x = (asl k t x false).bind fun r => some r := rfl
theorem rW_def (k : Nat) (t : Tab) (x : Int) : rW k t x = (rsl k t x false).bind fun r => some r := rfl
theorem sp0_succ (k : Nat) (x p : Int) (c : Bool) (t : Tab) : sp0 (k + 1) x p c t = if c = true then some (rtE T0 2) else ((jf k t x).bind fun r => if r.2 = 0 then (if 0 ≤ r.1 then (if r.1 < 7 then some (rtE (t.set_pr r.1 p) 0) else none) else none) else some (rtE T0 r.2)) := rfl
theorem rsp0_succ (k : Nat) (x p : Int) (c : Bool) (t : Tab) : rsp0 (k + 1) x p c t = if c = true then some (rtE T0 2) else ((rs k t x).bind fun i => if i < 0 then some (rtE T0 7) else (if 0 ≤ i then (if i < 7 then some (rtE (t.set_pr i p) 0) else none) else none)) := rfl
theorem jP_def (k : Nat) (t : Tab) (x p : Int) : jP k t x p = if p < 1 then sp0 k x p true t else sp0 k x p (decide (p > 63)) t := rfl
theorem rP_def (k : Nat) (t : Tab) (x p : Int) : rP k t x p = (rV k t).bind fun v => if v = true then (if p < 1 then rsp0 k x p true t else rsp0 k x p (decide (p > 63)) t) else rsp0 k x p true t := rfl
open Classical in
noncomputable def prS (t : Tab) (x p : Int) := if p < 1 ∨ 63 < p then rtE T0 2 else (if valid t then (if 0 ≤ idx t x then rtE (t.set_pr (idx t x) p) 0 else rtE T0 7) else rtE T0 2)
theorem jP_at (t : Tab) (x p : Int) (k : Nat) (hk : 101 ≤ k) : jP k t x p = some (prS t x p) := by
  obtain ⟨k, rfl⟩ : ∃ q, k = q + 1 := ⟨k - 1, by omega⟩
  rw [jP_def]
  unfold prS
  by_cases h1 : p < 1
  · rw [if_pos h1, if_pos (.inl h1), sp0_succ, if_pos rfl]
  · rw [if_neg h1, sp0_succ]
    by_cases h2 : p > 63
    · rw [if_pos (by simpa using h2), if_pos (.inr h2)]
    · rw [if_neg (by simpa using h2), if_neg (by omega), jf_at t x k (by omega)]
      simp only [Option.bind_some]
      by_cases hv : valid t
      · rw [if_pos hv, if_pos hv]
        by_cases hi : 0 ≤ idx t x
        · have := idx_range t x
          rw [if_pos hi, if_pos hi, if_pos rfl, if_pos hi, if_pos (by omega)]
        · rw [if_neg hi, if_neg hi, if_neg (by decide)]
      · rw [if_neg hv, if_neg hv, if_neg (by decide)]
theorem rP_at (t : Tab) (x p : Int) (k : Nat) (hk : 101 ≤ k) : rP k t x p = some (prS t x p) := by
  obtain ⟨k, rfl⟩ : ∃ q, k = q + 1 := ⟨k - 1, by omega⟩
  rw [rP_def, rV_at t (k + 1) (by omega)]
  unfold prS
  simp only [Option.bind_some]
  by_cases hv : valid t
  · rw [if_pos (by simpa using hv), if_pos hv]
    by_cases h1 : p < 1
    · rw [if_pos h1, if_pos (.inl h1), rsp0_succ, if_pos rfl]
    · rw [if_neg h1, rsp0_succ]
      by_cases h2 : p > 63
      · rw [if_pos (by simpa using h2), if_pos (.inr h2)]
      · rw [if_neg (by simpa using h2), if_neg (by omega), rs_at t x k (by omega)]
        simp only [Option.bind_some]
        by_cases hi : 0 ≤ idx t x
        · have := idx_range t x
          rw [if_neg (by omega), if_pos hi, if_pos hi, if_pos (by omega)]
        · rw [if_pos (by omega), if_neg hi]
  · rw [if_neg (by simpa using hv), if_neg hv, rsp0_succ, if_pos rfl]
    split <;> rfl
set_option maxHeartbeats 8000000 in
theorem JobsSleep_pure (t : Tab) (x p : Int) : lawSleep 1000 t x p = some true := by
  have h1 : jS 1000 t x = some (slS t x true) := by rw [jS_def, asl_at t x true 1000 (by omega)]; rfl
  have h2 : rS 1000 t x = some (slS t x true) := by rw [rS_def, rsl_at t x true 1000 (by omega)]; rfl
  have h3 : jW 1000 t x = some (slS t x false) := by rw [jW_def, asl_at t x false 1000 (by omega)]; rfl
  have h4 : rW 1000 t x = some (slS t x false) := by rw [rW_def, rsl_at t x false 1000 (by omega)]; rfl
  have h5 := jP_at t x p 1000 (by omega)
  have h6 := rP_at t x p 1000 (by omega)
  have h7 := live_at 1000 (by omega)
  unfold jS at h1
  unfold rS at h2
  unfold jW at h3
  unfold rW at h4
  unfold jP at h5
  unfold rP at h6
  generalize slS t x true = r1 at h1 h2
  generalize slS t x false = r2 at h3 h4
  generalize prS t x p = r3 at h5 h6
  unfold lawSleep perilunelaw23_JobsSleep.f
  rw [h1, h2, h3, h4, h5, h6]
  simp only [beq_self_eq_true, Bool.and_self, Option.bind_some, if_true, h7]
end Go.Proofs.Ytjenkcgjpdappaa.Plain
