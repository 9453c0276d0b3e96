/- Plain facts on one call of a script: which table, which id and which error it answers. No condition. -/
import Derived.Test.YtjenkcgjpdappaaPlainQ
import Derived.Test.YtjenkcgjpdappaaPx30
set_option linter.unusedVariables false
namespace Go.Proofs.Ytjenkcgjpdappaa.Plain
open Go.RowKit Go.Proofs.Ytjenkcgjpdappaa.P Go.Proofs.YtjenkcgjpdappaaW.PrintWords Go.Proofs.YtjenkcgjpdappaaW.PrintLast
def rtE (t : Tab) (e : Int) : Bool × Int × Int × Int × Bool × Int × Bool × Int × Int × Int × Bool × Int × Bool × Int × Int × Int × Bool × Int × Bool × Int × Int × Int × Bool × Int × Bool × Int × Int × Int × Bool × Int × Bool × Int × Int × Int × Bool × Int × Bool × Int × Int × Int × Bool × Int × Int × Int := (t.c0.u, t.c0.id, t.c0.pr, t.c0.gr, t.c0.sl, t.c0.lf, t.c1.u, t.c1.id, t.c1.pr, t.c1.gr, t.c1.sl, t.c1.lf, t.c2.u, t.c2.id, t.c2.pr, t.c2.gr, t.c2.sl, t.c2.lf, t.c3.u, t.c3.id, t.c3.pr, t.c3.gr, t.c3.sl, t.c3.lf, t.c4.u, t.c4.id, t.c4.pr, t.c4.gr, t.c4.sl, t.c4.lf, t.c5.u, t.c5.id, t.c5.pr, t.c5.gr, t.c5.sl, t.c5.lf, t.c6.u, t.c6.id, t.c6.pr, t.c6.gr, t.c6.sl, t.c6.lf, t.la, e)
def rtS (t : Tab) (b : Bool) (e : Int) : Bool × Int × Int × Int × Bool × Int × Bool × Int × Int × Int × Bool × Int × Bool × Int × Int × Int × Bool × Int × Bool × Int × Int × Int × Bool × Int × Bool × Int × Int × Int × Bool × Int × Bool × Int × Int × Int × Bool × Int × Bool × Int × Int × Int × Bool × Int × Int × Bool × Int := (t.c0.u, t.c0.id, t.c0.pr, t.c0.gr, t.c0.sl, t.c0.lf, t.c1.u, t.c1.id, t.c1.pr, t.c1.gr, t.c1.sl, t.c1.lf, t.c2.u, t.c2.id, t.c2.pr, t.c2.gr, t.c2.sl, t.c2.lf, t.c3.u, t.c3.id, t.c3.pr, t.c3.gr, t.c3.sl, t.c3.lf, t.c4.u, t.c4.id, t.c4.pr, t.c4.gr, t.c4.sl, t.c4.lf, t.c5.u, t.c5.id, t.c5.pr, t.c5.gr, t.c5.sl, t.c5.lf, t.c6.u, t.c6.id, t.c6.pr, t.c6.gr, t.c6.sl, t.c6.lf, t.la, b, e)
def rtL (t : Tab) (l : List Int) : Bool × Int × Int × Int × Bool × Int × Bool × Int × Int × Int × Bool × Int × Bool × Int × Int × Int × Bool × Int × Bool × Int × Int × Int × Bool × Int × Bool × Int × Int × Int × Bool × Int × Bool × Int × Int × Int × Bool × Int × Bool × Int × Int × Int × Bool × Int × Int × List Int := (t.c0.u, t.c0.id, t.c0.pr, t.c0.gr, t.c0.sl, t.c0.lf, t.c1.u, t.c1.id, t.c1.pr, t.c1.gr, t.c1.sl, t.c1.lf, t.c2.u, t.c2.id, t.c2.pr, t.c2.gr, t.c2.sl, t.c2.lf, t.c3.u, t.c3.id, t.c3.pr, t.c3.gr, t.c3.sl, t.c3.lf, t.c4.u, t.c4.id, t.c4.pr, t.c4.gr, t.c4.sl, t.c4.lf, t.c5.u, t.c5.id, t.c5.pr, t.c5.gr, t.c5.sl, t.c5.lf, t.c6.u, t.c6.id, t.c6.pr, t.c6.gr, t.c6.sl, t.c6.lf, t.la, l)
def Tab.set_lf (t : Tab) (i v : Int) : Tab := ⟨{ t.c0 with lf := pt 0 i v t.c0.lf }, { t.c1 with lf := pt 1 i v t.c1.lf }, { t.c2 with lf := pt 2 i v t.c2.lf }, { t.c3 with lf := pt 3 i v t.c3.lf }, { t.c4 with lf := pt 4 i v t.c4.lf }, { t.c5 with lf := pt 5 i v t.c5.lf }, { t.c6 with lf := pt 6 i v t.c6.lf }, t.la⟩
theorem put_set (t : Tab) (i v : Int) (c : C) : (t.set_lf i v).put i c = t.put i c := by simp only [Tab.put, Tab.set_lf, pt_pt]
theorem at_set_lf (t : Tab) (i v : Int) (h0 : 0 ≤ i) (h1 : i < 7) : ((t.set_lf i v).at i).lf = v := by
  obtain rfl | rfl | rfl | rfl | rfl | rfl | rfl : i = 0 ∨ i = 1 ∨ i = 2 ∨ i = 3 ∨ i = 4 ∨ i = 5 ∨ i = 6 := by omega
  all_goals simp [Tab.at, Tab.set_lf, pk7, pt]
theorem lf_range {t : Tab} (hv : valid t) {i : Int} (h0 : 0 ≤ i) (h1 : i < 7) (hu : (t.at i).u = true) (hg : (t.at i).gr = 0) : 1 ≤ (t.at i).lf ∧ (t.at i).lf ≤ 1073741824 := by
  have h := hv.2.2 i h0 h1
  unfold good at h
  rw [if_pos hu] at h
  have := of_decide_eq_true h.2.2.1
  omega
def Tab.set_sl (t : Tab) (i : Int) (v : Bool) : Tab := ⟨{ t.c0 with sl := pt 0 i v t.c0.sl }, { t.c1 with sl := pt 1 i v t.c1.sl }, { t.c2 with sl := pt 2 i v t.c2.sl }, { t.c3 with sl := pt 3 i v t.c3.sl }, { t.c4 with sl := pt 4 i v t.c4.sl }, { t.c5 with sl := pt 5 i v t.c5.sl }, { t.c6 with sl := pt 6 i v t.c6.sl }, t.la⟩
def Tab.set_pr (t : Tab) (i : Int) (v : Int) : Tab := ⟨{ t.c0 with pr := pt 0 i v t.c0.pr }, { t.c1 with pr := pt 1 i v t.c1.pr }, { t.c2 with pr := pt 2 i v t.c2.pr }, { t.c3 with pr := pt 3 i v t.c3.pr }, { t.c4 with pr := pt 4 i v t.c4.pr }, { t.c5 with pr := pt 5 i v t.c5.pr }, { t.c6 with pr := pt 6 i v t.c6.pr }, t.la⟩
def as0 (k : Nat) (b : Bool) (i e : Int) (c : Bool) (t : Tab) := jobs_asleep.j0 k b i e c t.c0.u t.c0.id t.c0.pr t.c0.gr t.c0.sl t.c0.lf t.c1.u t.c1.id t.c1.pr t.c1.gr t.c1.sl t.c1.lf t.c2.u t.c2.id t.c2.pr t.c2.gr t.c2.sl t.c2.lf t.c3.u t.c3.id t.c3.pr t.c3.gr t.c3.sl t.c3.lf t.c4.u t.c4.id t.c4.pr t.c4.gr t.c4.sl t.c4.lf t.c5.u t.c5.id t.c5.pr t.c5.gr t.c5.sl t.c5.lf t.c6.u t.c6.id t.c6.pr t.c6.gr t.c6.sl t.c6.lf t.la
def asl (k : Nat) (t : Tab) (x : Int) (b : Bool) := jobs_asleep.f k t.c0.u t.c0.id t.c0.pr t.c0.gr t.c0.sl t.c0.lf t.c1.u t.c1.id t.c1.pr t.c1.gr t.c1.sl t.c1.lf t.c2.u t.c2.id t.c2.pr t.c2.gr t.c2.sl t.c2.lf t.c3.u t.c3.id t.c3.pr t.c3.gr t.c3.sl t.c3.lf t.c4.u t.c4.id t.c4.pr t.c4.gr t.c4.sl t.c4.lf t.c5.u t.c5.id t.c5.pr t.c5.gr t.c5.sl t.c5.lf t.c6.u t.c6.id t.c6.pr t.c6.gr t.c6.sl t.c6.lf t.la x b
def jS (k : Nat) (t : Tab) (x : Int) := jobs_Sleep.f k t.c0.u t.c0.id t.c0.pr t.c0.gr t.c0.sl t.c0.lf t.c1.u t.c1.id t.c1.pr t.c1.gr t.c1.sl t.c1.lf t.c2.u t.c2.id t.c2.pr t.c2.gr t.c2.sl t.c2.lf t.c3.u t.c3.id t.c3.pr t.c3.gr t.c3.sl t.c3.lf t.c4.u t.c4.id t.c4.pr t.c4.gr t.c4.sl t.c4.lf t.c5.u t.c5.id t.c5.pr t.c5.gr t.c5.sl t.c5.lf t.c6.u t.c6.id t.c6.pr t.c6.gr t.c6.sl t.c6.lf t.la x
def jW (k : Nat) (t : Tab) (x : Int) := jobs_Wake.f k t.c0.u t.c0.id t.c0.pr t.c0.gr t.c0.sl t.c0.lf t.c1.u t.c1.id t.c1.pr t.c1.gr t.c1.sl t.c1.lf t.c2.u t.c2.id t.c2.pr t.c2.gr t.c2.sl t.c2.lf t.c3.u t.c3.id t.c3.pr t.c3.gr t.c3.sl t.c3.lf t.c4.u t.c4.id t.c4.pr t.c4.gr t.c4.sl t.c4.lf t.c5.u t.c5.id t.c5.pr t.c5.gr t.c5.sl t.c5.lf t.c6.u t.c6.id t.c6.pr t.c6.gr t.c6.sl t.c6.lf t.la x
def sp0 (k : Nat) (x p : Int) (c : Bool) (t : Tab) := jobs_SetPriority.j0 k x p c t.c0.u t.c0.id t.c0.pr t.c0.gr t.c0.sl t.c0.lf t.c1.u t.c1.id t.c1.pr t.c1.gr t.c1.sl t.c1.lf t.c2.u t.c2.id t.c2.pr t.c2.gr t.c2.sl t.c2.lf t.c3.u t.c3.id t.c3.pr t.c3.gr t.c3.sl t.c3.lf t.c4.u t.c4.id t.c4.pr t.c4.gr t.c4.sl t.c4.lf t.c5.u t.c5.id t.c5.pr t.c5.gr t.c5.sl t.c5.lf t.c6.u t.c6.id t.c6.pr t.c6.gr t.c6.sl t.c6.lf t.la
def jP (k : Nat) (t : Tab) (x p : Int) := jobs_SetPriority.f k t.c0.u t.c0.id t.c0.pr t.c0.gr t.c0.sl t.c0.lf t.c1.u t.c1.id t.c1.pr t.c1.gr t.c1.sl t.c1.lf t.c2.u t.c2.id t.c2.pr t.c2.gr t.c2.sl t.c2.lf t.c3.u t.c3.id t.c3.pr t.c3.gr t.c3.sl t.c3.lf t.c4.u t.c4.id t.c4.pr t.c4.gr t.c4.sl t.c4.lf t.c5.u t.c5.id t.c5.pr t.c5.gr t.c5.sl t.c5.lf t.c6.u t.c6.id t.c6.pr t.c6.gr t.c6.sl t.c6.lf t.la x p
def js0 (k : Nat) (i e : Int) (b : Bool) (t : Tab) := jobs_Spend.j0 k i e b t.c0.u t.c0.id t.c0.pr t.c0.gr t.c0.sl t.c0.lf t.c1.u t.c1.id t.c1.pr t.c1.gr t.c1.sl t.c1.lf t.c2.u t.c2.id t.c2.pr t.c2.gr t.c2.sl t.c2.lf t.c3.u t.c3.id t.c3.pr t.c3.gr t.c3.sl t.c3.lf t.c4.u t.c4.id t.c4.pr t.c4.gr t.c4.sl t.c4.lf t.c5.u t.c5.id t.c5.pr t.c5.gr t.c5.sl t.c5.lf t.c6.u t.c6.id t.c6.pr t.c6.gr t.c6.sl t.c6.lf t.la
def js1 (k : Nat) (i e : Int) (t : Tab) := jobs_Spend.j1 k i e t.c0.u t.c0.id t.c0.pr t.c0.gr t.c0.sl t.c0.lf t.c1.u t.c1.id t.c1.pr t.c1.gr t.c1.sl t.c1.lf t.c2.u t.c2.id t.c2.pr t.c2.gr t.c2.sl t.c2.lf t.c3.u t.c3.id t.c3.pr t.c3.gr t.c3.sl t.c3.lf t.c4.u t.c4.id t.c4.pr t.c4.gr t.c4.sl t.c4.lf t.c5.u t.c5.id t.c5.pr t.c5.gr t.c5.sl t.c5.lf t.c6.u t.c6.id t.c6.pr t.c6.gr t.c6.sl t.c6.lf t.la
def jSp (k : Nat) (t : Tab) (x : Int) := jobs_Spend.f k t.c0.u t.c0.id t.c0.pr t.c0.gr t.c0.sl t.c0.lf t.c1.u t.c1.id t.c1.pr t.c1.gr t.c1.sl t.c1.lf t.c2.u t.c2.id t.c2.pr t.c2.gr t.c2.sl t.c2.lf t.c3.u t.c3.id t.c3.pr t.c3.gr t.c3.sl t.c3.lf t.c4.u t.c4.id t.c4.pr t.c4.gr t.c4.sl t.c4.lf t.c5.u t.c5.id t.c5.pr t.c5.gr t.c5.sl t.c5.lf t.c6.u t.c6.id t.c6.pr t.c6.gr t.c6.sl t.c6.lf t.la x
def jEn (k : Nat) (t : Tab) (x : Int) := jobs_End.f k t.c0.u t.c0.id t.c0.pr t.c0.gr t.c0.sl t.c0.lf t.c1.u t.c1.id t.c1.pr t.c1.gr t.c1.sl t.c1.lf t.c2.u t.c2.id t.c2.pr t.c2.gr t.c2.sl t.c2.lf t.c3.u t.c3.id t.c3.pr t.c3.gr t.c3.sl t.c3.lf t.c4.u t.c4.id t.c4.pr t.c4.gr t.c4.sl t.c4.lf t.c5.u t.c5.id t.c5.pr t.c5.gr t.c5.sl t.c5.lf t.c6.u t.c6.id t.c6.pr t.c6.gr t.c6.sl t.c6.lf t.la x
def jh0 (k : Nat) (b : Int) (l : List Int) (i : Int) (s t : Tab) := jobs_Shed.l0 k b l i s.c0.u s.c0.id s.c0.pr s.c0.gr s.c0.sl s.c0.lf s.c1.u s.c1.id s.c1.pr s.c1.gr s.c1.sl s.c1.lf s.c2.u s.c2.id s.c2.pr s.c2.gr s.c2.sl s.c2.lf s.c3.u s.c3.id s.c3.pr s.c3.gr s.c3.sl s.c3.lf s.c4.u s.c4.id s.c4.pr s.c4.gr s.c4.sl s.c4.lf s.c5.u s.c5.id s.c5.pr s.c5.gr s.c5.sl s.c5.lf s.c6.u s.c6.id s.c6.pr s.c6.gr s.c6.sl s.c6.lf t.c0.u t.c0.id t.c0.pr t.c0.gr t.c0.sl t.c0.lf t.c1.u t.c1.id t.c1.pr t.c1.gr t.c1.sl t.c1.lf t.c2.u t.c2.id t.c2.pr t.c2.gr t.c2.sl t.c2.lf t.c3.u t.c3.id t.c3.pr t.c3.gr t.c3.sl t.c3.lf t.c4.u t.c4.id t.c4.pr t.c4.gr t.c4.sl t.c4.lf t.c5.u t.c5.id t.c5.pr t.c5.gr t.c5.sl t.c5.lf t.c6.u t.c6.id t.c6.pr t.c6.gr t.c6.sl t.c6.lf t.la
def jSh (k : Nat) (t : Tab) (b : Int) := jobs_Shed.f k t.c0.u t.c0.id t.c0.pr t.c0.gr t.c0.sl t.c0.lf t.c1.u t.c1.id t.c1.pr t.c1.gr t.c1.sl t.c1.lf t.c2.u t.c2.id t.c2.pr t.c2.gr t.c2.sl t.c2.lf t.c3.u t.c3.id t.c3.pr t.c3.gr t.c3.sl t.c3.lf t.c4.u t.c4.id t.c4.pr t.c4.gr t.c4.sl t.c4.lf t.c5.u t.c5.id t.c5.pr t.c5.gr t.c5.sl t.c5.lf t.c6.u t.c6.id t.c6.pr t.c6.gr t.c6.sl t.c6.lf t.la b
theorem as0_true (k : Nat) (b : Bool) (i e : Int) (t : Tab) : as0 (k + 1) b i e true t = some (rtE T0 14) := rfl
theorem as0_false (k : Nat) (b : Bool) (i e : Int) (t : Tab) : as0 (k + 1) b i e false t = if e = 0 then (if 0 ≤ i then (if i < 7 then some (rtE (t.set_sl i b) 0) else none) else none) else some (rtE T0 e) := rfl
theorem asl_def (k : Nat) (t : Tab) (x : Int) (b : Bool) : asl k t x b = (jf k t x).bind fun r => if r.2 = 0 then (if 0 ≤ r.1 then (if r.1 < 7 then as0 k b r.1 r.2 ((t.at r.1).sl == b) t else none) else none) else as0 k b r.1 r.2 false t := rfl
open Classical in
noncomputable def slS (t : Tab) (x : Int) (b : Bool) := if valid t then (if 0 ≤ idx t x then (if ((t.at (idx t x)).sl == b) = true then rtE T0 14 else rtE (t.set_sl (idx t x) b) 0) else rtE T0 7) else rtE T0 2
theorem asl_at (t : Tab) (x : Int) (b : Bool) (k : Nat) (hk : 101 ≤ k) : asl k t x b = some (slS t x b) := by
  obtain ⟨k, rfl⟩ : ∃ q, k = q + 1 := ⟨k - 1, by omega⟩
  rw [asl_def, jf_at t x (k + 1) (by omega)]
  unfold slS
  simp only [Option.bind_some]
  by_cases hv : valid t
  · rw [if_pos hv, if_pos hv]
    by_cases hi : 0 ≤ idx t x
    · have := idx_range t x
      rw [if_pos hi, if_pos hi, if_pos rfl, if_pos hi, if_pos (by omega)]
      by_cases c : ((t.at (idx t x)).sl == b) = true
      · rw [if_pos c, c, as0_true]
      · rw [if_neg c, Bool.eq_false_iff.mpr c, as0_false, if_pos rfl, if_pos hi, if_pos (by omega)]
    · rw [if_neg hi, if_neg hi, if_neg (by decide), as0_false, if_neg (by decide)]
  · rw [if_neg hv, if_neg hv, if_neg (by decide), as0_false, if_neg (by decide)]
theorem jS_def (k : Nat) (t : Tab) (x : Int) : jS k t x = (asl k t x true).bind fun r => some r := rfl
theorem jW_def (k : Nat) (t : Tab) (x : Int) : jW k t x = (asl k t x false).bind fun r => some r := rfl
theorem sp0_succ (k : Nat) (x p : Int) (c : Bool) (t : Tab) : sp0 (k + 1) x p c t = if c = true then some (rtE T0 2) else ((jf k t x).bind fun r => if r.2 = 0 then (if 0 ≤ r.1 then (if r.1 < 7 then some (rtE (t.set_pr r.1 p) 0) else none) else none) else some (rtE T0 r.2)) := rfl
theorem jP_def (k : Nat) (t : Tab) (x p : Int) : jP k t x p = if p < 1 then sp0 k x p true t else sp0 k x p (decide (p > 63)) t := rfl
open Classical in
noncomputable def prS (t : Tab) (x p : Int) := if p < 1 ∨ 63 < p then rtE T0 2 else (if valid t then (if 0 ≤ idx t x then rtE (t.set_pr (idx t x) p) 0 else rtE T0 7) else rtE T0 2)
theorem jP_at (t : Tab) (x p : Int) (k : Nat) (hk : 101 ≤ k) : jP k t x p = some (prS t x p) := by
  obtain ⟨k, rfl⟩ : ∃ q, k = q + 1 := ⟨k - 1, by omega⟩
  rw [jP_def]
  unfold prS
  by_cases h1 : p < 1
  · rw [if_pos h1, if_pos (.inl h1), sp0_succ, if_pos rfl]
  · rw [if_neg h1, sp0_succ]
    by_cases h2 : p > 63
    · rw [if_pos (by simpa using h2), if_pos (.inr h2)]
    · rw [if_neg (by simpa using h2), if_neg (by omega), jf_at t x k (by omega)]
      simp only [Option.bind_some]
      by_cases hv : valid t
      · rw [if_pos hv, if_pos hv]
        by_cases hi : 0 ≤ idx t x
        · have := idx_range t x
          rw [if_pos hi, if_pos hi, if_pos rfl, if_pos hi, if_pos (by omega)]
        · rw [if_neg hi, if_neg hi, if_neg (by decide)]
      · rw [if_neg hv, if_neg hv, if_neg (by decide)]
theorem js0_succ (k : Nat) (i e : Int) (b : Bool) (t : Tab) : js0 (k + 1) i e b t = if b = true then js1 k i 14 t else js1 k i e t := rfl
theorem js1_succ (k : Nat) (i e : Int) (t : Tab) : js1 (k + 1) i e t = if e = 0 then (if 0 ≤ i then (if i < 7 then (if ((t.set_lf i (wrap64 ((t.at i).lf - 1))).at i).lf = 0 then some (rtS ((t.set_lf i (wrap64 ((t.at i).lf - 1))).put i C0) (((t.set_lf i (wrap64 ((t.at i).lf - 1))).at i).lf == 0) 0) else some (rtS (t.set_lf i (wrap64 ((t.at i).lf - 1))) (((t.set_lf i (wrap64 ((t.at i).lf - 1))).at i).lf == 0) 0)) else none) else none) else some (rtS T0 false e) := rfl
theorem jSp_def (k : Nat) (t : Tab) (x : Int) : jSp k t x = (jf k t x).bind fun r => if r.2 = 0 then (if 0 ≤ r.1 then (if r.1 < 7 then (if (t.at r.1).gr = 0 then js0 k r.1 r.2 (t.at r.1).sl t else js0 k r.1 r.2 true t) else none) else none) else js0 k r.1 r.2 false t := rfl
open Classical in
noncomputable def spS (t : Tab) (x : Int) := if valid t then (if 0 ≤ idx t x then (if (t.at (idx t x)).gr = 0 ∧ ¬ (t.at (idx t x)).sl = true then (if (t.at (idx t x)).lf = 1 then rtS (t.put (idx t x) C0) true 0 else rtS (t.set_lf (idx t x) ((t.at (idx t x)).lf - 1)) false 0) else rtS T0 false 14) else rtS T0 false 7) else rtS T0 false 2
theorem jSp_at (t : Tab) (x : Int) (k : Nat) (hk : 102 ≤ k) : jSp k t x = some (spS t x) := by
  obtain ⟨k, rfl⟩ : ∃ q, k = q + 1 := ⟨k - 1, by omega⟩
  obtain ⟨k, rfl⟩ : ∃ q, k = q + 1 := ⟨k - 1, by omega⟩
  rw [jSp_def, jf_at t x (k + 1 + 1) (by omega)]
  unfold spS
  simp only [Option.bind_some]
  by_cases hv : valid t
  · rw [if_pos hv, if_pos hv]
    by_cases hi : 0 ≤ idx t x
    · have hr := idx_range t x
      have hu := (idx_is t x hi).1
      rw [if_pos hi, if_pos hi]
      generalize idx t x = i at hi hr hu ⊢
      rw [if_pos rfl, if_pos hi, if_pos (by omega)]
      by_cases c1 : (t.at i).gr = 0
      · rw [if_pos c1]
        by_cases c2 : (t.at i).sl = true
        · rw [js0_succ, if_pos c2, if_neg (fun h => h.2 c2), js1_succ, if_neg (by decide)]
        · have hl := lf_range hv hi (by omega) hu c1
          rw [js0_succ, if_neg c2, if_pos ⟨c1, c2⟩, js1_succ, if_pos rfl, if_pos hi, if_pos (by omega), wrap_id ((t.at i).lf - 1) (by omega) (by omega), at_set_lf t i _ hi (by omega), put_set]
          by_cases c3 : (t.at i).lf = 1
          · rw [if_pos c3, if_pos (by omega), show ((t.at i).lf - 1 == 0) = true from by simp; omega]
          · rw [if_neg c3, if_neg (by omega), show ((t.at i).lf - 1 == 0) = false from by simp; omega]
      · rw [if_neg c1, if_neg (fun h => c1 h.1), js0_succ, if_pos rfl, js1_succ, if_neg (by decide)]
    · rw [if_neg hi, if_neg hi, if_neg (by decide), js0_succ, if_neg (by decide), js1_succ, if_neg (by decide)]
  · rw [if_neg hv, if_neg hv, if_neg (by decide), js0_succ, if_neg (by decide), js1_succ, if_neg (by decide)]
theorem jEn_def (k : Nat) (t : Tab) (x : Int) : jEn k t x = (jf k t x).bind fun r => if r.2 = 0 then (if 0 ≤ r.1 then (if r.1 < 7 then some (rtE (t.put r.1 C0) 0) else none) else none) else some (rtE T0 r.2) := rfl
open Classical in
noncomputable def enS (t : Tab) (x : Int) := if valid t then (if 0 ≤ idx t x then rtE (t.put (idx t x) C0) 0 else rtE T0 7) else rtE T0 2
theorem jEn_at (t : Tab) (x : Int) (k : Nat) (hk : 102 ≤ k) : jEn k t x = some (enS t x) := by
  rw [jEn_def, jf_at t x k (by omega)]
  unfold enS
  simp only [Option.bind_some]
  by_cases hv : valid t
  · rw [if_pos hv, if_pos hv]
    by_cases hi : 0 ≤ idx t x
    · have := idx_range t x
      rw [if_pos hi, if_pos hi, if_pos rfl, if_pos hi, if_pos (by omega)]
    · rw [if_neg hi, if_neg hi, if_neg (by decide)]
  · rw [if_neg hv, if_neg hv, if_neg (by decide)]
theorem jh0_succ (k : Nat) (b : Int) (l : List Int) (i : Int) (s t : Tab) : jh0 (k + 1) b l i s t = if i < 7 then (if 0 ≤ i then (if (s.at i).u = true then (if (s.at i).gr = 0 then (if (s.at i).pr < b then (if l.length < 17592186044416 then jh0 k b (l ++ [(s.at i).id]) (wrap64 (i + 1)) s (t.put i C0) else none) else jh0 k b l (wrap64 (i + 1)) s t) else jh0 k b l (wrap64 (i + 1)) s t) else jh0 k b l (wrap64 (i + 1)) s t) else none) else some (rtL t l) := rfl
theorem jSh_def (k : Nat) (t : Tab) (b : Int) : jSh k t b = (jV k t).bind fun v => if v = true then jh0 k b [] 0 t t else some (rtL T0 []) := rfl
def stp (k : Nat) (t : Tab) (d x n g l : Int) := perilunelaw23_step.f k t.c0.u t.c0.id t.c0.pr t.c0.gr t.c0.sl t.c0.lf t.c1.u t.c1.id t.c1.pr t.c1.gr t.c1.sl t.c1.lf t.c2.u t.c2.id t.c2.pr t.c2.gr t.c2.sl t.c2.lf t.c3.u t.c3.id t.c3.pr t.c3.gr t.c3.sl t.c3.lf t.c4.u t.c4.id t.c4.pr t.c4.gr t.c4.sl t.c4.lf t.c5.u t.c5.id t.c5.pr t.c5.gr t.c5.sl t.c5.lf t.c6.u t.c6.id t.c6.pr t.c6.gr t.c6.sl t.c6.lf t.la d x n g l
def tabQ (r : Bool × Int × Int × Int × Bool × Int × Bool × Int × Int × Int × Bool × Int × Bool × Int × Int × Int × Bool × Int × Bool × Int × Int × Int × Bool × Int × Bool × Int × Int × Int × Bool × Int × Bool × Int × Int × Int × Bool × Int × Bool × Int × Int × Int × Bool × Int × Int × Int × Int) : Tab := ⟨⟨r.1, r.2.1, r.2.2.1, r.2.2.2.1, r.2.2.2.2.1, r.2.2.2.2.2.1⟩, ⟨r.2.2.2.2.2.2.1, r.2.2.2.2.2.2.2.1, r.2.2.2.2.2.2.2.2.1, r.2.2.2.2.2.2.2.2.2.1, r.2.2.2.2.2.2.2.2.2.2.1, r.2.2.2.2.2.2.2.2.2.2.2.1⟩, ⟨r.2.2.2.2.2.2.2.2.2.2.2.2.1, r.2.2.2.2.2.2.2.2.2.2.2.2.2.1, r.2.2.2.2.2.2.2.2.2.2.2.2.2.2.1, r.2.2.2.2.2.2.2.2.2.2.2.2.2.2.2.1, r.2.2.2.2.2.2.2.2.2.2.2.2.2.2.2.2.1, r.2.2.2.2.2.2.2.2.2.2.2.2.2.2.2.2.2.1⟩, ⟨r.2.2.2.2.2.2.2.2.2.2.2.2.2.2.2.2.2.2.1, r.2.2.2.2.2.2.2.2.2.2.2.2.2.2.2.2.2.2.2.1, r.2.2.2.2.2.2.2.2.2.2.2.2.2.2.2.2.2.2.2.2.1, r.2.2.2.2.2.2.2.2.2.2.2.2.2.2.2.2.2.2.2.2.2.1, r.2.2.2.2.2.2.2.2.2.2.2.2.2.2.2.2.2.2.2.2.2.2.1, r.2.2.2.2.2.2.2.2.2.2.2.2.2.2.2.2.2.2.2.2.2.2.2.1⟩, ⟨r.2.2.2.2.2.2.2.2.2.2.2.2.2.2.2.2.2.2.2.2.2.2.2.2.1, r.2.2.2.2.2.2.2.2.2.2.2.2.2.2.2.2.2.2.2.2.2.2.2.2.2.1, r.2.2.2.2.2.2.2.2.2.2.2.2.2.2.2.2.2.2.2.2.2.2.2.2.2.2.1, r.2.2.2.2.2.2.2.2.2.2.2.2.2.2.2.2.2.2.2.2.2.2.2.2.2.2.2.1, r.2.2.2.2.2.2.2.2.2.2.2.2.2.2.2.2.2.2.2.2.2.2.2.2.2.2.2.2.1, r.2.2.2.2.2.2.2.2.2.2.2.2.2.2.2.2.2.2.2.2.2.2.2.2.2.2.2.2.2.1⟩, ⟨r.2.2.2.2.2.2.2.2.2.2.2.2.2.2.2.2.2.2.2.2.2.2.2.2.2.2.2.2.2.2.1, r.2.2.2.2.2.2.2.2.2.2.2.2.2.2.2.2.2.2.2.2.2.2.2.2.2.2.2.2.2.2.2.1, r.2.2.2.2.2.2.2.2.2.2.2.2.2.2.2.2.2.2.2.2.2.2.2.2.2.2.2.2.2.2.2.2.1, r.2.2.2.2.2.2.2.2.2.2.2.2.2.2.2.2.2.2.2.2.2.2.2.2.2.2.2.2.2.2.2.2.2.1, r.2.2.2.2.2.2.2.2.2.2.2.2.2.2.2.2.2.2.2.2.2.2.2.2.2.2.2.2.2.2.2.2.2.2.1, r.2.2.2.2.2.2.2.2.2.2.2.2.2.2.2.2.2.2.2.2.2.2.2.2.2.2.2.2.2.2.2.2.2.2.2.1⟩, ⟨r.2.2.2.2.2.2.2.2.2.2.2.2.2.2.2.2.2.2.2.2.2.2.2.2.2.2.2.2.2.2.2.2.2.2.2.2.1, r.2.2.2.2.2.2.2.2.2.2.2.2.2.2.2.2.2.2.2.2.2.2.2.2.2.2.2.2.2.2.2.2.2.2.2.2.2.1, r.2.2.2.2.2.2.2.2.2.2.2.2.2.2.2.2.2.2.2.2.2.2.2.2.2.2.2.2.2.2.2.2.2.2.2.2.2.2.1, r.2.2.2.2.2.2.2.2.2.2.2.2.2.2.2.2.2.2.2.2.2.2.2.2.2.2.2.2.2.2.2.2.2.2.2.2.2.2.2.1, r.2.2.2.2.2.2.2.2.2.2.2.2.2.2.2.2.2.2.2.2.2.2.2.2.2.2.2.2.2.2.2.2.2.2.2.2.2.2.2.2.1, r.2.2.2.2.2.2.2.2.2.2.2.2.2.2.2.2.2.2.2.2.2.2.2.2.2.2.2.2.2.2.2.2.2.2.2.2.2.2.2.2.2.1⟩, r.2.2.2.2.2.2.2.2.2.2.2.2.2.2.2.2.2.2.2.2.2.2.2.2.2.2.2.2.2.2.2.2.2.2.2.2.2.2.2.2.2.2.1⟩
def numQ (r : Bool × Int × Int × Int × Bool × Int × Bool × Int × Int × Int × Bool × Int × Bool × Int × Int × Int × Bool × Int × Bool × Int × Int × Int × Bool × Int × Bool × Int × Int × Int × Bool × Int × Bool × Int × Int × Int × Bool × Int × Bool × Int × Int × Int × Bool × Int × Int × Int × Int) : Int := r.2.2.2.2.2.2.2.2.2.2.2.2.2.2.2.2.2.2.2.2.2.2.2.2.2.2.2.2.2.2.2.2.2.2.2.2.2.2.2.2.2.2.2.1
def errQ (r : Bool × Int × Int × Int × Bool × Int × Bool × Int × Int × Int × Bool × Int × Bool × Int × Int × Int × Bool × Int × Bool × Int × Int × Int × Bool × Int × Bool × Int × Int × Int × Bool × Int × Bool × Int × Int × Int × Bool × Int × Bool × Int × Int × Int × Bool × Int × Int × Int × Int) : Int := r.2.2.2.2.2.2.2.2.2.2.2.2.2.2.2.2.2.2.2.2.2.2.2.2.2.2.2.2.2.2.2.2.2.2.2.2.2.2.2.2.2.2.2.2
theorem tabQ_rt (t : Tab) (n e : Int) : tabQ (rtQ t n e) = t := rfl
theorem numQ_rt (t : Tab) (n e : Int) : numQ (rtQ t n e) = n := rfl
theorem errQ_rt (t : Tab) (n e : Int) : errQ (rtQ t n e) = e := rfl
theorem stp_rq (k : Nat) (t : Tab) (x n g l : Int) (r : Tab × Int × Int) (h : jRq k t n g l = some (outQ r)) : stp k t 0 x n g l = some (outQ r) := by
  unfold jRq at h
  unfold stp perilunelaw23_step.f
  rw [if_pos rfl, h]
  rfl
theorem stp_sl (k : Nat) (t : Tab) (x n g l e : Int) (u : Tab) (h : jS k t x = some (rtE u e)) : stp k t 1 x n g l = some (rtQ u 0 e) := by
  unfold jS at h
  unfold stp perilunelaw23_step.f
  rw [if_neg (by decide), if_pos rfl, h]
  rfl
theorem stp_wk (k : Nat) (t : Tab) (x n g l e : Int) (u : Tab) (h : jW k t x = some (rtE u e)) : stp k t 2 x n g l = some (rtQ u 0 e) := by
  unfold jW at h
  unfold stp perilunelaw23_step.f
  rw [if_neg (by decide), if_neg (by decide), if_pos rfl, h]
  rfl
theorem stp_pr (k : Nat) (t : Tab) (x n g l e : Int) (u : Tab) (h : jP k t x n = some (rtE u e)) : stp k t 3 x n g l = some (rtQ u 0 e) := by
  unfold jP at h
  unfold stp perilunelaw23_step.f
  rw [if_neg (by decide), if_neg (by decide), if_neg (by decide), if_pos rfl, h]
  rfl
theorem stp_sp (k : Nat) (t : Tab) (x n g l e : Int) (b : Bool) (u : Tab) (h : jSp k t x = some (rtS u b e)) : stp k t 4 x n g l = some (rtQ u 0 e) := by
  unfold jSp at h
  unfold stp perilunelaw23_step.f
  rw [if_neg (by decide), if_neg (by decide), if_neg (by decide), if_neg (by decide), if_pos rfl, h]
  rfl
theorem stp_en (k : Nat) (t : Tab) (x n g l e : Int) (u : Tab) (h : jEn k t x = some (rtE u e)) : stp k t 5 x n g l = some (rtQ u 0 e) := by
  unfold jEn at h
  unfold stp perilunelaw23_step.f
  rw [if_neg (by decide), if_neg (by decide), if_neg (by decide), if_neg (by decide), if_neg (by decide), if_pos rfl, h]
  rfl
theorem stp_sh (k : Nat) (t : Tab) (d x n g l : Int) (u : Tab) (m : List Int) (hd : d < 0 ∨ 5 < d) (h : jSh k t n = some (rtL u m)) : stp k t d x n g l = some (rtQ u 0 0) := by
  unfold jSh at h
  unfold stp perilunelaw23_step.f
  rw [if_neg (by omega), if_neg (by omega), if_neg (by omega), if_neg (by omega), if_neg (by omega), if_neg (by omega), h]
  rfl
/-! ### what a call other than Request and Shed answers: an error and no table, or a table that is the old one but for one core set -/
theorem cases7 {j : Int} (h0 : 0 ≤ j) (h1 : j < 7) : j = 0 ∨ j = 1 ∨ j = 2 ∨ j = 3 ∨ j = 4 ∨ j = 5 ∨ j = 6 := by omega
theorem at_set_sl (t : Tab) (i j : Int) (v : Bool) (h0 : 0 ≤ i) (h1 : i < 7) (h2 : 0 ≤ j) (h3 : j < 7) : (t.set_sl i v).at j = if j = i then { t.at j with sl := v } else t.at j := by
  rcases cases7 h0 h1 with rfl | rfl | rfl | rfl | rfl | rfl | rfl <;> rcases cases7 h2 h3 with rfl | rfl | rfl | rfl | rfl | rfl | rfl <;> rfl
theorem at_set_pr (t : Tab) (i j v : Int) (h0 : 0 ≤ i) (h1 : i < 7) (h2 : 0 ≤ j) (h3 : j < 7) : (t.set_pr i v).at j = if j = i then { t.at j with pr := v } else t.at j := by
  rcases cases7 h0 h1 with rfl | rfl | rfl | rfl | rfl | rfl | rfl <;> rcases cases7 h2 h3 with rfl | rfl | rfl | rfl | rfl | rfl | rfl <;> rfl
theorem at_lf (t : Tab) (i j v : Int) (h0 : 0 ≤ i) (h1 : i < 7) (h2 : 0 ≤ j) (h3 : j < 7) : (t.set_lf i v).at j = if j = i then { t.at j with lf := v } else t.at j := by
  rcases cases7 h0 h1 with rfl | rfl | rfl | rfl | rfl | rfl | rfl <;> rcases cases7 h2 h3 with rfl | rfl | rfl | rfl | rfl | rfl | rfl <;> rfl
theorem at_put (t : Tab) (i j : Int) (c : C) (h0 : 0 ≤ i) (h1 : i < 7) (h2 : 0 ≤ j) (h3 : j < 7) : (t.put i c).at j = if j = i then c else t.at j := by
  rcases cases7 h0 h1 with rfl | rfl | rfl | rfl | rfl | rfl | rfl <;> rcases cases7 h2 h3 with rfl | rfl | rfl | rfl | rfl | rfl | rfl <;> rfl
/-- the new table u is t but for the core set q, which was that of the job x; what stands there now is like the old one, or it is empty -/
structure Chg (t u : Tab) (x q : Int) : Prop where
  q0 : 0 ≤ q
  q7 : q < 7
  us : (t.at q).u = true
  ix : (t.at q).id = x
  la : u.la = t.la
  far : ∀ j, 0 ≤ j → j < 7 → j ≠ q → u.at j = t.at j
  now : u.at q = C0 ∨ ((u.at q).u = true ∧ (u.at q).id = (t.at q).id ∧ (u.at q).gr = (t.at q).gr ∧ fitsS (u.at q).pr (u.at q).gr (u.at q).lf = true)
theorem fits_of {t : Tab} (hv : valid t) {i : Int} (h0 : 0 ≤ i) (h1 : i < 7) (hu : (t.at i).u = true) : fitsS (t.at i).pr (t.at i).gr (t.at i).lf = true := by
  have h := hv.2.2 i h0 h1
  unfold good at h
  rw [if_pos hu] at h
  exact h.2.2.1
theorem slS_is (t : Tab) (x : Int) (b : Bool) : (∃ e, e ≠ 0 ∧ slS t x b = rtE T0 e) ∨ (valid t ∧ ∃ u q, slS t x b = rtE u 0 ∧ Chg t u x q) := by
  unfold slS
  by_cases hv : valid t
  · rw [if_pos hv]
    by_cases hi : 0 ≤ idx t x
    · have hr := idx_range t x
      have hs := idx_is t x hi
      rw [if_pos hi]
      by_cases c : ((t.at (idx t x)).sl == b) = true
      · rw [if_pos c]; exact .inl ⟨14, by decide, rfl⟩
      · rw [if_neg c]
        refine .inr ⟨hv, _, idx t x, rfl, hi, by omega, hs.1, hs.2, rfl, fun j j0 j1 hj => ?_, .inr ?_⟩
        · rw [at_set_sl t _ j b hi (by omega) j0 j1, if_neg hj]
        · rw [at_set_sl t _ _ b hi (by omega) hi (by omega), if_pos rfl]
          exact ⟨hs.1, rfl, rfl, fits_of hv hi (by omega) hs.1⟩
    · rw [if_neg hi]; exact .inl ⟨7, by decide, rfl⟩
  · rw [if_neg hv]; exact .inl ⟨2, by decide, rfl⟩
theorem prS_is (t : Tab) (x p : Int) : (∃ e, e ≠ 0 ∧ prS t x p = rtE T0 e) ∨ (valid t ∧ ∃ u q, prS t x p = rtE u 0 ∧ Chg t u x q) := by
  unfold prS
  by_cases hp : p < 1 ∨ 63 < p
  · rw [if_pos hp]; exact .inl ⟨2, by decide, rfl⟩
  rw [if_neg hp]
  by_cases hv : valid t
  · rw [if_pos hv]
    by_cases hi : 0 ≤ idx t x
    · have hr := idx_range t x
      have hs := idx_is t x hi
      rw [if_pos hi]
      refine .inr ⟨hv, _, idx t x, rfl, hi, by omega, hs.1, hs.2, rfl, fun j j0 j1 hj => ?_, .inr ?_⟩
      · rw [at_set_pr t _ j p hi (by omega) j0 j1, if_neg hj]
      · rw [at_set_pr t _ _ p hi (by omega) hi (by omega), if_pos rfl]
        refine ⟨hs.1, rfl, rfl, ?_⟩
        have hf := of_decide_eq_true (fits_of hv hi (by omega) hs.1)
        exact decide_eq_true (by show 1 ≤ p ∧ p ≤ 63 ∧ _; exact ⟨by omega, by omega, hf.2.2⟩)
    · rw [if_neg hi]; exact .inl ⟨7, by decide, rfl⟩
  · rw [if_neg hv]; exact .inl ⟨2, by decide, rfl⟩
theorem spS_is (t : Tab) (x : Int) : (∃ b e, e ≠ 0 ∧ spS t x = rtS T0 b e) ∨ (valid t ∧ ∃ u b q, spS t x = rtS u b 0 ∧ Chg t u x q) := by
  unfold spS
  by_cases hv : valid t
  · rw [if_pos hv]
    by_cases hi : 0 ≤ idx t x
    · have hr := idx_range t x
      have hs := idx_is t x hi
      rw [if_pos hi]
      by_cases c : (t.at (idx t x)).gr = 0 ∧ ¬ (t.at (idx t x)).sl = true
      · rw [if_pos c]
        by_cases c2 : (t.at (idx t x)).lf = 1
        · rw [if_pos c2]
          refine .inr ⟨hv, _, true, idx t x, rfl, hi, by omega, hs.1, hs.2, rfl, fun j j0 j1 hj => ?_, .inl ?_⟩
          · rw [at_put t _ j C0 hi (by omega) j0 j1, if_neg hj]
          · rw [at_put t _ _ C0 hi (by omega) hi (by omega), if_pos rfl]
        · rw [if_neg c2]
          refine .inr ⟨hv, _, false, idx t x, rfl, hi, by omega, hs.1, hs.2, rfl, fun j j0 j1 hj => ?_, .inr ?_⟩
          · rw [at_lf t _ j _ hi (by omega) j0 j1, if_neg hj]
          · rw [at_lf t _ _ _ hi (by omega) hi (by omega), if_pos rfl]
            refine ⟨hs.1, rfl, rfl, ?_⟩
            have hf := of_decide_eq_true (fits_of hv hi (by omega) hs.1)
            have hl := lf_range hv hi (by omega) hs.1 c.1
            exact decide_eq_true (by show 1 ≤ (t.at (idx t x)).pr ∧ (t.at (idx t x)).pr ≤ 63 ∧ ((t.at (idx t x)).gr = 0 ∧ 1 ≤ (t.at (idx t x)).lf - 1 ∧ (t.at (idx t x)).lf - 1 ≤ 1073741824 ∨ _); exact ⟨hf.1, hf.2.1, .inl ⟨c.1, by omega, by omega⟩⟩)
      · rw [if_neg c]; exact .inl ⟨false, 14, by decide, rfl⟩
    · rw [if_neg hi]; exact .inl ⟨false, 7, by decide, rfl⟩
  · rw [if_neg hv]; exact .inl ⟨false, 2, by decide, rfl⟩
theorem enS_is (t : Tab) (x : Int) : (∃ e, e ≠ 0 ∧ enS t x = rtE T0 e) ∨ (valid t ∧ ∃ u q, enS t x = rtE u 0 ∧ Chg t u x q) := by
  unfold enS
  by_cases hv : valid t
  · rw [if_pos hv]
    by_cases hi : 0 ≤ idx t x
    · have hr := idx_range t x
      have hs := idx_is t x hi
      rw [if_pos hi]
      refine .inr ⟨hv, _, idx t x, rfl, hi, by omega, hs.1, hs.2, rfl, fun j j0 j1 hj => ?_, .inl ?_⟩
      · rw [at_put t _ j C0 hi (by omega) j0 j1, if_neg hj]
      · rw [at_put t _ _ C0 hi (by omega) hi (by omega), if_pos rfl]
    · rw [if_neg hi]; exact .inl ⟨7, by decide, rfl⟩
  · rw [if_neg hv]; exact .inl ⟨2, by decide, rfl⟩
/-- a call of Sleep, Wake, SetPriority, Spend or End -/
theorem stp_mid (t : Tab) (d x n g l : Int) (k : Nat) (hk : 110 ≤ k) (h1 : 1 ≤ d) (h5 : d ≤ 5) : (∃ e, e ≠ 0 ∧ stp k t d x n g l = some (rtQ T0 0 e)) ∨ (valid t ∧ ∃ u q, stp k t d x n g l = some (rtQ u 0 0) ∧ Chg t u x q) := by
  obtain rfl | rfl | rfl | rfl | rfl : d = 1 ∨ d = 2 ∨ d = 3 ∨ d = 4 ∨ d = 5 := by omega
  · have h : jS k t x = some (slS t x true) := by rw [jS_def, asl_at t x true k (by omega)]; rfl
    rcases slS_is t x true with ⟨e, he, hs⟩ | ⟨hv, u, q, hs, hc⟩
    · exact .inl ⟨e, he, stp_sl k t x n g l e T0 (by rw [h, hs])⟩
    · exact .inr ⟨hv, u, q, stp_sl k t x n g l 0 u (by rw [h, hs]), hc⟩
  · have h : jW k t x = some (slS t x false) := by rw [jW_def, asl_at t x false k (by omega)]; rfl
    rcases slS_is t x false with ⟨e, he, hs⟩ | ⟨hv, u, q, hs, hc⟩
    · exact .inl ⟨e, he, stp_wk k t x n g l e T0 (by rw [h, hs])⟩
    · exact .inr ⟨hv, u, q, stp_wk k t x n g l 0 u (by rw [h, hs]), hc⟩
  · have h := jP_at t x n k (by omega)
    rcases prS_is t x n with ⟨e, he, hs⟩ | ⟨hv, u, q, hs, hc⟩
    · exact .inl ⟨e, he, stp_pr k t x n g l e T0 (by rw [h, hs])⟩
    · exact .inr ⟨hv, u, q, stp_pr k t x n g l 0 u (by rw [h, hs]), hc⟩
  · have h := jSp_at t x k (by omega)
    rcases spS_is t x with ⟨b, e, he, hs⟩ | ⟨hv, u, b, q, hs, hc⟩
    · exact .inl ⟨e, he, stp_sp k t x n g l e b T0 (by rw [h, hs])⟩
    · exact .inr ⟨hv, u, q, stp_sp k t x n g l 0 b u (by rw [h, hs]), hc⟩
  · have h := jEn_at t x k (by omega)
    rcases enS_is t x with ⟨e, he, hs⟩ | ⟨hv, u, q, hs, hc⟩
    · exact .inl ⟨e, he, stp_en k t x n g l e T0 (by rw [h, hs])⟩
    · exact .inr ⟨hv, u, q, stp_en k t x n g l 0 u (by rw [h, hs]), hc⟩
/-- a call of Request -/
theorem rqT_is (t : Tab) (p g l : Int) : (∃ e, e ≠ 0 ∧ rqT t p g l = (T0, 0, e)) ∨ (valid t ∧ fitsS p g l = true ∧ ¬ dup t g 0 ∧ t.la < 1073741824 ∧ ∃ q, 0 ≤ q ∧ q < 7 ∧ ¬ (t.at q).u = true ∧ rqT t p g l = (newT t q p g l (t.la + 1), t.la + 1, 0)) := by
  unfold rqT
  by_cases hv : valid t ∧ fitsS p g l = true
  · rw [if_pos hv, tailT]
    by_cases hd : dup t g 0
    · rw [if_pos hd]; exact .inl ⟨8, by decide, rfl⟩
    · rw [if_neg hd]
      by_cases hl : t.la ≥ 1073741824
      · rw [if_pos hl]; exact .inl ⟨4, by decide, rfl⟩
      · rw [if_neg hl]
        unfold finT
        rcases freeF_range t 7 0 (by omega) (by omega) with h | ⟨h1, h2, h3⟩
        · rw [if_pos (by omega)]; exact .inl ⟨13, by decide, rfl⟩
        · rw [if_neg (by omega)]
          exact .inr ⟨hv.1, hv.2, hd, by omega, _, h1, h2, h3, rfl⟩
  · rw [if_neg hv]; exact .inl ⟨2, by decide, rfl⟩
theorem new_at (t : Tab) (i p g l v j : Int) (h0 : 0 ≤ i) (h1 : i < 7) (h2 : 0 ≤ j) (h3 : j < 7) : (newT t i p g l v).at j = if j = i then ⟨true, v, p, g, false, l⟩ else t.at j := at_put t i j ⟨true, v, p, g, false, l⟩ h0 h1 h2 h3
end Go.Proofs.Ytjenkcgjpdappaa.Plain
