/- Plain facts: Request and Count answer what their reference answers; the law JobsRequest. No condition. -/
import Derived.Test.YtjenkcgjpdappaaPlainQ
import Derived.Test.YtjenkcgjpdappaaPx15
import Derived.Test.YtjenkcgjpdappaaPx16
import Derived.Test.YtjenkcgjpdappaaPx17
import Derived.Test.YtjenkcgjpdappaaPx18
set_option linter.unusedVariables false
namespace Go.Proofs.Ytjenkcgjpdappaa.Plain
open Go.RowKit Go.Proofs.Ytjenkcgjpdappaa.P Go.Proofs.YtjenkcgjpdappaaW.PrintWords Go.Proofs.YtjenkcgjpdappaaW.PrintLast
def rq0 (k : Nat) (p g l fr i : Int) (t : Tab) := periluneref23_Request.l0 k p g l fr i t.c0.u t.c0.id t.c0.pr t.c0.gr t.c0.sl t.c0.lf t.c1.u t.c1.id t.c1.pr t.c1.gr t.c1.sl t.c1.lf t.c2.u t.c2.id t.c2.pr t.c2.gr t.c2.sl t.c2.lf t.c3.u t.c3.id t.c3.pr t.c3.gr t.c3.sl t.c3.lf t.c4.u t.c4.id t.c4.pr t.c4.gr t.c4.sl t.c4.lf t.c5.u t.c5.id t.c5.pr t.c5.gr t.c5.sl t.c5.lf t.c6.u t.c6.id t.c6.pr t.c6.gr t.c6.sl t.c6.lf t.la
def rqj (k : Nat) (p g l : Int) (b : Bool) (t : Tab) := periluneref23_Request.j0 k p g l b t.c0.u t.c0.id t.c0.pr t.c0.gr t.c0.sl t.c0.lf t.c1.u t.c1.id t.c1.pr t.c1.gr t.c1.sl t.c1.lf t.c2.u t.c2.id t.c2.pr t.c2.gr t.c2.sl t.c2.lf t.c3.u t.c3.id t.c3.pr t.c3.gr t.c3.sl t.c3.lf t.c4.u t.c4.id t.c4.pr t.c4.gr t.c4.sl t.c4.lf t.c5.u t.c5.id t.c5.pr t.c5.gr t.c5.sl t.c5.lf t.c6.u t.c6.id t.c6.pr t.c6.gr t.c6.sl t.c6.lf t.la
def rRq (k : Nat) (t : Tab) (p g l : Int) := periluneref23_Request.f k t.c0.u t.c0.id t.c0.pr t.c0.gr t.c0.sl t.c0.lf t.c1.u t.c1.id t.c1.pr t.c1.gr t.c1.sl t.c1.lf t.c2.u t.c2.id t.c2.pr t.c2.gr t.c2.sl t.c2.lf t.c3.u t.c3.id t.c3.pr t.c3.gr t.c3.sl t.c3.lf t.c4.u t.c4.id t.c4.pr t.c4.gr t.c4.sl t.c4.lf t.c5.u t.c5.id t.c5.pr t.c5.gr t.c5.sl t.c5.lf t.c6.u t.c6.id t.c6.pr t.c6.gr t.c6.sl t.c6.lf t.la p g l
theorem rq0_succ (k : Nat) (p g l fr i : Int) (t : Tab) : rq0 (k + 1) p g l fr i t = if i ≥ 0 then (if 0 ≤ i then (if i < 7 then (if (t.at i).u = true then (if g = 0 then rq0 k p g l fr (wrap64 (i - 1)) t else (if (t.at i).gr = g then some (rtQ T0 0 8) else rq0 k p g l fr (wrap64 (i - 1)) t)) else rq0 k p g l i (wrap64 (i - 1)) t) else none) else none) else (if t.la = 1073741824 then some (rtQ T0 0 4) else (if fr < 0 then some (rtQ T0 0 13) else (if 0 ≤ fr then (if fr < 7 then some (rtQ (newT t fr p g l (wrap64 (t.la + 1))) (wrap64 (t.la + 1)) 0) else none) else none))) := rfl
theorem rqj_succ (k : Nat) (p g l : Int) (b : Bool) (t : Tab) : rqj (k + 1) p g l b t = if b = true then some (rtQ T0 0 2) else rq0 k p g l (-1) 6 t := rfl
theorem rRq_def (k : Nat) (t : Tab) (p g l : Int) : rRq k t p g l = (rV k t).bind fun v => if v = true then ((periluneref23_fits.f k p g l).bind fun f => rqj k p g l (!f) t) else rqj k p g l true t := rfl
def jc0 (k : Nat) (n i : Int) (t : Tab) := jobs_Count.l0 k n i t.c0.u t.c0.id t.c0.pr t.c0.gr t.c0.sl t.c0.lf t.c1.u t.c1.id t.c1.pr t.c1.gr t.c1.sl t.c1.lf t.c2.u t.c2.id t.c2.pr t.c2.gr t.c2.sl t.c2.lf t.c3.u t.c3.id t.c3.pr t.c3.gr t.c3.sl t.c3.lf t.c4.u t.c4.id t.c4.pr t.c4.gr t.c4.sl t.c4.lf t.c5.u t.c5.id t.c5.pr t.c5.gr t.c5.sl t.c5.lf t.c6.u t.c6.id t.c6.pr t.c6.gr t.c6.sl t.c6.lf
def jC (k : Nat) (t : Tab) := jobs_Count.f k t.c0.u t.c0.id t.c0.pr t.c0.gr t.c0.sl t.c0.lf t.c1.u t.c1.id t.c1.pr t.c1.gr t.c1.sl t.c1.lf t.c2.u t.c2.id t.c2.pr t.c2.gr t.c2.sl t.c2.lf t.c3.u t.c3.id t.c3.pr t.c3.gr t.c3.sl t.c3.lf t.c4.u t.c4.id t.c4.pr t.c4.gr t.c4.sl t.c4.lf t.c5.u t.c5.id t.c5.pr t.c5.gr t.c5.sl t.c5.lf t.c6.u t.c6.id t.c6.pr t.c6.gr t.c6.sl t.c6.lf t.la
def rc0 (k : Nat) (n i : Int) (t : Tab) := periluneref23_Count.l0 k n i t.c0.u t.c0.id t.c0.pr t.c0.gr t.c0.sl t.c0.lf t.c1.u t.c1.id t.c1.pr t.c1.gr t.c1.sl t.c1.lf t.c2.u t.c2.id t.c2.pr t.c2.gr t.c2.sl t.c2.lf t.c3.u t.c3.id t.c3.pr t.c3.gr t.c3.sl t.c3.lf t.c4.u t.c4.id t.c4.pr t.c4.gr t.c4.sl t.c4.lf t.c5.u t.c5.id t.c5.pr t.c5.gr t.c5.sl t.c5.lf t.c6.u t.c6.id t.c6.pr t.c6.gr t.c6.sl t.c6.lf t.la
def rc1 (k : Nat) (n i : Int) (b : Bool) (t : Tab) := periluneref23_Count.j1 k n i b t.c0.u t.c0.id t.c0.pr t.c0.gr t.c0.sl t.c0.lf t.c1.u t.c1.id t.c1.pr t.c1.gr t.c1.sl t.c1.lf t.c2.u t.c2.id t.c2.pr t.c2.gr t.c2.sl t.c2.lf t.c3.u t.c3.id t.c3.pr t.c3.gr t.c3.sl t.c3.lf t.c4.u t.c4.id t.c4.pr t.c4.gr t.c4.sl t.c4.lf t.c5.u t.c5.id t.c5.pr t.c5.gr t.c5.sl t.c5.lf t.c6.u t.c6.id t.c6.pr t.c6.gr t.c6.sl t.c6.lf t.la
def rC (k : Nat) (t : Tab) := periluneref23_Count.f k t.c0.u t.c0.id t.c0.pr t.c0.gr t.c0.sl t.c0.lf t.c1.u t.c1.id t.c1.pr t.c1.gr t.c1.sl t.c1.lf t.c2.u t.c2.id t.c2.pr t.c2.gr t.c2.sl t.c2.lf t.c3.u t.c3.id t.c3.pr t.c3.gr t.c3.sl t.c3.lf t.c4.u t.c4.id t.c4.pr t.c4.gr t.c4.sl t.c4.lf t.c5.u t.c5.id t.c5.pr t.c5.gr t.c5.sl t.c5.lf t.c6.u t.c6.id t.c6.pr t.c6.gr t.c6.sl t.c6.lf t.la
def lawRequest (k : Nat) (t : Tab) (p g l : Int) := perilunelaw23_JobsRequest.f k t.c0.u t.c0.id t.c0.pr t.c0.gr t.c0.sl t.c0.lf t.c1.u t.c1.id t.c1.pr t.c1.gr t.c1.sl t.c1.lf t.c2.u t.c2.id t.c2.pr t.c2.gr t.c2.sl t.c2.lf t.c3.u t.c3.id t.c3.pr t.c3.gr t.c3.sl t.c3.lf t.c4.u t.c4.id t.c4.pr t.c4.gr t.c4.sl t.c4.lf t.c5.u t.c5.id t.c5.pr t.c5.gr t.c5.sl t.c5.lf t.c6.u t.c6.id t.c6.pr t.c6.gr t.c6.sl t.c6.lf t.la p g l
def dupB (t : Tab) (g d : Int) : Prop := ∃ j, 0 ≤ j ∧ j < d ∧ (t.at j).u = true ∧ g ≠ 0 ∧ (t.at j).gr = g
theorem dupB_step {t : Tab} {g d : Int} (hn : ¬ ((t.at d).u = true ∧ g ≠ 0 ∧ (t.at d).gr = g)) : dupB t g (d + 1) ↔ dupB t g d := by
  constructor
  · rintro ⟨j, j0, j1, h⟩
    by_cases e : j = d
    · rw [e] at h; exact absurd h hn
    · exact ⟨j, j0, by omega, h⟩
  · rintro ⟨j, j0, j1, h⟩
    exact ⟨j, j0, by omega, h⟩
open Classical in
noncomputable def tailD (t : Tab) (p g l d : Int) : Tab × Int × Int := if dupB t g d then (T0, 0, 8) else (if t.la ≥ 1073741824 then (T0, 0, 4) else finT t p g l (freeF t 7 0))
theorem tailD_step {t : Tab} {p g l d : Int} (hn : ¬ ((t.at d).u = true ∧ g ≠ 0 ∧ (t.at d).gr = g)) : tailD t p g l d = tailD t p g l (d + 1) := by
  unfold tailD
  by_cases h : dupB t g d
  · rw [if_pos h, if_pos ((dupB_step hn).2 h)]
  · rw [if_neg h, if_neg (fun x => h ((dupB_step hn).1 x))]
theorem tailD_7 (t : Tab) (p g l : Int) : tailD t p g l 7 = tailT t p g l 0 := by
  unfold tailD tailT
  by_cases h : dupB t g 7
  · rw [if_pos h, if_pos (show dup t g 0 from h)]
  · rw [if_neg h, if_neg (show ¬ dup t g 0 from h)]
theorem rq0_at (t : Tab) (p g l : Int) (hla : 0 ≤ t.la ∧ t.la ≤ 1073741824) (d : Nat) : ∀ (k : Nat) (fr : Int), d ≤ 7 → d < k → fr = freeF t (7 - d) d → rq0 k p g l fr ((d : Int) - 1) t = some (outQ (tailD t p g l d)) := by
  induction d with
  | zero =>
    intro k fr h1 hk hf
    obtain ⟨k, rfl⟩ : ∃ q, k = q + 1 := ⟨k - 1, by omega⟩
    have hf' : fr = freeF t 7 0 := hf
    have hr := freeF_range t 7 0 (by omega) (by omega)
    rw [rq0_succ, if_neg (by omega), tailD, if_neg (show ¬ dupB t g ((0 : Nat) : Int) from by rintro ⟨j, j0, j1, -⟩; omega), ← hf']
    rw [← hf'] at hr
    by_cases c : t.la = 1073741824
    · rw [if_pos c, if_pos (by omega)]
      rfl
    · rw [if_neg c, if_neg (show ¬ t.la ≥ 1073741824 by omega), finT]
      by_cases c2 : fr < 0
      · rw [if_pos c2, if_pos c2]
        rfl
      · rw [if_neg c2, if_neg c2, if_pos (by omega), if_pos (by omega), wrap_id (t.la + 1) (by omega) (by omega)]
        rfl
  | succ d ih =>
    intro k fr h1 hk hf
    obtain ⟨k, rfl⟩ : ∃ q, k = q + 1 := ⟨k - 1, by omega⟩
    have e : ((d + 1 : Nat) : Int) - 1 = d := by omega
    have e2 : ((d + 1 : Nat) : Int) = (d : Int) + 1 := by omega
    have en : 7 - d = (7 - (d + 1)) + 1 := by omega
    rw [rq0_succ, e, e2, if_pos (by omega), if_pos (by omega), if_pos (by omega), wrap_id ((d : Int) - 1) (by omega) (by omega)]
    have used : (t.at d).u = true → rq0 k p g l fr ((d : Int) - 1) t = some (outQ (tailD t p g l d)) := fun c => by
      refine ih k fr (by omega) (by omega) ?_
      rw [en, freeF, if_pos c, hf]
      rfl
    by_cases c : (t.at d).u = true
    · rw [if_pos c]
      by_cases c2 : g = 0
      · rw [if_pos c2, ← tailD_step (fun h => h.2.1 c2)]
        exact used c
      · rw [if_neg c2]
        by_cases c3 : (t.at d).gr = g
        · rw [if_pos c3, tailD, if_pos ⟨d, by omega, by omega, c, c2, c3⟩]
          rfl
        · rw [if_neg c3, ← tailD_step (fun h => c3 h.2.2)]
          exact used c
    · rw [if_neg c, ← tailD_step (fun h => c h.1)]
      refine ih k d (by omega) (by omega) ?_
      rw [en, freeF, if_neg c]
theorem rRq_at (t : Tab) (p g l : Int) (k : Nat) (hk : 110 ≤ k) : rRq k t p g l = some (outQ (rqT t p g l)) := by
  obtain ⟨k, rfl⟩ : ∃ q, k = q + 1 := ⟨k - 1, by omega⟩
  rw [rRq_def, rV_at t (k + 1) (by omega), rfits_at]
  unfold rqT
  simp only [Option.bind_some]
  by_cases hv : valid t
  · rw [if_pos (by simpa using hv), rqj_succ]
    by_cases hf : fitsS p g l = true
    · rw [if_neg (by rw [hf]; decide), if_pos ⟨hv, hf⟩, ← tailD_7]
      exact rq0_at t p g l ⟨hv.1, hv.2.1⟩ 7 k (-1) (by omega) (by omega) rfl
    · rw [if_pos (by simpa using hf), if_neg (fun h => hf h.2)]
      rfl
  · rw [if_neg (by simpa using hv), if_neg (fun h => hv h.1), rqj_succ, if_pos rfl]
    rfl
/-! ### Count -/
def cntF (t : Tab) : Nat → Int → Int
  | 0, _ => 0
  | d + 1, i => if (t.at i).u = true then cntF t d (i + 1) + 1 else cntF t d (i + 1)
theorem jc0_succ (k : Nat) (n i : Int) (t : Tab) : jc0 (k + 1) n i t = if i < 7 then (if 0 ≤ i then (if (t.at i).u = true then jc0 k (wrap64 (n + 1)) (wrap64 (i + 1)) t else jc0 k n (wrap64 (i + 1)) t) else none) else some n := rfl
theorem rc0_succ (k : Nat) (n i : Int) (t : Tab) : rc0 (k + 1) n i t = if i < 7 then ((rV k t).bind fun v => rc1 k n i v t) else rc1 k n i false t := rfl
theorem rc1_succ (k : Nat) (n i : Int) (b : Bool) (t : Tab) : rc1 (k + 1) n i b t = if b = true then (if 0 ≤ i then (if i < 7 then (if (t.at i).u = true then rc0 k (wrap64 (n + 1)) (wrap64 (i + 1)) t else rc0 k n (wrap64 (i + 1)) t) else none) else none) else some n := rfl
theorem jc0_at (t : Tab) (d : Nat) : ∀ (k : Nat) (n i : Int), 0 ≤ i → i ≤ 7 → 7 - i = d → d < k → 0 ≤ n → n ≤ i → jc0 k n i t = some (n + cntF t d i) := by
  induction d with
  | zero =>
    intro k n i h0 h1 hd hk hn hni
    obtain ⟨k, rfl⟩ : ∃ q, k = q + 1 := ⟨k - 1, by omega⟩
    rw [jc0_succ, if_neg (by omega), cntF, Int.add_zero]
  | succ d ih =>
    intro k n i h0 h1 hd hk hn hni
    obtain ⟨k, rfl⟩ : ∃ q, k = q + 1 := ⟨k - 1, by omega⟩
    rw [jc0_succ, if_pos (by omega), if_pos h0, wrap_id (n + 1) (by omega) (by omega), wrap_id (i + 1) (by omega) (by omega), cntF]
    by_cases c : (t.at i).u = true
    · rw [if_pos c, if_pos c, ih k (n + 1) (i + 1) (by omega) (by omega) (by omega) (by omega) (by omega) (by omega)]
      congr 1; omega
    · rw [if_neg c, if_neg c, ih k n (i + 1) (by omega) (by omega) (by omega) (by omega) (by omega) (by omega)]
theorem rc0_at (t : Tab) (hv : valid t) (d : Nat) : ∀ (k : Nat) (n i : Int), 0 ≤ i → i ≤ 7 → 7 - i = d → 2 * d + 102 < k → 0 ≤ n → n ≤ i → rc0 k n i t = some (n + cntF t d i) := by
  induction d with
  | zero =>
    intro k n i h0 h1 hd hk hn hni
    obtain ⟨k, rfl⟩ : ∃ q, k = q + 2 := ⟨k - 2, by omega⟩
    rw [rc0_succ, if_neg (by omega), rc1_succ, if_neg (by decide), cntF, Int.add_zero]
  | succ d ih =>
    intro k n i h0 h1 hd hk hn hni
    obtain ⟨k, rfl⟩ : ∃ q, k = q + 2 := ⟨k - 2, by omega⟩
    rw [rc0_succ, if_pos (by omega), rV_at t (k + 1) (by omega), Option.bind_some, rc1_succ, if_pos (by simpa using hv), if_pos h0, if_pos (by omega), wrap_id (n + 1) (by omega) (by omega), wrap_id (i + 1) (by omega) (by omega), cntF]
    by_cases c : (t.at i).u = true
    · rw [if_pos c, if_pos c, ih k (n + 1) (i + 1) (by omega) (by omega) (by omega) (by omega) (by omega) (by omega)]
      congr 1; omega
    · rw [if_neg c, if_neg c, ih k n (i + 1) (by omega) (by omega) (by omega) (by omega) (by omega) (by omega)]
theorem jC_def (k : Nat) (t : Tab) : jC k t = (jV k t).bind fun v => if v = true then jc0 k 0 0 t else some 0 := rfl
theorem rC_def (k : Nat) (t : Tab) : rC k t = rc0 k 0 0 t := rfl
theorem count_at (t : Tab) (k : Nat) (hk : 130 ≤ k) : ∃ n, jC k t = some n ∧ rC k t = some n := by
  rw [jC_def, rC_def, jV_at t k (by omega), Option.bind_some]
  by_cases hv : valid t
  · rw [if_pos (by simpa using hv)]
    exact ⟨_, jc0_at t 7 k 0 0 (by omega) (by omega) (by omega) (by omega) (by omega) (by omega), rc0_at t hv 7 k 0 0 (by omega) (by omega) (by omega) (by omega) (by omega) (by omega)⟩
  · rw [if_neg (by simpa using hv)]
    obtain ⟨k, rfl⟩ : ∃ q, k = q + 2 := ⟨k - 2, by omega⟩
    exact ⟨0, rfl, by rw [rc0_succ, if_pos (by omega), rV_at t (k + 1) (by omega), Option.bind_some, rc1_succ, if_neg (by simpa using hv)]⟩
set_option maxHeartbeats 8000000 in
theorem JobsRequest_pure (t : Tab) (p g l : Int) : lawRequest 1000 t p g l = some true := by
  have h1 := jRq_at t p g l 1000 (by omega)
  have h2 := rRq_at t p g l 1000 (by omega)
  have h3 := jV_at t 1000 (by omega)
  have h4 := rV_at t 1000 (by omega)
  obtain ⟨n, h5, h6⟩ := count_at t 1000 (by omega)
  have h7 := live_at 1000 (by omega)
  unfold jRq at h1
  unfold rRq at h2
  unfold jV at h3
  unfold rV at h4
  unfold jC at h5
  unfold rC at h6
  generalize outQ (rqT t p g l) = r1 at h1 h2
  unfold lawRequest perilunelaw23_JobsRequest.f
  rw [h1, h2, h3, h4, h5, h6]
  dsimp only [Option.bind_some]
  simp only [beq_self_eq_true, Bool.and_self, Option.bind_some, if_true, h7]
  rfl
end Go.Proofs.Ytjenkcgjpdappaa.Plain
