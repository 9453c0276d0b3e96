/- Plain facts: a job of no group that is requested with left = n ends with its n-th Spend; the law JobsSpend. No condition. -/
import Derived.Test.YtjenkcgjpdappaaPlainSp
import Derived.Test.YtjenkcgjpdappaaPx5
import Derived.Test.YtjenkcgjpdappaaPx15
import Derived.Test.YtjenkcgjpdappaaPx33
set_option linter.unusedVariables false
namespace Go.Proofs.Ytjenkcgjpdappaa.Plain
open Go.RowKit Go.Proofs.Ytjenkcgjpdappaa.P Go.Proofs.YtjenkcgjpdappaaW.PrintWords Go.Proofs.YtjenkcgjpdappaaW.PrintLast
def rtQ (t : Tab) (n e : Int) : Bool × Int × Int × Int × Bool × Int × Bool × Int × Int × Int × Bool × Int × Bool × Int × Int × Int × Bool × Int × Bool × Int × Int × Int × Bool × Int × Bool × Int × Int × Int × Bool × Int × Bool × Int × Int × Int × Bool × Int × Bool × Int × Int × Int × Bool × Int × Int × Int × Int := (t.c0.u, t.c0.id, t.c0.pr, t.c0.gr, t.c0.sl, t.c0.lf, t.c1.u, t.c1.id, t.c1.pr, t.c1.gr, t.c1.sl, t.c1.lf, t.c2.u, t.c2.id, t.c2.pr, t.c2.gr, t.c2.sl, t.c2.lf, t.c3.u, t.c3.id, t.c3.pr, t.c3.gr, t.c3.sl, t.c3.lf, t.c4.u, t.c4.id, t.c4.pr, t.c4.gr, t.c4.sl, t.c4.lf, t.c5.u, t.c5.id, t.c5.pr, t.c5.gr, t.c5.sl, t.c5.lf, t.c6.u, t.c6.id, t.c6.pr, t.c6.gr, t.c6.sl, t.c6.lf, t.la, n, e)
def Tab.setla (t : Tab) (v : Int) : Tab := ⟨t.c0, t.c1, t.c2, t.c3, t.c4, t.c5, t.c6, v⟩
def newT (t : Tab) (i p g l v : Int) : Tab := (t.put i ⟨true, v, p, g, false, l⟩).setla v
def jq0 (k : Nat) (p g l i : Int) (t : Tab) := jobs_Request.l0 k p g l i t.c0.u t.c0.id t.c0.pr t.c0.gr t.c0.sl t.c0.lf t.c1.u t.c1.id t.c1.pr t.c1.gr t.c1.sl t.c1.lf t.c2.u t.c2.id t.c2.pr t.c2.gr t.c2.sl t.c2.lf t.c3.u t.c3.id t.c3.pr t.c3.gr t.c3.sl t.c3.lf t.c4.u t.c4.id t.c4.pr t.c4.gr t.c4.sl t.c4.lf t.c5.u t.c5.id t.c5.pr t.c5.gr t.c5.sl t.c5.lf t.c6.u t.c6.id t.c6.pr t.c6.gr t.c6.sl t.c6.lf t.la t.c0.u t.c0.id t.c0.pr t.c0.gr t.c0.sl t.c0.lf t.c1.u t.c1.id t.c1.pr t.c1.gr t.c1.sl t.c1.lf t.c2.u t.c2.id t.c2.pr t.c2.gr t.c2.sl t.c2.lf t.c3.u t.c3.id t.c3.pr t.c3.gr t.c3.sl t.c3.lf t.c4.u t.c4.id t.c4.pr t.c4.gr t.c4.sl t.c4.lf t.c5.u t.c5.id t.c5.pr t.c5.gr t.c5.sl t.c5.lf t.c6.u t.c6.id t.c6.pr t.c6.gr t.c6.sl t.c6.lf
def jq1 (k : Nat) (p g l i : Int) (t : Tab) := jobs_Request.l1 k p g l i t.c0.u t.c0.id t.c0.pr t.c0.gr t.c0.sl t.c0.lf t.c1.u t.c1.id t.c1.pr t.c1.gr t.c1.sl t.c1.lf t.c2.u t.c2.id t.c2.pr t.c2.gr t.c2.sl t.c2.lf t.c3.u t.c3.id t.c3.pr t.c3.gr t.c3.sl t.c3.lf t.c4.u t.c4.id t.c4.pr t.c4.gr t.c4.sl t.c4.lf t.c5.u t.c5.id t.c5.pr t.c5.gr t.c5.sl t.c5.lf t.c6.u t.c6.id t.c6.pr t.c6.gr t.c6.sl t.c6.lf t.la t.c0.u t.c0.id t.c0.pr t.c0.gr t.c0.sl t.c0.lf t.c1.u t.c1.id t.c1.pr t.c1.gr t.c1.sl t.c1.lf t.c2.u t.c2.id t.c2.pr t.c2.gr t.c2.sl t.c2.lf t.c3.u t.c3.id t.c3.pr t.c3.gr t.c3.sl t.c3.lf t.c4.u t.c4.id t.c4.pr t.c4.gr t.c4.sl t.c4.lf t.c5.u t.c5.id t.c5.pr t.c5.gr t.c5.sl t.c5.lf t.c6.u t.c6.id t.c6.pr t.c6.gr t.c6.sl t.c6.lf
def jqj (k : Nat) (p g l : Int) (b : Bool) (t : Tab) := jobs_Request.j0 k p g l b t.c0.u t.c0.id t.c0.pr t.c0.gr t.c0.sl t.c0.lf t.c1.u t.c1.id t.c1.pr t.c1.gr t.c1.sl t.c1.lf t.c2.u t.c2.id t.c2.pr t.c2.gr t.c2.sl t.c2.lf t.c3.u t.c3.id t.c3.pr t.c3.gr t.c3.sl t.c3.lf t.c4.u t.c4.id t.c4.pr t.c4.gr t.c4.sl t.c4.lf t.c5.u t.c5.id t.c5.pr t.c5.gr t.c5.sl t.c5.lf t.c6.u t.c6.id t.c6.pr t.c6.gr t.c6.sl t.c6.lf t.la
def jRq (k : Nat) (t : Tab) (p g l : Int) := jobs_Request.f k t.c0.u t.c0.id t.c0.pr t.c0.gr t.c0.sl t.c0.lf t.c1.u t.c1.id t.c1.pr t.c1.gr t.c1.sl t.c1.lf t.c2.u t.c2.id t.c2.pr t.c2.gr t.c2.sl t.c2.lf t.c3.u t.c3.id t.c3.pr t.c3.gr t.c3.sl t.c3.lf t.c4.u t.c4.id t.c4.pr t.c4.gr t.c4.sl t.c4.lf t.c5.u t.c5.id t.c5.pr t.c5.gr t.c5.sl t.c5.lf t.c6.u t.c6.id t.c6.pr t.c6.gr t.c6.sl t.c6.lf t.la p g l
def rq0 (k : Nat) (p g l fr i : Int) (t : Tab) := periluneref23_Request.l0 k p g l fr i t.c0.u t.c0.id t.c0.pr t.c0.gr t.c0.sl t.c0.lf t.c1.u t.c1.id t.c1.pr t.c1.gr t.c1.sl t.c1.lf t.c2.u t.c2.id t.c2.pr t.c2.gr t.c2.sl t.c2.lf t.c3.u t.c3.id t.c3.pr t.c3.gr t.c3.sl t.c3.lf t.c4.u t.c4.id t.c4.pr t.c4.gr t.c4.sl t.c4.lf t.c5.u t.c5.id t.c5.pr t.c5.gr t.c5.sl t.c5.lf t.c6.u t.c6.id t.c6.pr t.c6.gr t.c6.sl t.c6.lf t.la
def rqj (k : Nat) (p g l : Int) (b : Bool) (t : Tab) := periluneref23_Request.j0 k p g l b t.c0.u t.c0.id t.c0.pr t.c0.gr t.c0.sl t.c0.lf t.c1.u t.c1.id t.c1.pr t.c1.gr t.c1.sl t.c1.lf t.c2.u t.c2.id t.c2.pr t.c2.gr t.c2.sl t.c2.lf t.c3.u t.c3.id t.c3.pr t.c3.gr t.c3.sl t.c3.lf t.c4.u t.c4.id t.c4.pr t.c4.gr t.c4.sl t.c4.lf t.c5.u t.c5.id t.c5.pr t.c5.gr t.c5.sl t.c5.lf t.c6.u t.c6.id t.c6.pr t.c6.gr t.c6.sl t.c6.lf t.la
def rRq (k : Nat) (t : Tab) (p g l : Int) := periluneref23_Request.f k t.c0.u t.c0.id t.c0.pr t.c0.gr t.c0.sl t.c0.lf t.c1.u t.c1.id t.c1.pr t.c1.gr t.c1.sl t.c1.lf t.c2.u t.c2.id t.c2.pr t.c2.gr t.c2.sl t.c2.lf t.c3.u t.c3.id t.c3.pr t.c3.gr t.c3.sl t.c3.lf t.c4.u t.c4.id t.c4.pr t.c4.gr t.c4.sl t.c4.lf t.c5.u t.c5.id t.c5.pr t.c5.gr t.c5.sl t.c5.lf t.c6.u t.c6.id t.c6.pr t.c6.gr t.c6.sl t.c6.lf t.la p g l
def sl0 (k : Nat) (n x i : Int) (t u : Tab) := perilunelaw23_JobsSpend.l0 k n x i t.c0.u t.c0.id t.c0.pr t.c0.gr t.c0.sl t.c0.lf t.c1.u t.c1.id t.c1.pr t.c1.gr t.c1.sl t.c1.lf t.c2.u t.c2.id t.c2.pr t.c2.gr t.c2.sl t.c2.lf t.c3.u t.c3.id t.c3.pr t.c3.gr t.c3.sl t.c3.lf t.c4.u t.c4.id t.c4.pr t.c4.gr t.c4.sl t.c4.lf t.c5.u t.c5.id t.c5.pr t.c5.gr t.c5.sl t.c5.lf t.c6.u t.c6.id t.c6.pr t.c6.gr t.c6.sl t.c6.lf t.la u.c0.u u.c0.id u.c0.pr u.c0.gr u.c0.sl u.c0.lf u.c1.u u.c1.id u.c1.pr u.c1.gr u.c1.sl u.c1.lf u.c2.u u.c2.id u.c2.pr u.c2.gr u.c2.sl u.c2.lf u.c3.u u.c3.id u.c3.pr u.c3.gr u.c3.sl u.c3.lf u.c4.u u.c4.id u.c4.pr u.c4.gr u.c4.sl u.c4.lf u.c5.u u.c5.id u.c5.pr u.c5.gr u.c5.sl u.c5.lf u.c6.u u.c6.id u.c6.pr u.c6.gr u.c6.sl u.c6.lf u.la
def lawSpend (k : Nat) (t : Tab) (p l : Int) := perilunelaw23_JobsSpend.f k t.c0.u t.c0.id t.c0.pr t.c0.gr t.c0.sl t.c0.lf t.c1.u t.c1.id t.c1.pr t.c1.gr t.c1.sl t.c1.lf t.c2.u t.c2.id t.c2.pr t.c2.gr t.c2.sl t.c2.lf t.c3.u t.c3.id t.c3.pr t.c3.gr t.c3.sl t.c3.lf t.c4.u t.c4.id t.c4.pr t.c4.gr t.c4.sl t.c4.lf t.c5.u t.c5.id t.c5.pr t.c5.gr t.c5.sl t.c5.lf t.c6.u t.c6.id t.c6.pr t.c6.gr t.c6.sl t.c6.lf t.la p l
theorem jq0_succ (k : Nat) (p g l i : Int) (t : Tab) : jq0 (k + 1) p g l i t = if i < 7 then (if 0 ≤ i then (if (t.at i).u = true then (if g = 0 then jq0 k p g l (wrap64 (i + 1)) t else (if (t.at i).gr = g then some (rtQ T0 0 8) else jq0 k p g l (wrap64 (i + 1)) t)) else jq0 k p g l (wrap64 (i + 1)) t) else none) else (if t.la ≥ 1073741824 then some (rtQ T0 0 4) else jq1 k p g l 0 t) := rfl
theorem jq1_succ (k : Nat) (p g l i : Int) (t : Tab) : jq1 (k + 1) p g l i t = if i < 7 then (if 0 ≤ i then (if (t.at i).u = true then jq1 k p g l (wrap64 (i + 1)) t else some (rtQ (newT t i p g l (wrap64 (t.la + 1))) (wrap64 (t.la + 1)) 0)) else none) else some (rtQ T0 0 13) := rfl
theorem jqj_succ (k : Nat) (p g l : Int) (b : Bool) (t : Tab) : jqj (k + 1) p g l b t = if b = true then some (rtQ T0 0 2) else jq0 k p g l 0 t := rfl
theorem jRq_def (k : Nat) (t : Tab) (p g l : Int) : jRq k t p g l = (jV k t).bind fun v => if v = true then ((jobs_fits.f k p g l).bind fun f => jqj k p g l (!f) t) else jqj k p g l true t := rfl
theorem rq0_succ (k : Nat) (p g l fr i : Int) (t : Tab) : rq0 (k + 1) p g l fr i t = if i ≥ 0 then (if 0 ≤ i then (if i < 7 then (if (t.at i).u = true then (if g = 0 then rq0 k p g l fr (wrap64 (i - 1)) t else (if (t.at i).gr = g then some (rtQ T0 0 8) else rq0 k p g l fr (wrap64 (i - 1)) t)) else rq0 k p g l i (wrap64 (i - 1)) t) else none) else none) else (if t.la = 1073741824 then some (rtQ T0 0 4) else (if fr < 0 then some (rtQ T0 0 13) else (if 0 ≤ fr then (if fr < 7 then some (rtQ (newT t fr p g l (wrap64 (t.la + 1))) (wrap64 (t.la + 1)) 0) else none) else none))) := rfl
theorem rqj_succ (k : Nat) (p g l : Int) (b : Bool) (t : Tab) : rqj (k + 1) p g l b t = if b = true then some (rtQ T0 0 2) else rq0 k p g l (-1) 6 t := rfl
theorem rRq_def (k : Nat) (t : Tab) (p g l : Int) : rRq k t p g l = (rV k t).bind fun v => if v = true then ((periluneref23_fits.f k p g l).bind fun f => rqj k p g l (!f) t) else rqj k p g l true t := rfl
def freeF (t : Tab) : Nat → Int → Int
  | 0, _ => -1
  | d + 1, i => if (t.at i).u = true then freeF t d (i + 1) else i
theorem freeF_range (t : Tab) (d : Nat) : ∀ i : Int, 0 ≤ i → i + (d : Int) = 7 → freeF t d i = -1 ∨ (i ≤ freeF t d i ∧ freeF t d i < 7 ∧ ¬ (t.at (freeF t d i)).u = true) := by
  induction d with
  | zero => intro i h0 h1; exact .inl rfl
  | succ d ih =>
    intro i h0 h1
    unfold freeF
    by_cases c : (t.at i).u = true
    · rw [if_pos c]
      rcases ih (i + 1) (by omega) (by omega) with h | ⟨h2, h3, h4⟩
      · exact .inl h
      · exact .inr ⟨by omega, h3, h4⟩
    · rw [if_neg c]
      exact .inr ⟨by omega, by omega, c⟩
def fin (t : Tab) (p l fr : Int) := if fr < 0 then rtQ T0 0 13 else rtQ (newT t fr p 0 l (t.la + 1)) (t.la + 1) 0
theorem jq1_at (t : Tab) (p l : Int) (hla : 0 ≤ t.la ∧ t.la ≤ 1073741824) (d : Nat) : ∀ (k : Nat) (i : Int), 0 ≤ i → i ≤ 7 → 7 - i = d → d < k → jq1 k p 0 l i t = some (fin t p l (freeF t d i)) := by
  induction d with
  | zero =>
    intro k i h0 h1 hd hk
    obtain ⟨k, rfl⟩ : ∃ q, k = q + 1 := ⟨k - 1, by omega⟩
    rw [jq1_succ, if_neg (by omega)]
    rfl
  | succ d ih =>
    intro k i h0 h1 hd hk
    obtain ⟨k, rfl⟩ : ∃ q, k = q + 1 := ⟨k - 1, by omega⟩
    rw [jq1_succ, if_pos (by omega), if_pos h0, wrap_id (i + 1) (by omega) (by omega), wrap_id (t.la + 1) (by omega) (by omega)]
    by_cases c : (t.at i).u = true
    · rw [if_pos c, show freeF t (d + 1) i = freeF t d (i + 1) from by rw [freeF, if_pos c]]
      exact ih k (i + 1) (by omega) (by omega) (by omega) (by omega)
    · rw [if_neg c, show freeF t (d + 1) i = i from by rw [freeF, if_neg c], fin, if_neg (by omega)]
theorem jq0_at (t : Tab) (p l : Int) (hla : 0 ≤ t.la ∧ t.la ≤ 1073741824) (d : Nat) : ∀ (k : Nat) (i : Int), 0 ≤ i → i ≤ 7 → 7 - i = d → d + 9 < k → jq0 k p 0 l i t = some (if t.la ≥ 1073741824 then rtQ T0 0 4 else fin t p l (freeF t 7 0)) := by
  induction d with
  | zero =>
    intro k i h0 h1 hd hk
    obtain ⟨k, rfl⟩ : ∃ q, k = q + 1 := ⟨k - 1, by omega⟩
    rw [jq0_succ, if_neg (by omega)]
    by_cases c : t.la ≥ 1073741824
    · rw [if_pos c, if_pos c]
    · rw [if_neg c, if_neg c]
      exact jq1_at t p l hla 7 k 0 (by omega) (by omega) (by omega) (by omega)
  | succ d ih =>
    intro k i h0 h1 hd hk
    obtain ⟨k, rfl⟩ : ∃ q, k = q + 1 := ⟨k - 1, by omega⟩
    have nx := ih k (i + 1) (by omega) (by omega) (by omega) (by omega)
    rw [jq0_succ, if_pos (by omega), if_pos h0, wrap_id (i + 1) (by omega) (by omega), if_pos rfl, nx]
    by_cases c : (t.at i).u = true
    · rw [if_pos c]
    · rw [if_neg c]
theorem rq0_at (t : Tab) (p l : Int) (hla : 0 ≤ t.la ∧ t.la ≤ 1073741824) (d : Nat) : ∀ (k : Nat) (fr : Int), d ≤ 7 → d < k → fr = freeF t (7 - d) d → rq0 k p 0 l fr ((d : Int) - 1) t = some (if t.la ≥ 1073741824 then rtQ T0 0 4 else fin t p l (freeF t 7 0)) := by
  induction d with
  | zero =>
    intro k fr h1 hk hf
    obtain ⟨k, rfl⟩ : ∃ q, k = q + 1 := ⟨k - 1, by omega⟩
    have hf' : fr = freeF t 7 0 := hf
    have hr := freeF_range t 7 0 (by omega) (by omega)
    rw [← hf'] at hr ⊢
    rw [rq0_succ, if_neg (by omega)]
    by_cases c : t.la = 1073741824
    · rw [if_pos c, if_pos (by omega)]
    · rw [if_neg c, if_neg (show ¬ t.la ≥ 1073741824 by omega), fin]
      by_cases c2 : fr < 0
      · rw [if_pos c2, if_pos c2]
      · rw [if_neg c2, if_neg c2, if_pos (by omega), if_pos (by omega), wrap_id (t.la + 1) (by omega) (by omega)]
  | succ d ih =>
    intro k fr h1 hk hf
    obtain ⟨k, rfl⟩ : ∃ q, k = q + 1 := ⟨k - 1, by omega⟩
    have e : ((d + 1 : Nat) : Int) - 1 = d := by omega
    have en : 7 - d = (7 - (d + 1)) + 1 := by omega
    rw [rq0_succ, e, if_pos (by omega), if_pos (by omega), if_pos (by omega), wrap_id ((d : Int) - 1) (by omega) (by omega), if_pos rfl]
    by_cases c : (t.at d).u = true
    · rw [if_pos c]
      refine ih k fr (by omega) (by omega) ?_
      rw [en, freeF, if_pos c, hf]
      rfl
    · rw [if_neg c]
      refine ih k d (by omega) (by omega) ?_
      rw [en, freeF, if_neg c]
open Classical in
noncomputable def rqS (t : Tab) (p l : Int) := if valid t ∧ fitsS p 0 l = true then (if t.la ≥ 1073741824 then rtQ T0 0 4 else fin t p l (freeF t 7 0)) else rtQ T0 0 2
theorem jRq_at (t : Tab) (p l : Int) (k : Nat) (hk : 110 ≤ k) : jRq k t p 0 l = some (rqS t p l) := by
  obtain ⟨k, rfl⟩ : ∃ q, k = q + 1 := ⟨k - 1, by omega⟩
  rw [jRq_def, jV_at t (k + 1) (by omega), fits_at]
  unfold rqS
  simp only [Option.bind_some]
  by_cases hv : valid t
  · rw [if_pos (by simpa using hv), jqj_succ]
    by_cases hf : fitsS p 0 l = true
    · rw [if_neg (by rw [hf]; decide), if_pos ⟨hv, hf⟩]
      exact jq0_at t p l ⟨hv.1, hv.2.1⟩ 7 k 0 (by omega) (by omega) (by omega) (by omega)
    · rw [if_pos (by simpa using hf), if_neg (fun h => hf h.2)]
  · rw [if_neg (by simpa using hv), if_neg (fun h => hv h.1), jqj_succ, if_pos rfl]
theorem rRq_at (t : Tab) (p l : Int) (k : Nat) (hk : 110 ≤ k) : rRq k t p 0 l = some (rqS t p l) := by
  obtain ⟨k, rfl⟩ : ∃ q, k = q + 1 := ⟨k - 1, by omega⟩
  rw [rRq_def, rV_at t (k + 1) (by omega), rfits_at]
  unfold rqS
  simp only [Option.bind_some]
  by_cases hv : valid t
  · rw [if_pos (by simpa using hv), rqj_succ]
    by_cases hf : fitsS p 0 l = true
    · rw [if_neg (by rw [hf]; decide), if_pos ⟨hv, hf⟩]
      exact rq0_at t p l ⟨hv.1, hv.2.1⟩ 7 k (-1) (by omega) (by omega) rfl
    · rw [if_pos (by simpa using hf), if_neg (fun h => hf h.2)]
  · rw [if_neg (by simpa using hv), if_neg (fun h => hv h.1), rqj_succ, if_pos rfl]
/-! ### the table while the job runs -/
theorem at_put_eq (t : Tab) (i : Int) (c : C) (h0 : 0 ≤ i) (h1 : i < 7) : (t.put i c).at i = c := by
  obtain rfl | rfl | rfl | rfl | rfl | rfl | rfl : i = 0 ∨ i = 1 ∨ i = 2 ∨ i = 3 ∨ i = 4 ∨ i = 5 ∨ i = 6 := by omega
  all_goals simp [Tab.at, Tab.put, pk7, pt]
theorem new_at (t : Tab) (i p l v j : Int) (h0 : 0 ≤ i) (h1 : i < 7) (h2 : 0 ≤ j) (h3 : j < 7) : (newT t i p 0 l v).at j = if j = i then ⟨true, v, p, 0, false, l⟩ else t.at j := by
  show (t.put i ⟨true, v, p, 0, false, l⟩).at j = _
  by_cases e : j = i
  · rw [if_pos e, e, at_put_eq t i _ h0 h1]
  · rw [if_neg e, at_put_ne t i j _ h0 h1 h2 h3 e]
theorem new_valid {t : Tab} (hv : valid t) {i p l : Int} (h0 : 0 ≤ i) (h1 : i < 7) (hl : t.la < 1073741824) (hf : fitsS p 0 l = true) : valid (newT t i p 0 l (t.la + 1)) := by
  refine ⟨show 0 ≤ t.la + 1 from by have := hv.1; omega, show t.la + 1 ≤ 1073741824 from by omega, fun j j0 j1 => ?_⟩
  have hj := hv.2.2 j j0 j1
  unfold good at hj ⊢
  rw [new_at t i p l _ j h0 h1 j0 j1]
  by_cases e : j = i
  · rw [if_pos e, if_pos rfl]
    refine ⟨show 1 ≤ t.la + 1 from by have := hv.1; omega, Int.le_refl _, hf, fun k k0 k1 k2 => ?_⟩
    rw [new_at t i p l _ k h0 h1 k0 (by omega), if_neg (by omega)] at k2 ⊢
    have hk := hv.2.2 k k0 (by omega)
    unfold good at hk
    rw [if_pos k2] at hk
    exact ⟨show (t.at k).id ≠ t.la + 1 from by omega, fun h => h.2 rfl⟩
  · rw [if_neg e]
    by_cases c : (t.at j).u = true
    · rw [if_pos c] at hj ⊢
      refine ⟨hj.1, show (t.at j).id ≤ t.la + 1 from by omega, hj.2.2.1, fun k k0 k1 k2 => ?_⟩
      rw [new_at t i p l _ k h0 h1 k0 (by omega)] at k2 ⊢
      by_cases e2 : k = i
      · rw [if_pos e2]
        exact ⟨show t.la + 1 ≠ (t.at j).id from by omega, fun h => h.2 h.1.symm⟩
      · rw [if_neg e2] at k2 ⊢
        exact hj.2.2.2 k k0 k1 k2
    · rw [if_neg c] at hj ⊢
      exact hj
theorem idxF_found (t : Tab) (x q : Int) (hq : (t.at q).u = true ∧ (t.at q).id = x) (d : Nat) : ∀ i : Int, 0 ≤ i → i ≤ q → q < i + d → 0 ≤ idxF t x d i := by
  induction d with
  | zero => intro i h0 h1 h2; omega
  | succ d ih =>
    intro i h0 h1 h2
    unfold idxF
    by_cases c : (t.at i).u = true ∧ (t.at i).id = x
    · rw [if_pos c]; exact h0
    · rw [if_neg c]
      by_cases e : i = q
      · rw [e] at c; exact absurd hq c
      · exact ih (i + 1) (by omega) (by omega) (by omega)
theorem new_idx {t : Tab} (hv : valid t) {i p l : Int} (h0 : 0 ≤ i) (h1 : i < 7) : idx (newT t i p 0 l (t.la + 1)) (t.la + 1) = i := by
  have hi := new_at t i p l (t.la + 1) i h0 h1 h0 h1
  rw [if_pos rfl] at hi
  have hp : 0 ≤ idx (newT t i p 0 l (t.la + 1)) (t.la + 1) := idxF_found _ _ i (by rw [hi]; exact ⟨rfl, rfl⟩) 7 0 (by omega) h0 (by omega)
  have hr := idx_range (newT t i p 0 l (t.la + 1)) (t.la + 1)
  have hs := idx_is (newT t i p 0 l (t.la + 1)) (t.la + 1) hp
  generalize idx (newT t i p 0 l (t.la + 1)) (t.la + 1) = q at hp hr hs ⊢
  by_cases e : q = i
  · exact e
  · rw [new_at t i p l _ q h0 h1 hp (by omega), if_neg e] at hs
    have hk := hv.2.2 q hp (by omega)
    unfold good at hk
    rw [if_pos hs.1] at hk
    have := hs.2
    omega
theorem new_set (t : Tab) (i p l l' v : Int) : (newT t i p 0 l v).set_lf i l' = newT t i p 0 l' v := by simp only [newT, Tab.setla, Tab.put, Tab.set_lf, pt_pt]
theorem C.eq_of (c : C) (h : c.u = false ∧ c.id = 0 ∧ c.pr = 0 ∧ c.gr = 0 ∧ c.sl = false ∧ c.lf = 0) : (⟨false, 0, 0, 0, false, 0⟩ : C) = c := by
  obtain ⟨a, b, c, d, e, f⟩ := c
  simp_all
theorem new_end (t : Tab) (i p l v : Int) (h0 : 0 ≤ i) (h1 : i < 7) (hi : t.at i = C0) : (newT t i p 0 l v).put i C0 = t.setla v := by
  have e : ∀ (c j : Int) (x y : C), True := fun _ _ _ _ => trivial
  simp only [newT, Tab.setla, Tab.put, pt_pt]
  obtain rfl | rfl | rfl | rfl | rfl | rfl | rfl : i = 0 ∨ i = 1 ∨ i = 2 ∨ i = 3 ∨ i = 4 ∨ i = 5 ∨ i = 6 := by omega
  all_goals
    simp only [Tab.at, pk7] at hi
    simp [C0] at hi
    simp [pt, C0, hi]
    exact C.eq_of _ hi
theorem end_idx {t : Tab} (hv : valid t) : idx (t.setla (t.la + 1)) (t.la + 1) = -1 := by
  have hr := idx_range (t.setla (t.la + 1)) (t.la + 1)
  by_cases hp : 0 ≤ idx (t.setla (t.la + 1)) (t.la + 1)
  · have hs := idx_is (t.setla (t.la + 1)) (t.la + 1) hp
    generalize idx (t.setla (t.la + 1)) (t.la + 1) = q at hp hr hs ⊢
    have hs' : (t.at q).u = true ∧ (t.at q).id = t.la + 1 := hs
    have hk := hv.2.2 q hp (by omega)
    unfold good at hk
    rw [if_pos hs'.1] at hk
    have := hs'.2
    omega
  · omega
theorem end_valid {t : Tab} (hv : valid t) (hl : t.la < 1073741824) : valid (t.setla (t.la + 1)) := by
  refine ⟨show 0 ≤ t.la + 1 from by have := hv.1; omega, show t.la + 1 ≤ 1073741824 from by omega, fun j j0 j1 => ?_⟩
  have hj := hv.2.2 j j0 j1
  unfold good at hj ⊢
  show if (t.at j).u = true then _ else _
  by_cases c : (t.at j).u = true
  · rw [if_pos c] at hj ⊢
    exact ⟨hj.1, show (t.at j).id ≤ t.la + 1 from by omega, hj.2.2.1, hj.2.2.2⟩
  · rw [if_neg c] at hj ⊢
    exact hj
/-! ### the law -/
theorem sl0_go (k : Nat) (n x i : Int) (t u u' : Tab) (b : Bool) (e : Int) (hi : i ≤ n) (h : jSp k u x = some (rtS u' b e)) : sl0 (k + 1) n x i t u = if e = 0 then (if (b != (i == n)) = true then some false else sl0 k n x (wrap64 (i + 1)) t u') else some false := by
  unfold jSp at h
  unfold sl0
  rw [perilunelaw23_JobsSpend.l0, if_pos hi, h]
  rfl
set_option maxHeartbeats 4000000 in
theorem sl0_end (k : Nat) (n x i v : Int) (t u' : Tab) (b : Bool) (hi : ¬ i ≤ n) (hk : 60 ≤ k) (h : jSp k (t.setla v) x = some (rtS u' b 7)) : sl0 (k + 1) n x i t (t.setla v) = some true := by
  unfold jSp at h
  unfold sl0
  rw [perilunelaw23_JobsSpend.l0, if_neg hi, h, live_at k hk]
  simp only [Option.bind_some, rtS, Tab.setla, beq_self_eq_true, Bool.and_self, if_true]
theorem spend_loop (t : Tab) (hv : valid t) (i p n : Int) (h0 : 0 ≤ i) (h1 : i < 7) (hi : t.at i = C0) (hl : t.la < 1073741824) (hp : 1 ≤ p ∧ p ≤ 63) (hn : n ≤ 300) (d : Nat) : ∀ (k : Nat) (s : Int), 1 ≤ s → s ≤ n → n - s = d → d + 200 ≤ k → sl0 k n (t.la + 1) s t (newT t i p 0 (n - s + 1) (t.la + 1)) = some true := by
  have fit : ∀ l : Int, 1 ≤ l → l ≤ 300 → fitsS p 0 l = true := by
    intro l l0 l1
    unfold fitsS
    rw [decide_eq_true_eq]
    omega
  have step : ∀ (k : Nat) (l : Int), 1 ≤ l → l ≤ 300 → 102 ≤ k → jSp k (newT t i p 0 l (t.la + 1)) (t.la + 1) = some (if l = 1 then rtS (t.setla (t.la + 1)) true 0 else rtS (newT t i p 0 (l - 1) (t.la + 1)) false 0) := by
    intro k l l0 l1 hk
    have ha := new_at t i p l (t.la + 1) i h0 h1 h0 h1
    rw [if_pos rfl] at ha
    rw [jSp_at _ _ k hk, spS, if_pos (new_valid hv h0 h1 hl (fit l l0 l1)), new_idx hv h0 h1, if_pos h0, ha, new_end t i p l _ h0 h1 hi, new_set]
    rw [if_pos ⟨rfl, by simp⟩]
  induction d with
  | zero =>
    intro k s s0 s1 hd hk
    obtain rfl : s = n := by omega
    obtain ⟨k, rfl⟩ : ∃ q, k = q + 1 := ⟨k - 1, by omega⟩
    obtain ⟨k, rfl⟩ : ∃ q, k = q + 1 := ⟨k - 1, by omega⟩
    have st := step (k + 1) (s - s + 1) (by omega) (by omega) (by omega)
    rw [if_pos (by omega)] at st
    rw [sl0_go (k + 1) s _ s t _ _ _ _ (by omega) st, if_pos rfl, if_neg (by simp), wrap_id (s + 1) (by omega) (by omega)]
    have se : jSp k (t.setla (t.la + 1)) (t.la + 1) = some (rtS T0 false 7) := by
      rw [jSp_at _ _ k (by omega), spS, if_pos (end_valid hv hl), end_idx hv, if_neg (by decide)]
    exact sl0_end k s _ (s + 1) _ t _ _ (by omega) (by omega) se
  | succ d ih =>
    intro k s s0 s1 hd hk
    obtain ⟨k, rfl⟩ : ∃ q, k = q + 1 := ⟨k - 1, by omega⟩
    have st := step k (n - s + 1) (by omega) (by omega) (by omega)
    rw [if_neg (by omega)] at st
    rw [sl0_go k n _ s t _ _ _ _ (by omega) st, if_pos rfl, show (s == n) = false from by simp; omega, if_neg (by decide), wrap_id (s + 1) (by omega) (by omega), show n - s + 1 - 1 = n - (s + 1) + 1 from by omega]
    exact ih k (s + 1) (by omega) (by omega) (by omega) (by omega)
theorem lawSpend_go (k : Nat) (t u : Tab) (p l n x : Int) (hn : n = wrap64 (1 + wrap64 (Int.tmod (IntKind.u64.wrap l) 300))) (h : jRq k t p 0 n = some (rtQ u x 0)) : lawSpend k t p l = sl0 k n x 1 t u := by
  unfold jRq at h
  unfold lawSpend perilunelaw23_JobsSpend.f
  rw [← hn, h]
  rfl
theorem lawSpend_err (k : Nat) (t u : Tab) (p l n x e : Int) (hn : n = wrap64 (1 + wrap64 (Int.tmod (IntKind.u64.wrap l) 300))) (he : e ≠ 0) (hk : 60 ≤ k) (h : jRq k t p 0 n = some (rtQ u x e)) (h' : rRq k t p 0 n = some (rtQ u x e)) : lawSpend k t p l = some true := by
  unfold jRq at h
  unfold rRq at h'
  unfold lawSpend perilunelaw23_JobsSpend.f
  rw [← hn, h, h', live_at k hk]
  show (if e = 0 then _ else (if e = e then _ else _)) = _
  rw [if_neg he, if_pos rfl]
  rfl
theorem JobsSpend_pure (t : Tab) (p l : Int) (w1 : (Lit.int .i64 p).wf = true) (w2 : (Lit.int .i64 l).wf = true) : lawSpend 1000 t p l = some true := by
  obtain ⟨n, hn⟩ : ∃ n, n = wrap64 (1 + wrap64 (Int.tmod (IntKind.u64.wrap l) 300)) := ⟨_, rfl⟩
  have hr : 1 ≤ n ∧ n ≤ 300 := by
    have hm : 0 ≤ IntKind.u64.wrap l := by simp [IntKind.wrap, IntKind.bits, IntKind.signed]; omega
    rw [Int.tmod_eq_emod_of_nonneg hm] at hn
    generalize IntKind.u64.wrap l = m at hn hm
    rw [wrap_id (m % 300) (by omega) (by omega), wrap_id (1 + m % 300) (by omega) (by omega)] at hn
    omega
  have h1 := jRq_at t p n 1000 (by omega)
  have h2 := rRq_at t p n 1000 (by omega)
  unfold rqS at h1 h2
  by_cases c : valid t ∧ fitsS p 0 n = true
  · rw [if_pos c] at h1 h2
    obtain ⟨hv, hf⟩ := c
    by_cases c2 : t.la ≥ 1073741824
    · rw [if_pos c2] at h1 h2
      exact lawSpend_err 1000 t _ p l n _ _ hn (by decide) (by omega) h1 h2
    · rw [if_neg c2] at h1 h2
      have fr := freeF_range t 7 0 (by omega) (by omega)
      unfold fin at h1 h2
      by_cases c3 : freeF t 7 0 < 0
      · rw [if_pos c3] at h1 h2
        exact lawSpend_err 1000 t _ p l n _ _ hn (by decide) (by omega) h1 h2
      · rw [if_neg c3] at h1 h2
        generalize freeF t 7 0 = i at fr c3 h1 h2
        have hi : t.at i = C0 := by
          have h := hv.2.2 i (by omega) (by omega)
          unfold good at h
          rcases fr with e | ⟨_, _, hu⟩
          · omega
          · rwa [if_neg hu] at h
        have hp := of_decide_eq_true hf
        rw [lawSpend_go 1000 t _ p l n _ hn h1]
        have := spend_loop t hv i p n (by omega) (by omega) hi (by omega) (by omega) hr.2 (n - 1).toNat 1000 1 (by omega) (by omega) (by omega) (by omega)
        rwa [show n - 1 + 1 = n from by omega] at this
  · rw [if_neg c] at h1 h2
    exact lawSpend_err 1000 t _ p l n _ _ hn (by decide) (by omega) h1 h2
end Go.Proofs.Ytjenkcgjpdappaa.Plain
