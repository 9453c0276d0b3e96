/- Plain facts on what Request of package jobs answers, for every group. No condition. -/
import Derived.Test.YtjenkcgjpdappaaPlainF
import Derived.Test.YtjenkcgjpdappaaPx5
set_option linter.unusedVariables false
namespace Go.Proofs.Ytjenkcgjpdappaa.Plain
open Go.RowKit Go.Proofs.Ytjenkcgjpdappaa.P Go.Proofs.YtjenkcgjpdappaaW.PrintWords Go.Proofs.YtjenkcgjpdappaaW.PrintLast
def T0 : Tab := ⟨C0, C0, C0, C0, C0, C0, C0, 0⟩
def Tab.put (t : Tab) (i : Int) (c : C) : Tab := ⟨⟨pt 0 i c.u t.c0.u, pt 0 i c.id t.c0.id, pt 0 i c.pr t.c0.pr, pt 0 i c.gr t.c0.gr, pt 0 i c.sl t.c0.sl, pt 0 i c.lf t.c0.lf⟩, ⟨pt 1 i c.u t.c1.u, pt 1 i c.id t.c1.id, pt 1 i c.pr t.c1.pr, pt 1 i c.gr t.c1.gr, pt 1 i c.sl t.c1.sl, pt 1 i c.lf t.c1.lf⟩, ⟨pt 2 i c.u t.c2.u, pt 2 i c.id t.c2.id, pt 2 i c.pr t.c2.pr, pt 2 i c.gr t.c2.gr, pt 2 i c.sl t.c2.sl, pt 2 i c.lf t.c2.lf⟩, ⟨pt 3 i c.u t.c3.u, pt 3 i c.id t.c3.id, pt 3 i c.pr t.c3.pr, pt 3 i c.gr t.c3.gr, pt 3 i c.sl t.c3.sl, pt 3 i c.lf t.c3.lf⟩, ⟨pt 4 i c.u t.c4.u, pt 4 i c.id t.c4.id, pt 4 i c.pr t.c4.pr, pt 4 i c.gr t.c4.gr, pt 4 i c.sl t.c4.sl, pt 4 i c.lf t.c4.lf⟩, ⟨pt 5 i c.u t.c5.u, pt 5 i c.id t.c5.id, pt 5 i c.pr t.c5.pr, pt 5 i c.gr t.c5.gr, pt 5 i c.sl t.c5.sl, pt 5 i c.lf t.c5.lf⟩, ⟨pt 6 i c.u t.c6.u, pt 6 i c.id t.c6.id, pt 6 i c.pr t.c6.pr, pt 6 i c.gr t.c6.gr, pt 6 i c.sl t.c6.sl, pt 6 i c.lf t.c6.lf⟩, t.la⟩
theorem pt_pt {α : Type} (c i : Int) (v v' x : α) : pt c i v (pt c i v' x) = pt c i v x := by unfold pt; split <;> rfl
theorem at_put_ne (t : Tab) (i j : Int) (c : C) (h0 : 0 ≤ i) (h1 : i < 7) (h2 : 0 ≤ j) (h3 : j < 7) (hne : j ≠ i) : (t.put i c).at j = t.at j := by
  obtain rfl | rfl | rfl | rfl | rfl | rfl | rfl : j = 0 ∨ j = 1 ∨ j = 2 ∨ j = 3 ∨ j = 4 ∨ j = 5 ∨ j = 6 := by omega
  all_goals simp [Tab.at, Tab.put, pk7, pt, hne.symm]
def rtQ (t : Tab) (n e : Int) : Bool × Int × Int × Int × Bool × Int × Bool × Int × Int × Int × Bool × Int × Bool × Int × Int × Int × Bool × Int × Bool × Int × Int × Int × Bool × Int × Bool × Int × Int × Int × Bool × Int × Bool × Int × Int × Int × Bool × Int × Bool × Int × Int × Int × Bool × Int × Int × Int × Int := (t.c0.u, t.c0.id, t.c0.pr, t.c0.gr, t.c0.sl, t.c0.lf, t.c1.u, t.c1.id, t.c1.pr, t.c1.gr, t.c1.sl, t.c1.lf, t.c2.u, t.c2.id, t.c2.pr, t.c2.gr, t.c2.sl, t.c2.lf, t.c3.u, t.c3.id, t.c3.pr, t.c3.gr, t.c3.sl, t.c3.lf, t.c4.u, t.c4.id, t.c4.pr, t.c4.gr, t.c4.sl, t.c4.lf, t.c5.u, t.c5.id, t.c5.pr, t.c5.gr, t.c5.sl, t.c5.lf, t.c6.u, t.c6.id, t.c6.pr, t.c6.gr, t.c6.sl, t.c6.lf, t.la, n, e)
def Tab.setla (t : Tab) (v : Int) : Tab := ⟨t.c0, t.c1, t.c2, t.c3, t.c4, t.c5, t.c6, v⟩
def newT (t : Tab) (i p g l v : Int) : Tab := (t.put i ⟨true, v, p, g, false, l⟩).setla v
def jq0 (k : Nat) (p g l i : Int) (t : Tab) := jobs_Request.l0 k p g l i t.c0.u t.c0.id t.c0.pr t.c0.gr t.c0.sl t.c0.lf t.c1.u t.c1.id t.c1.pr t.c1.gr t.c1.sl t.c1.lf t.c2.u t.c2.id t.c2.pr t.c2.gr t.c2.sl t.c2.lf t.c3.u t.c3.id t.c3.pr t.c3.gr t.c3.sl t.c3.lf t.c4.u t.c4.id t.c4.pr t.c4.gr t.c4.sl t.c4.lf t.c5.u t.c5.id t.c5.pr t.c5.gr t.c5.sl t.c5.lf t.c6.u t.c6.id t.c6.pr t.c6.gr t.c6.sl t.c6.lf t.la t.c0.u t.c0.id t.c0.pr t.c0.gr t.c0.sl t.c0.lf t.c1.u t.c1.id t.c1.pr t.c1.gr t.c1.sl t.c1.lf t.c2.u t.c2.id t.c2.pr t.c2.gr t.c2.sl t.c2.lf t.c3.u t.c3.id t.c3.pr t.c3.gr t.c3.sl t.c3.lf t.c4.u t.c4.id t.c4.pr t.c4.gr t.c4.sl t.c4.lf t.c5.u t.c5.id t.c5.pr t.c5.gr t.c5.sl t.c5.lf t.c6.u t.c6.id t.c6.pr t.c6.gr t.c6.sl t.c6.lf
def jq1 (k : Nat) (p g l i : Int) (t : Tab) := jobs_Request.l1 k p g l i t.c0.u t.c0.id t.c0.pr t.c0.gr t.c0.sl t.c0.lf t.c1.u t.c1.id t.c1.pr t.c1.gr t.c1.sl t.c1.lf t.c2.u t.c2.id t.c2.pr t.c2.gr t.c2.sl t.c2.lf t.c3.u t.c3.id t.c3.pr t.c3.gr t.c3.sl t.c3.lf t.c4.u t.c4.id t.c4.pr t.c4.gr t.c4.sl t.c4.lf t.c5.u t.c5.id t.c5.pr t.c5.gr t.c5.sl t.c5.lf t.c6.u t.c6.id t.c6.pr t.c6.gr t.c6.sl t.c6.lf t.la t.c0.u t.c0.id t.c0.pr t.c0.gr t.c0.sl t.c0.lf t.c1.u t.c1.id t.c1.pr t.c1.gr t.c1.sl t.c1.lf t.c2.u t.c2.id t.c2.pr t.c2.gr t.c2.sl t.c2.lf t.c3.u t.c3.id t.c3.pr t.c3.gr t.c3.sl t.c3.lf t.c4.u t.c4.id t.c4.pr t.c4.gr t.c4.sl t.c4.lf t.c5.u t.c5.id t.c5.pr t.c5.gr t.c5.sl t.c5.lf t.c6.u t.c6.id t.c6.pr t.c6.gr t.c6.sl t.c6.lf
def jqj (k : Nat) (p g l : Int) (b : Bool) (t : Tab) := jobs_Request.j0 k p g l b t.c0.u t.c0.id t.c0.pr t.c0.gr t.c0.sl t.c0.lf t.c1.u t.c1.id t.c1.pr t.c1.gr t.c1.sl t.c1.lf t.c2.u t.c2.id t.c2.pr t.c2.gr t.c2.sl t.c2.lf t.c3.u t.c3.id t.c3.pr t.c3.gr t.c3.sl t.c3.lf t.c4.u t.c4.id t.c4.pr t.c4.gr t.c4.sl t.c4.lf t.c5.u t.c5.id t.c5.pr t.c5.gr t.c5.sl t.c5.lf t.c6.u t.c6.id t.c6.pr t.c6.gr t.c6.sl t.c6.lf t.la
def jRq (k : Nat) (t : Tab) (p g l : Int) := jobs_Request.f k t.c0.u t.c0.id t.c0.pr t.c0.gr t.c0.sl t.c0.lf t.c1.u t.c1.id t.c1.pr t.c1.gr t.c1.sl t.c1.lf t.c2.u t.c2.id t.c2.pr t.c2.gr t.c2.sl t.c2.lf t.c3.u t.c3.id t.c3.pr t.c3.gr t.c3.sl t.c3.lf t.c4.u t.c4.id t.c4.pr t.c4.gr t.c4.sl t.c4.lf t.c5.u t.c5.id t.c5.pr t.c5.gr t.c5.sl t.c5.lf t.c6.u t.c6.id t.c6.pr t.c6.gr t.c6.sl t.c6.lf t.la p g l
theorem jq0_succ (k : Nat) (p g l i : Int) (t : Tab) : jq0 (k + 1) p g l i t = if i < 7 then (if 0 ≤ i then (if (t.at i).u = true then (if g = 0 then jq0 k p g l (wrap64 (i + 1)) t else (if (t.at i).gr = g then some (rtQ T0 0 8) else jq0 k p g l (wrap64 (i + 1)) t)) else jq0 k p g l (wrap64 (i + 1)) t) else none) else (if t.la ≥ 1073741824 then some (rtQ T0 0 4) else jq1 k p g l 0 t) := rfl
theorem jq1_succ (k : Nat) (p g l i : Int) (t : Tab) : jq1 (k + 1) p g l i t = if i < 7 then (if 0 ≤ i then (if (t.at i).u = true then jq1 k p g l (wrap64 (i + 1)) t else some (rtQ (newT t i p g l (wrap64 (t.la + 1))) (wrap64 (t.la + 1)) 0)) else none) else some (rtQ T0 0 13) := rfl
theorem jqj_succ (k : Nat) (p g l : Int) (b : Bool) (t : Tab) : jqj (k + 1) p g l b t = if b = true then some (rtQ T0 0 2) else jq0 k p g l 0 t := rfl
theorem jRq_def (k : Nat) (t : Tab) (p g l : Int) : jRq k t p g l = (jV k t).bind fun v => if v = true then ((jobs_fits.f k p g l).bind fun f => jqj k p g l (!f) t) else jqj k p g l true t := rfl
def freeF (t : Tab) : Nat → Int → Int
  | 0, _ => -1
  | d + 1, i => if (t.at i).u = true then freeF t d (i + 1) else i
theorem freeF_range (t : Tab) (d : Nat) : ∀ i : Int, 0 ≤ i → i + (d : Int) = 7 → freeF t d i = -1 ∨ (i ≤ freeF t d i ∧ freeF t d i < 7 ∧ ¬ (t.at (freeF t d i)).u = true) := by
  induction d with
  | zero => intro i h0 h1; exact .inl rfl
  | succ d ih =>
    intro i h0 h1
    unfold freeF
    by_cases c : (t.at i).u = true
    · rw [if_pos c]
      rcases ih (i + 1) (by omega) (by omega) with h | ⟨h2, h3, h4⟩
      · exact .inl h
      · exact .inr ⟨by omega, h3, h4⟩
    · rw [if_neg c]
      exact .inr ⟨by omega, by omega, c⟩
def dup (t : Tab) (g i : Int) : Prop := ∃ j, i ≤ j ∧ j < 7 ∧ (t.at j).u = true ∧ g ≠ 0 ∧ (t.at j).gr = g
theorem dup_step {t : Tab} {g i : Int} (h1 : i < 7) (hn : ¬ ((t.at i).u = true ∧ g ≠ 0 ∧ (t.at i).gr = g)) : dup t g i ↔ dup t g (i + 1) := by
  constructor
  · rintro ⟨j, j0, j1, h⟩
    by_cases e : j = i
    · rw [e] at h; exact absurd h hn
    · exact ⟨j, by omega, j1, h⟩
  · rintro ⟨j, j0, j1, h⟩
    exact ⟨j, by omega, j1, h⟩
def finT (t : Tab) (p g l fr : Int) : Tab × Int × Int := if fr < 0 then (T0, 0, 13) else (newT t fr p g l (t.la + 1), t.la + 1, 0)
def outQ (r : Tab × Int × Int) := rtQ r.1 r.2.1 r.2.2
theorem jq1_at (t : Tab) (p g l : Int) (hla : 0 ≤ t.la ∧ t.la ≤ 1073741824) (d : Nat) : ∀ (k : Nat) (i : Int), 0 ≤ i → i ≤ 7 → 7 - i = d → d < k → jq1 k p g l i t = some (outQ (finT t p g l (freeF t d i))) := by
  induction d with
  | zero =>
    intro k i h0 h1 hd hk
    obtain ⟨k, rfl⟩ : ∃ q, k = q + 1 := ⟨k - 1, by omega⟩
    rw [jq1_succ, if_neg (by omega)]
    rfl
  | succ d ih =>
    intro k i h0 h1 hd hk
    obtain ⟨k, rfl⟩ : ∃ q, k = q + 1 := ⟨k - 1, by omega⟩
    rw [jq1_succ, if_pos (by omega), if_pos h0, wrap_id (i + 1) (by omega) (by omega), wrap_id (t.la + 1) (by omega) (by omega)]
    by_cases c : (t.at i).u = true
    · rw [if_pos c, show freeF t (d + 1) i = freeF t d (i + 1) from by rw [freeF, if_pos c]]
      exact ih k (i + 1) (by omega) (by omega) (by omega) (by omega)
    · rw [if_neg c, show freeF t (d + 1) i = i from by rw [freeF, if_neg c], finT, if_neg (by omega)]
      rfl
open Classical in
noncomputable def tailT (t : Tab) (p g l i : Int) : Tab × Int × Int := if dup t g i then (T0, 0, 8) else (if t.la ≥ 1073741824 then (T0, 0, 4) else finT t p g l (freeF t 7 0))
theorem tail_step {t : Tab} {p g l i : Int} (h1 : i < 7) (hn : ¬ ((t.at i).u = true ∧ g ≠ 0 ∧ (t.at i).gr = g)) : tailT t p g l (i + 1) = tailT t p g l i := by
  unfold tailT
  by_cases h : dup t g i
  · rw [if_pos h, if_pos ((dup_step h1 hn).1 h)]
  · rw [if_neg h, if_neg (fun x => h ((dup_step h1 hn).2 x))]
theorem jq0_at (t : Tab) (p g l : Int) (hla : 0 ≤ t.la ∧ t.la ≤ 1073741824) (d : Nat) : ∀ (k : Nat) (i : Int), 0 ≤ i → i ≤ 7 → 7 - i = d → d + 9 < k → jq0 k p g l i t = some (outQ (tailT t p g l i)) := by
  induction d with
  | zero =>
    intro k i h0 h1 hd hk
    obtain ⟨k, rfl⟩ : ∃ q, k = q + 1 := ⟨k - 1, by omega⟩
    rw [jq0_succ, if_neg (by omega)]
    unfold tailT
    rw [if_neg (show ¬ dup t g i from by rintro ⟨j, j0, j1, -⟩; omega)]
    by_cases c : t.la ≥ 1073741824
    · rw [if_pos c, if_pos c]
      rfl
    · rw [if_neg c, if_neg c]
      exact jq1_at t p g l hla 7 k 0 (by omega) (by omega) (by omega) (by omega)
  | succ d ih =>
    intro k i h0 h1 hd hk
    obtain ⟨k, rfl⟩ : ∃ q, k = q + 1 := ⟨k - 1, by omega⟩
    have nx := ih k (i + 1) (by omega) (by omega) (by omega) (by omega)
    rw [jq0_succ, if_pos (by omega), if_pos h0, wrap_id (i + 1) (by omega) (by omega), nx]
    by_cases c : (t.at i).u = true
    · rw [if_pos c]
      by_cases c2 : g = 0
      · rw [if_pos c2, tail_step (by omega) (fun h => h.2.1 c2)]
      · rw [if_neg c2]
        by_cases c3 : (t.at i).gr = g
        · rw [if_pos c3, tailT, if_pos ⟨i, Int.le_refl _, by omega, c, c2, c3⟩]
          rfl
        · rw [if_neg c3, tail_step (by omega) (fun h => c3 h.2.2)]
    · rw [if_neg c, tail_step (by omega) (fun h => c h.1)]
open Classical in
noncomputable def rqT (t : Tab) (p g l : Int) : Tab × Int × Int := if valid t ∧ fitsS p g l = true then tailT t p g l 0 else (T0, 0, 2)
theorem jRq_at (t : Tab) (p g l : Int) (k : Nat) (hk : 110 ≤ k) : jRq k t p g l = some (outQ (rqT t p g l)) := by
  obtain ⟨k, rfl⟩ : ∃ q, k = q + 1 := ⟨k - 1, by omega⟩
  rw [jRq_def, jV_at t (k + 1) (by omega), fits_at]
  unfold rqT
  simp only [Option.bind_some]
  by_cases hv : valid t
  · rw [if_pos (by simpa using hv), jqj_succ]
    by_cases hf : fitsS p g l = true
    · rw [if_neg (by rw [hf]; decide), if_pos ⟨hv, hf⟩]
      exact jq0_at t p g l ⟨hv.1, hv.2.1⟩ 7 k 0 (by omega) (by omega) (by omega) (by omega)
    · rw [if_pos (by simpa using hf), if_neg (fun h => hf h.2)]
      rfl
  · rw [if_neg (by simpa using hv), if_neg (fun h => hv h.1), jqj_succ, if_pos rfl]
    rfl
end Go.Proofs.Ytjenkcgjpdappaa.Plain
