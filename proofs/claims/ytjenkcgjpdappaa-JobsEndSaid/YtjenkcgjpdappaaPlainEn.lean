/- Plain facts on what Spend, End and Shed of package jobs and of its reference answer; the law JobsEnd. No condition. -/
import Derived.Test.YtjenkcgjpdappaaPlainF
import Derived.Test.YtjenkcgjpdappaaPx29
set_option linter.unusedVariables false
namespace Go.Proofs.Ytjenkcgjpdappaa.Plain
open Go.RowKit Go.Proofs.Ytjenkcgjpdappaa.P Go.Proofs.YtjenkcgjpdappaaW.PrintWords Go.Proofs.YtjenkcgjpdappaaW.PrintLast
def T0 : Tab := ⟨C0, C0, C0, C0, C0, C0, C0, 0⟩
def rtE (t : Tab) (e : Int) : Bool × Int × Int × Int × Bool × Int × Bool × Int × Int × Int × Bool × Int × Bool × Int × Int × Int × Bool × Int × Bool × Int × Int × Int × Bool × Int × Bool × Int × Int × Int × Bool × Int × Bool × Int × Int × Int × Bool × Int × Bool × Int × Int × Int × Bool × Int × Int × Int := (t.c0.u, t.c0.id, t.c0.pr, t.c0.gr, t.c0.sl, t.c0.lf, t.c1.u, t.c1.id, t.c1.pr, t.c1.gr, t.c1.sl, t.c1.lf, t.c2.u, t.c2.id, t.c2.pr, t.c2.gr, t.c2.sl, t.c2.lf, t.c3.u, t.c3.id, t.c3.pr, t.c3.gr, t.c3.sl, t.c3.lf, t.c4.u, t.c4.id, t.c4.pr, t.c4.gr, t.c4.sl, t.c4.lf, t.c5.u, t.c5.id, t.c5.pr, t.c5.gr, t.c5.sl, t.c5.lf, t.c6.u, t.c6.id, t.c6.pr, t.c6.gr, t.c6.sl, t.c6.lf, t.la, e)
def rtS (t : Tab) (b : Bool) (e : Int) : Bool × Int × Int × Int × Bool × Int × Bool × Int × Int × Int × Bool × Int × Bool × Int × Int × Int × Bool × Int × Bool × Int × Int × Int × Bool × Int × Bool × Int × Int × Int × Bool × Int × Bool × Int × Int × Int × Bool × Int × Bool × Int × Int × Int × Bool × Int × Int × Bool × Int := (t.c0.u, t.c0.id, t.c0.pr, t.c0.gr, t.c0.sl, t.c0.lf, t.c1.u, t.c1.id, t.c1.pr, t.c1.gr, t.c1.sl, t.c1.lf, t.c2.u, t.c2.id, t.c2.pr, t.c2.gr, t.c2.sl, t.c2.lf, t.c3.u, t.c3.id, t.c3.pr, t.c3.gr, t.c3.sl, t.c3.lf, t.c4.u, t.c4.id, t.c4.pr, t.c4.gr, t.c4.sl, t.c4.lf, t.c5.u, t.c5.id, t.c5.pr, t.c5.gr, t.c5.sl, t.c5.lf, t.c6.u, t.c6.id, t.c6.pr, t.c6.gr, t.c6.sl, t.c6.lf, t.la, b, e)
def rtL (t : Tab) (l : List Int) : Bool × Int × Int × Int × Bool × Int × Bool × Int × Int × Int × Bool × Int × Bool × Int × Int × Int × Bool × Int × Bool × Int × Int × Int × Bool × Int × Bool × Int × Int × Int × Bool × Int × Bool × Int × Int × Int × Bool × Int × Bool × Int × Int × Int × Bool × Int × Int × List Int := (t.c0.u, t.c0.id, t.c0.pr, t.c0.gr, t.c0.sl, t.c0.lf, t.c1.u, t.c1.id, t.c1.pr, t.c1.gr, t.c1.sl, t.c1.lf, t.c2.u, t.c2.id, t.c2.pr, t.c2.gr, t.c2.sl, t.c2.lf, t.c3.u, t.c3.id, t.c3.pr, t.c3.gr, t.c3.sl, t.c3.lf, t.c4.u, t.c4.id, t.c4.pr, t.c4.gr, t.c4.sl, t.c4.lf, t.c5.u, t.c5.id, t.c5.pr, t.c5.gr, t.c5.sl, t.c5.lf, t.c6.u, t.c6.id, t.c6.pr, t.c6.gr, t.c6.sl, t.c6.lf, t.la, l)
def Tab.set_lf (t : Tab) (i v : Int) : Tab := ⟨{ t.c0 with lf := pt 0 i v t.c0.lf }, { t.c1 with lf := pt 1 i v t.c1.lf }, { t.c2 with lf := pt 2 i v t.c2.lf }, { t.c3 with lf := pt 3 i v t.c3.lf }, { t.c4 with lf := pt 4 i v t.c4.lf }, { t.c5 with lf := pt 5 i v t.c5.lf }, { t.c6 with lf := pt 6 i v t.c6.lf }, t.la⟩
def Tab.put (t : Tab) (i : Int) (c : C) : Tab := ⟨⟨pt 0 i c.u t.c0.u, pt 0 i c.id t.c0.id, pt 0 i c.pr t.c0.pr, pt 0 i c.gr t.c0.gr, pt 0 i c.sl t.c0.sl, pt 0 i c.lf t.c0.lf⟩, ⟨pt 1 i c.u t.c1.u, pt 1 i c.id t.c1.id, pt 1 i c.pr t.c1.pr, pt 1 i c.gr t.c1.gr, pt 1 i c.sl t.c1.sl, pt 1 i c.lf t.c1.lf⟩, ⟨pt 2 i c.u t.c2.u, pt 2 i c.id t.c2.id, pt 2 i c.pr t.c2.pr, pt 2 i c.gr t.c2.gr, pt 2 i c.sl t.c2.sl, pt 2 i c.lf t.c2.lf⟩, ⟨pt 3 i c.u t.c3.u, pt 3 i c.id t.c3.id, pt 3 i c.pr t.c3.pr, pt 3 i c.gr t.c3.gr, pt 3 i c.sl t.c3.sl, pt 3 i c.lf t.c3.lf⟩, ⟨pt 4 i c.u t.c4.u, pt 4 i c.id t.c4.id, pt 4 i c.pr t.c4.pr, pt 4 i c.gr t.c4.gr, pt 4 i c.sl t.c4.sl, pt 4 i c.lf t.c4.lf⟩, ⟨pt 5 i c.u t.c5.u, pt 5 i c.id t.c5.id, pt 5 i c.pr t.c5.pr, pt 5 i c.gr t.c5.gr, pt 5 i c.sl t.c5.sl, pt 5 i c.lf t.c5.lf⟩, ⟨pt 6 i c.u t.c6.u, pt 6 i c.id t.c6.id, pt 6 i c.pr t.c6.pr, pt 6 i c.gr t.c6.gr, pt 6 i c.sl t.c6.sl, pt 6 i c.lf t.c6.lf⟩, t.la⟩
theorem pt_pt {α : Type} (c i : Int) (v v' x : α) : pt c i v (pt c i v' x) = pt c i v x := by unfold pt; split <;> rfl
theorem put_set (t : Tab) (i v : Int) (c : C) : (t.set_lf i v).put i c = t.put i c := by simp only [Tab.put, Tab.set_lf, pt_pt]
theorem at_set_lf (t : Tab) (i v : Int) (h0 : 0 ≤ i) (h1 : i < 7) : ((t.set_lf i v).at i).lf = v := by
  obtain rfl | rfl | rfl | rfl | rfl | rfl | rfl : i = 0 ∨ i = 1 ∨ i = 2 ∨ i = 3 ∨ i = 4 ∨ i = 5 ∨ i = 6 := by omega
  all_goals simp [Tab.at, Tab.set_lf, pk7, pt]
theorem at_put_ne (t : Tab) (i j : Int) (c : C) (h0 : 0 ≤ i) (h1 : i < 7) (h2 : 0 ≤ j) (h3 : j < 7) (hne : j ≠ i) : (t.put i c).at j = t.at j := by
  obtain rfl | rfl | rfl | rfl | rfl | rfl | rfl : j = 0 ∨ j = 1 ∨ j = 2 ∨ j = 3 ∨ j = 4 ∨ j = 5 ∨ j = 6 := by omega
  all_goals simp [Tab.at, Tab.put, pk7, pt, hne.symm]
theorem lf_range {t : Tab} (hv : valid t) {i : Int} (h0 : 0 ≤ i) (h1 : i < 7) (hu : (t.at i).u = true) (hg : (t.at i).gr = 0) : 1 ≤ (t.at i).lf ∧ (t.at i).lf ≤ 1073741824 := by
  have h := hv.2.2 i h0 h1
  unfold good at h
  rw [if_pos hu] at h
  have := of_decide_eq_true h.2.2.1
  omega
def js0 (k : Nat) (i e : Int) (b : Bool) (t : Tab) := jobs_Spend.j0 k i e b t.c0.u t.c0.id t.c0.pr t.c0.gr t.c0.sl t.c0.lf t.c1.u t.c1.id t.c1.pr t.c1.gr t.c1.sl t.c1.lf t.c2.u t.c2.id t.c2.pr t.c2.gr t.c2.sl t.c2.lf t.c3.u t.c3.id t.c3.pr t.c3.gr t.c3.sl t.c3.lf t.c4.u t.c4.id t.c4.pr t.c4.gr t.c4.sl t.c4.lf t.c5.u t.c5.id t.c5.pr t.c5.gr t.c5.sl t.c5.lf t.c6.u t.c6.id t.c6.pr t.c6.gr t.c6.sl t.c6.lf t.la
def js1 (k : Nat) (i e : Int) (t : Tab) := jobs_Spend.j1 k i e t.c0.u t.c0.id t.c0.pr t.c0.gr t.c0.sl t.c0.lf t.c1.u t.c1.id t.c1.pr t.c1.gr t.c1.sl t.c1.lf t.c2.u t.c2.id t.c2.pr t.c2.gr t.c2.sl t.c2.lf t.c3.u t.c3.id t.c3.pr t.c3.gr t.c3.sl t.c3.lf t.c4.u t.c4.id t.c4.pr t.c4.gr t.c4.sl t.c4.lf t.c5.u t.c5.id t.c5.pr t.c5.gr t.c5.sl t.c5.lf t.c6.u t.c6.id t.c6.pr t.c6.gr t.c6.sl t.c6.lf t.la
def jSp (k : Nat) (t : Tab) (x : Int) := jobs_Spend.f k t.c0.u t.c0.id t.c0.pr t.c0.gr t.c0.sl t.c0.lf t.c1.u t.c1.id t.c1.pr t.c1.gr t.c1.sl t.c1.lf t.c2.u t.c2.id t.c2.pr t.c2.gr t.c2.sl t.c2.lf t.c3.u t.c3.id t.c3.pr t.c3.gr t.c3.sl t.c3.lf t.c4.u t.c4.id t.c4.pr t.c4.gr t.c4.sl t.c4.lf t.c5.u t.c5.id t.c5.pr t.c5.gr t.c5.sl t.c5.lf t.c6.u t.c6.id t.c6.pr t.c6.gr t.c6.sl t.c6.lf t.la x
def rs1 (k : Nat) (i : Int) (b : Bool) (t : Tab) := periluneref23_Spend.j0 k i b t.c0.u t.c0.id t.c0.pr t.c0.gr t.c0.sl t.c0.lf t.c1.u t.c1.id t.c1.pr t.c1.gr t.c1.sl t.c1.lf t.c2.u t.c2.id t.c2.pr t.c2.gr t.c2.sl t.c2.lf t.c3.u t.c3.id t.c3.pr t.c3.gr t.c3.sl t.c3.lf t.c4.u t.c4.id t.c4.pr t.c4.gr t.c4.sl t.c4.lf t.c5.u t.c5.id t.c5.pr t.c5.gr t.c5.sl t.c5.lf t.c6.u t.c6.id t.c6.pr t.c6.gr t.c6.sl t.c6.lf t.la
def rSp (k : Nat) (t : Tab) (x : Int) := periluneref23_Spend.f k t.c0.u t.c0.id t.c0.pr t.c0.gr t.c0.sl t.c0.lf t.c1.u t.c1.id t.c1.pr t.c1.gr t.c1.sl t.c1.lf t.c2.u t.c2.id t.c2.pr t.c2.gr t.c2.sl t.c2.lf t.c3.u t.c3.id t.c3.pr t.c3.gr t.c3.sl t.c3.lf t.c4.u t.c4.id t.c4.pr t.c4.gr t.c4.sl t.c4.lf t.c5.u t.c5.id t.c5.pr t.c5.gr t.c5.sl t.c5.lf t.c6.u t.c6.id t.c6.pr t.c6.gr t.c6.sl t.c6.lf t.la x
def jEn (k : Nat) (t : Tab) (x : Int) := jobs_End.f k t.c0.u t.c0.id t.c0.pr t.c0.gr t.c0.sl t.c0.lf t.c1.u t.c1.id t.c1.pr t.c1.gr t.c1.sl t.c1.lf t.c2.u t.c2.id t.c2.pr t.c2.gr t.c2.sl t.c2.lf t.c3.u t.c3.id t.c3.pr t.c3.gr t.c3.sl t.c3.lf t.c4.u t.c4.id t.c4.pr t.c4.gr t.c4.sl t.c4.lf t.c5.u t.c5.id t.c5.pr t.c5.gr t.c5.sl t.c5.lf t.c6.u t.c6.id t.c6.pr t.c6.gr t.c6.sl t.c6.lf t.la x
def rEn (k : Nat) (t : Tab) (x : Int) := periluneref23_End.f k t.c0.u t.c0.id t.c0.pr t.c0.gr t.c0.sl t.c0.lf t.c1.u t.c1.id t.c1.pr t.c1.gr t.c1.sl t.c1.lf t.c2.u t.c2.id t.c2.pr t.c2.gr t.c2.sl t.c2.lf t.c3.u t.c3.id t.c3.pr t.c3.gr t.c3.sl t.c3.lf t.c4.u t.c4.id t.c4.pr t.c4.gr t.c4.sl t.c4.lf t.c5.u t.c5.id t.c5.pr t.c5.gr t.c5.sl t.c5.lf t.c6.u t.c6.id t.c6.pr t.c6.gr t.c6.sl t.c6.lf t.la x
def jh0 (k : Nat) (b : Int) (l : List Int) (i : Int) (s t : Tab) := jobs_Shed.l0 k b l i s.c0.u s.c0.id s.c0.pr s.c0.gr s.c0.sl s.c0.lf s.c1.u s.c1.id s.c1.pr s.c1.gr s.c1.sl s.c1.lf s.c2.u s.c2.id s.c2.pr s.c2.gr s.c2.sl s.c2.lf s.c3.u s.c3.id s.c3.pr s.c3.gr s.c3.sl s.c3.lf s.c4.u s.c4.id s.c4.pr s.c4.gr s.c4.sl s.c4.lf s.c5.u s.c5.id s.c5.pr s.c5.gr s.c5.sl s.c5.lf s.c6.u s.c6.id s.c6.pr s.c6.gr s.c6.sl s.c6.lf t.c0.u t.c0.id t.c0.pr t.c0.gr t.c0.sl t.c0.lf t.c1.u t.c1.id t.c1.pr t.c1.gr t.c1.sl t.c1.lf t.c2.u t.c2.id t.c2.pr t.c2.gr t.c2.sl t.c2.lf t.c3.u t.c3.id t.c3.pr t.c3.gr t.c3.sl t.c3.lf t.c4.u t.c4.id t.c4.pr t.c4.gr t.c4.sl t.c4.lf t.c5.u t.c5.id t.c5.pr t.c5.gr t.c5.sl t.c5.lf t.c6.u t.c6.id t.c6.pr t.c6.gr t.c6.sl t.c6.lf t.la
def jSh (k : Nat) (t : Tab) (b : Int) := jobs_Shed.f k t.c0.u t.c0.id t.c0.pr t.c0.gr t.c0.sl t.c0.lf t.c1.u t.c1.id t.c1.pr t.c1.gr t.c1.sl t.c1.lf t.c2.u t.c2.id t.c2.pr t.c2.gr t.c2.sl t.c2.lf t.c3.u t.c3.id t.c3.pr t.c3.gr t.c3.sl t.c3.lf t.c4.u t.c4.id t.c4.pr t.c4.gr t.c4.sl t.c4.lf t.c5.u t.c5.id t.c5.pr t.c5.gr t.c5.sl t.c5.lf t.c6.u t.c6.id t.c6.pr t.c6.gr t.c6.sl t.c6.lf t.la b
def rh0 (k : Nat) (b : Int) (l : List Int) (i : Int) (t : Tab) := periluneref23_Shed.l0 k b l i t.c0.u t.c0.id t.c0.pr t.c0.gr t.c0.sl t.c0.lf t.c1.u t.c1.id t.c1.pr t.c1.gr t.c1.sl t.c1.lf t.c2.u t.c2.id t.c2.pr t.c2.gr t.c2.sl t.c2.lf t.c3.u t.c3.id t.c3.pr t.c3.gr t.c3.sl t.c3.lf t.c4.u t.c4.id t.c4.pr t.c4.gr t.c4.sl t.c4.lf t.c5.u t.c5.id t.c5.pr t.c5.gr t.c5.sl t.c5.lf t.c6.u t.c6.id t.c6.pr t.c6.gr t.c6.sl t.c6.lf t.la
def rSh (k : Nat) (t : Tab) (b : Int) := periluneref23_Shed.f k t.c0.u t.c0.id t.c0.pr t.c0.gr t.c0.sl t.c0.lf t.c1.u t.c1.id t.c1.pr t.c1.gr t.c1.sl t.c1.lf t.c2.u t.c2.id t.c2.pr t.c2.gr t.c2.sl t.c2.lf t.c3.u t.c3.id t.c3.pr t.c3.gr t.c3.sl t.c3.lf t.c4.u t.c4.id t.c4.pr t.c4.gr t.c4.sl t.c4.lf t.c5.u t.c5.id t.c5.pr t.c5.gr t.c5.sl t.c5.lf t.c6.u t.c6.id t.c6.pr t.c6.gr t.c6.sl t.c6.lf t.la b
def lawEnd (k : Nat) (t : Tab) (x b : Int) := perilunelaw23_JobsEnd.f k t.c0.u t.c0.id t.c0.pr t.c0.gr t.c0.sl t.c0.lf t.c1.u t.c1.id t.c1.pr t.c1.gr t.c1.sl t.c1.lf t.c2.u t.c2.id t.c2.pr t.c2.gr t.c2.sl t.c2.lf t.c3.u t.c3.id t.c3.pr t.c3.gr t.c3.sl t.c3.lf t.c4.u t.c4.id t.c4.pr t.c4.gr t.c4.sl t.c4.lf t.c5.u t.c5.id t.c5.pr t.c5.gr t.c5.sl t.c5.lf t.c6.u t.c6.id t.c6.pr t.c6.gr t.c6.sl t.c6.lf t.la x b
theorem js0_succ (k : Nat) (i e : Int) (b : Bool) (t : Tab) : js0 (k + 1) i e b t = if b = true then js1 k i 14 t else js1 k i e t := rfl
theorem js1_succ (k : Nat) (i e : Int) (t : Tab) : js1 (k + 1) i e t = if e = 0 then (if 0 ≤ i then (if i < 7 then (if ((t.set_lf i (wrap64 ((t.at i).lf - 1))).at i).lf = 0 then some (rtS ((t.set_lf i (wrap64 ((t.at i).lf - 1))).put i C0) (((t.set_lf i (wrap64 ((t.at i).lf - 1))).at i).lf == 0) 0) else some (rtS (t.set_lf i (wrap64 ((t.at i).lf - 1))) (((t.set_lf i (wrap64 ((t.at i).lf - 1))).at i).lf == 0) 0)) else none) else none) else some (rtS T0 false e) := rfl
theorem jSp_def (k : Nat) (t : Tab) (x : Int) : jSp k t x = (jf k t x).bind fun r => if r.2 = 0 then (if 0 ≤ r.1 then (if r.1 < 7 then (if (t.at r.1).gr = 0 then js0 k r.1 r.2 (t.at r.1).sl t else js0 k r.1 r.2 true t) else none) else none) else js0 k r.1 r.2 false t := rfl
theorem rs1_succ (k : Nat) (i : Int) (b : Bool) (t : Tab) : rs1 (k + 1) i b t = if b = true then some (rtS T0 false 14) else (if 0 ≤ i then (if i < 7 then (if (t.at i).lf = 1 then some (rtS (t.put i C0) true 0) else some (rtS (t.set_lf i (wrap64 ((t.at i).lf - 1))) false 0)) else none) else none) := rfl
theorem rSp_def (k : Nat) (t : Tab) (x : Int) : rSp k t x = (rV k t).bind fun v => if v = true then ((rs k t x).bind fun i => if i < 0 then some (rtS T0 false 7) else (if 0 ≤ i then (if i < 7 then (if (t.at i).gr = 0 then rs1 k i (t.at i).sl t else rs1 k i true t) else none) else none)) else some (rtS T0 false 2) := rfl
open Classical in
noncomputable def spS (t : Tab) (x : Int) := if valid t then (if 0 ≤ idx t x then (if (t.at (idx t x)).gr = 0 ∧ ¬ (t.at (idx t x)).sl = true then (if (t.at (idx t x)).lf = 1 then rtS (t.put (idx t x) C0) true 0 else rtS (t.set_lf (idx t x) ((t.at (idx t x)).lf - 1)) false 0) else rtS T0 false 14) else rtS T0 false 7) else rtS T0 false 2
theorem jSp_at (t : Tab) (x : Int) (k : Nat) (hk : 102 ≤ k) : jSp k t x = some (spS t x) := by
  obtain ⟨k, rfl⟩ : ∃ q, k = q + 1 := ⟨k - 1, by omega⟩
  obtain ⟨k, rfl⟩ : ∃ q, k = q + 1 := ⟨k - 1, by omega⟩
  rw [jSp_def, jf_at t x (k + 1 + 1) (by omega)]
  unfold spS
  simp only [Option.bind_some]
  by_cases hv : valid t
  · rw [if_pos hv, if_pos hv]
    by_cases hi : 0 ≤ idx t x
    · have hr := idx_range t x
      have hu := (idx_is t x hi).1
      rw [if_pos hi, if_pos hi]
      generalize idx t x = i at hi hr hu ⊢
      rw [if_pos rfl, if_pos hi, if_pos (by omega)]
      by_cases c1 : (t.at i).gr = 0
      · rw [if_pos c1]
        by_cases c2 : (t.at i).sl = true
        · rw [js0_succ, if_pos c2, if_neg (fun h => h.2 c2), js1_succ, if_neg (by decide)]
        · have hl := lf_range hv hi (by omega) hu c1
          rw [js0_succ, if_neg c2, if_pos ⟨c1, c2⟩, js1_succ, if_pos rfl, if_pos hi, if_pos (by omega), wrap_id ((t.at i).lf - 1) (by omega) (by omega), at_set_lf t i _ hi (by omega), put_set]
          by_cases c3 : (t.at i).lf = 1
          · rw [if_pos c3, if_pos (by omega), show ((t.at i).lf - 1 == 0) = true from by simp; omega]
          · rw [if_neg c3, if_neg (by omega), show ((t.at i).lf - 1 == 0) = false from by simp; omega]
      · rw [if_neg c1, if_neg (fun h => c1 h.1), js0_succ, if_pos rfl, js1_succ, if_neg (by decide)]
    · rw [if_neg hi, if_neg hi, if_neg (by decide), js0_succ, if_neg (by decide), js1_succ, if_neg (by decide)]
  · rw [if_neg hv, if_neg hv, if_neg (by decide), js0_succ, if_neg (by decide), js1_succ, if_neg (by decide)]
theorem rSp_at (t : Tab) (x : Int) (k : Nat) (hk : 102 ≤ k) : rSp k t x = some (spS t x) := by
  obtain ⟨k, rfl⟩ : ∃ q, k = q + 1 := ⟨k - 1, by omega⟩
  rw [rSp_def, rV_at t (k + 1) (by omega), rs_at t x (k + 1) (by omega)]
  unfold spS
  simp only [Option.bind_some]
  by_cases hv : valid t
  · rw [if_pos (by simpa using hv), if_pos hv]
    by_cases hi : 0 ≤ idx t x
    · have hr := idx_range t x
      have hu := (idx_is t x hi).1
      rw [if_neg (by omega), if_pos hi, if_pos hi]
      generalize idx t x = i at hi hr hu ⊢
      rw [if_pos (by omega)]
      by_cases c1 : (t.at i).gr = 0
      · rw [if_pos c1, rs1_succ]
        by_cases c2 : (t.at i).sl = true
        · rw [if_pos c2, if_neg (fun h => h.2 c2)]
        · have hl := lf_range hv hi (by omega) hu c1
          rw [if_neg c2, if_pos (show (t.at i).gr = 0 ∧ ¬ (t.at i).sl = true from ⟨c1, c2⟩), if_pos hi, if_pos (show i < 7 by omega), wrap_id ((t.at i).lf - 1) (by omega) (by omega)]
          by_cases c3 : (t.at i).lf = 1
          · rw [if_pos c3, if_pos c3]
          · rw [if_neg c3, if_neg c3]
      · rw [if_neg c1, if_neg (fun h => c1 h.1), rs1_succ, if_pos rfl]
    · rw [if_pos (by omega), if_neg hi]
  · rw [if_neg (by simpa using hv), if_neg hv]
theorem jEn_def (k : Nat) (t : Tab) (x : Int) : jEn k t x = (jf k t x).bind fun r => if r.2 = 0 then (if 0 ≤ r.1 then (if r.1 < 7 then some (rtE (t.put r.1 C0) 0) else none) else none) else some (rtE T0 r.2) := rfl
theorem rEn_def (k : Nat) (t : Tab) (x : Int) : rEn k t x = (rV k t).bind fun v => if v = true then ((rs k t x).bind fun i => if i < 0 then some (rtE T0 7) else (if 0 ≤ i then (if i < 7 then some (rtE (t.put i C0) 0) else none) else none)) else some (rtE T0 2) := rfl
open Classical in
noncomputable def enS (t : Tab) (x : Int) := if valid t then (if 0 ≤ idx t x then rtE (t.put (idx t x) C0) 0 else rtE T0 7) else rtE T0 2
theorem jEn_at (t : Tab) (x : Int) (k : Nat) (hk : 102 ≤ k) : jEn k t x = some (enS t x) := by
  rw [jEn_def, jf_at t x k (by omega)]
  unfold enS
  simp only [Option.bind_some]
  by_cases hv : valid t
  · rw [if_pos hv, if_pos hv]
    by_cases hi : 0 ≤ idx t x
    · have := idx_range t x
      rw [if_pos hi, if_pos hi, if_pos rfl, if_pos hi, if_pos (by omega)]
    · rw [if_neg hi, if_neg hi, if_neg (by decide)]
  · rw [if_neg hv, if_neg hv, if_neg (by decide)]
theorem rEn_at (t : Tab) (x : Int) (k : Nat) (hk : 102 ≤ k) : rEn k t x = some (enS t x) := by
  rw [rEn_def, rV_at t k (by omega), rs_at t x k (by omega)]
  unfold enS
  simp only [Option.bind_some]
  by_cases hv : valid t
  · rw [if_pos (by simpa using hv), if_pos hv]
    by_cases hi : 0 ≤ idx t x
    · have := idx_range t x
      rw [if_neg (by omega), if_pos hi, if_pos hi, if_pos (by omega)]
    · rw [if_pos (by omega), if_neg hi]
  · rw [if_neg (by simpa using hv), if_neg hv]
/-! ### Shed -/
theorem jh0_succ (k : Nat) (b : Int) (l : List Int) (i : Int) (s t : Tab) : jh0 (k + 1) b l i s t = if i < 7 then (if 0 ≤ i then (if (s.at i).u = true then (if (s.at i).gr = 0 then (if (s.at i).pr < b then (if l.length < 17592186044416 then jh0 k b (l ++ [(s.at i).id]) (wrap64 (i + 1)) s (t.put i C0) else none) else jh0 k b l (wrap64 (i + 1)) s t) else jh0 k b l (wrap64 (i + 1)) s t) else jh0 k b l (wrap64 (i + 1)) s t) else none) else some (rtL t l) := rfl
theorem rh0_succ (k : Nat) (b : Int) (l : List Int) (i : Int) (t : Tab) : rh0 (k + 1) b l i t = if i < 7 then (if 0 ≤ i then (if (t.at i).u = true then (if (t.at i).gr = 0 then (if (t.at i).pr < b then (if l.length < 17592186044416 then rh0 k b (l ++ [(t.at i).id]) (wrap64 (i + 1)) (t.put i C0) else none) else rh0 k b l (wrap64 (i + 1)) t) else rh0 k b l (wrap64 (i + 1)) t) else rh0 k b l (wrap64 (i + 1)) t) else none) else some (rtL t l) := rfl
theorem shed_loop (b : Int) (s : Tab) (d : Nat) : ∀ (k : Nat) (i : Int) (l : List Int) (t : Tab), 0 ≤ i → i ≤ 7 → 7 - i = d → d < k → (l.length : Int) ≤ i → (∀ j, i ≤ j → j < 7 → s.at j = t.at j) → ∃ u m, jh0 k b l i s t = some (rtL u m) ∧ rh0 k b l i t = some (rtL u m) ∧ (m.length : Int) ≤ 7 := by
  induction d with
  | zero =>
    intro k i l t h0 h1 hd hk hl hs
    obtain ⟨k, rfl⟩ : ∃ q, k = q + 1 := ⟨k - 1, by omega⟩
    exact ⟨t, l, by rw [jh0_succ, if_neg (by omega)], by rw [rh0_succ, if_neg (by omega)], by omega⟩
  | succ d ih =>
    intro k i l t h0 h1 hd hk hl hs
    obtain ⟨k, rfl⟩ : ∃ q, k = q + 1 := ⟨k - 1, by omega⟩
    have hi := hs i (by omega) (by omega)
    rw [jh0_succ, if_pos (show i < 7 by omega), if_pos h0, rh0_succ, if_pos (show i < 7 by omega), if_pos h0, wrap_id (i + 1) (by omega) (by omega), hi]
    have skip := ih k (i + 1) l t (by omega) (by omega) (by omega) (by omega) (by omega) (fun j j0 j1 => hs j (by omega) j1)
    by_cases c1 : (t.at i).u = true
    · rw [if_pos c1, if_pos c1]
      by_cases c2 : (t.at i).gr = 0
      · rw [if_pos c2, if_pos c2]
        by_cases c3 : (t.at i).pr < b
        · rw [if_pos c3, if_pos c3, if_pos (by omega), if_pos (by omega)]
          exact ih k (i + 1) _ _ (by omega) (by omega) (by omega) (by omega) (by simp; omega) (fun j j0 j1 => by rw [at_put_ne t i j C0 h0 (by omega) (by omega) j1 (by omega)]; exact hs j (by omega) j1)
        · rw [if_neg c3, if_neg c3]
          exact skip
      · rw [if_neg c2, if_neg c2]
        exact skip
    · rw [if_neg c1, if_neg c1]
      exact skip
theorem jSh_def (k : Nat) (t : Tab) (b : Int) : jSh k t b = (jV k t).bind fun v => if v = true then jh0 k b [] 0 t t else some (rtL T0 []) := rfl
theorem rSh_def (k : Nat) (t : Tab) (b : Int) : rSh k t b = (rV k t).bind fun v => if v = true then rh0 k b [] 0 t else some (rtL T0 []) := rfl
theorem shed_at (t : Tab) (b : Int) (k : Nat) (hk : 102 ≤ k) : ∃ u m, jSh k t b = some (rtL u m) ∧ rSh k t b = some (rtL u m) ∧ (m.length : Int) ≤ 7 := by
  rw [jSh_def, rSh_def, jV_at t k (by omega), rV_at t k (by omega)]
  simp only [Option.bind_some]
  by_cases hv : valid t
  · rw [if_pos (by simpa using hv), if_pos (by simpa using hv)]
    exact shed_loop b t 7 k 0 [] t (by omega) (by omega) (by omega) (by omega) (by simp) (fun j _ _ => rfl)
  · rw [if_neg (by simpa using hv), if_neg (by simpa using hv)]
    exact ⟨T0, [], rfl, rfl, by simp⟩
theorem ints_loop (x : List Int) (hl : (x.length : Int) ≤ 7) (d : Nat) : ∀ (k : Nat) (i : Int), 0 ≤ i → i ≤ x.length → (x.length : Int) - i = d → d < k → perilunelaw23_ints.l0 k x x i = some true := by
  induction d with
  | zero =>
    intro k i h0 h1 hd hk
    obtain ⟨k, rfl⟩ : ∃ j, k = j + 1 := ⟨k - 1, by omega⟩
    rw [perilunelaw23_ints.l0, if_neg (by omega)]
  | succ d ih =>
    intro k i h0 h1 hd hk
    obtain ⟨k, rfl⟩ : ∃ j, k = j + 1 := ⟨k - 1, by omega⟩
    rw [perilunelaw23_ints.l0, if_pos (by omega), if_pos h0, if_pos (by omega), if_pos rfl, wrap_id (i + 1) (by omega) (by omega)]
    exact ih k (i + 1) (by omega) (by omega) (by omega) (by omega)
theorem ints_at (x : List Int) (hl : (x.length : Int) ≤ 7) (k : Nat) (hk : 9 ≤ k) : perilunelaw23_ints.f k x x = some true := by
  unfold perilunelaw23_ints.f
  rw [if_pos rfl]
  exact ints_loop x hl x.length k 0 (by omega) (by omega) (by omega) (by omega)
set_option maxHeartbeats 8000000 in
theorem JobsEnd_pure (t : Tab) (x b : Int) : lawEnd 1000 t x b = some true := by
  have h1 := jSp_at t x 1000 (by omega)
  have h2 := rSp_at t x 1000 (by omega)
  have h3 := jEn_at t x 1000 (by omega)
  have h4 := rEn_at t x 1000 (by omega)
  obtain ⟨u, m, h5, h6, hm⟩ := shed_at t b 1000 (by omega)
  have h7 := live_at 1000 (by omega)
  have h8 := ints_at m hm 1000 (by omega)
  unfold jSp at h1
  unfold rSp at h2
  unfold jEn at h3
  unfold rEn at h4
  unfold jSh at h5
  unfold rSh at h6
  generalize spS t x = r1 at h1 h2
  generalize enS t x = r2 at h3 h4
  unfold lawEnd perilunelaw23_JobsEnd.f
  rw [h1, h2, h3, h4, h5, h6]
  dsimp only [Option.bind_some, rtL]
  simp only [beq_self_eq_true, Bool.and_self, Option.bind_some, if_true, h7, h8]
end Go.Proofs.Ytjenkcgjpdappaa.Plain
