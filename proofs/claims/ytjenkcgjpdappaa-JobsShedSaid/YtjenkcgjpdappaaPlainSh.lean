/- Plain facts on what Shed of package jobs answers; the law JobsShed. No condition. -/
import Derived.Test.YtjenkcgjpdappaaPlainJ
import Derived.Test.YtjenkcgjpdappaaPx9
import Derived.Test.YtjenkcgjpdappaaPx24
import Derived.Test.YtjenkcgjpdappaaPx34
set_option linter.unusedVariables false
namespace Go.Proofs.Ytjenkcgjpdappaa.Plain
open Go.RowKit Go.Proofs.Ytjenkcgjpdappaa.P Go.Proofs.YtjenkcgjpdappaaW.PrintWords Go.Proofs.YtjenkcgjpdappaaW.PrintLast
theorem live_at (k : Nat) (hk : 60 ≤ k) : perilunelaw23_live.f k = some true := at_rounds (g := fun k => perilunelaw23_live.f k) (fun k => perilunelaw23_live.mono k) hk (by decide +kernel)
def T0 : Tab := ⟨C0, C0, C0, C0, C0, C0, C0, 0⟩
def rtL (t : Tab) (l : List Int) : Bool × Int × Int × Int × Bool × Int × Bool × Int × Int × Int × Bool × Int × Bool × Int × Int × Int × Bool × Int × Bool × Int × Int × Int × Bool × Int × Bool × Int × Int × Int × Bool × Int × Bool × Int × Int × Int × Bool × Int × Bool × Int × Int × Int × Bool × Int × Int × List Int := (t.c0.u, t.c0.id, t.c0.pr, t.c0.gr, t.c0.sl, t.c0.lf, t.c1.u, t.c1.id, t.c1.pr, t.c1.gr, t.c1.sl, t.c1.lf, t.c2.u, t.c2.id, t.c2.pr, t.c2.gr, t.c2.sl, t.c2.lf, t.c3.u, t.c3.id, t.c3.pr, t.c3.gr, t.c3.sl, t.c3.lf, t.c4.u, t.c4.id, t.c4.pr, t.c4.gr, t.c4.sl, t.c4.lf, t.c5.u, t.c5.id, t.c5.pr, t.c5.gr, t.c5.sl, t.c5.lf, t.c6.u, t.c6.id, t.c6.pr, t.c6.gr, t.c6.sl, t.c6.lf, t.la, l)
def Tab.put (t : Tab) (i : Int) (c : C) : Tab := ⟨⟨pt 0 i c.u t.c0.u, pt 0 i c.id t.c0.id, pt 0 i c.pr t.c0.pr, pt 0 i c.gr t.c0.gr, pt 0 i c.sl t.c0.sl, pt 0 i c.lf t.c0.lf⟩, ⟨pt 1 i c.u t.c1.u, pt 1 i c.id t.c1.id, pt 1 i c.pr t.c1.pr, pt 1 i c.gr t.c1.gr, pt 1 i c.sl t.c1.sl, pt 1 i c.lf t.c1.lf⟩, ⟨pt 2 i c.u t.c2.u, pt 2 i c.id t.c2.id, pt 2 i c.pr t.c2.pr, pt 2 i c.gr t.c2.gr, pt 2 i c.sl t.c2.sl, pt 2 i c.lf t.c2.lf⟩, ⟨pt 3 i c.u t.c3.u, pt 3 i c.id t.c3.id, pt 3 i c.pr t.c3.pr, pt 3 i c.gr t.c3.gr, pt 3 i c.sl t.c3.sl, pt 3 i c.lf t.c3.lf⟩, ⟨pt 4 i c.u t.c4.u, pt 4 i c.id t.c4.id, pt 4 i c.pr t.c4.pr, pt 4 i c.gr t.c4.gr, pt 4 i c.sl t.c4.sl, pt 4 i c.lf t.c4.lf⟩, ⟨pt 5 i c.u t.c5.u, pt 5 i c.id t.c5.id, pt 5 i c.pr t.c5.pr, pt 5 i c.gr t.c5.gr, pt 5 i c.sl t.c5.sl, pt 5 i c.lf t.c5.lf⟩, ⟨pt 6 i c.u t.c6.u, pt 6 i c.id t.c6.id, pt 6 i c.pr t.c6.pr, pt 6 i c.gr t.c6.gr, pt 6 i c.sl t.c6.sl, pt 6 i c.lf t.c6.lf⟩, t.la⟩
def jh0 (k : Nat) (b : Int) (l : List Int) (i : Int) (s t : Tab) := jobs_Shed.l0 k b l i s.c0.u s.c0.id s.c0.pr s.c0.gr s.c0.sl s.c0.lf s.c1.u s.c1.id s.c1.pr s.c1.gr s.c1.sl s.c1.lf s.c2.u s.c2.id s.c2.pr s.c2.gr s.c2.sl s.c2.lf s.c3.u s.c3.id s.c3.pr s.c3.gr s.c3.sl s.c3.lf s.c4.u s.c4.id s.c4.pr s.c4.gr s.c4.sl s.c4.lf s.c5.u s.c5.id s.c5.pr s.c5.gr s.c5.sl s.c5.lf s.c6.u s.c6.id s.c6.pr s.c6.gr s.c6.sl s.c6.lf t.c0.u t.c0.id t.c0.pr t.c0.gr t.c0.sl t.c0.lf t.c1.u t.c1.id t.c1.pr t.c1.gr t.c1.sl t.c1.lf t.c2.u t.c2.id t.c2.pr t.c2.gr t.c2.sl t.c2.lf t.c3.u t.c3.id t.c3.pr t.c3.gr t.c3.sl t.c3.lf t.c4.u t.c4.id t.c4.pr t.c4.gr t.c4.sl t.c4.lf t.c5.u t.c5.id t.c5.pr t.c5.gr t.c5.sl t.c5.lf t.c6.u t.c6.id t.c6.pr t.c6.gr t.c6.sl t.c6.lf t.la
def jSh (k : Nat) (t : Tab) (b : Int) := jobs_Shed.f k t.c0.u t.c0.id t.c0.pr t.c0.gr t.c0.sl t.c0.lf t.c1.u t.c1.id t.c1.pr t.c1.gr t.c1.sl t.c1.lf t.c2.u t.c2.id t.c2.pr t.c2.gr t.c2.sl t.c2.lf t.c3.u t.c3.id t.c3.pr t.c3.gr t.c3.sl t.c3.lf t.c4.u t.c4.id t.c4.pr t.c4.gr t.c4.sl t.c4.lf t.c5.u t.c5.id t.c5.pr t.c5.gr t.c5.sl t.c5.lf t.c6.u t.c6.id t.c6.pr t.c6.gr t.c6.sl t.c6.lf t.la b
def hl0 (k : Nat) (b : Int) (m : List Int) (n i : Int) (t u : Tab) := perilunelaw23_JobsShed.l0 k b m n i t.c0.u t.c0.id t.c0.pr t.c0.gr t.c0.sl t.c0.lf t.c1.u t.c1.id t.c1.pr t.c1.gr t.c1.sl t.c1.lf t.c2.u t.c2.id t.c2.pr t.c2.gr t.c2.sl t.c2.lf t.c3.u t.c3.id t.c3.pr t.c3.gr t.c3.sl t.c3.lf t.c4.u t.c4.id t.c4.pr t.c4.gr t.c4.sl t.c4.lf t.c5.u t.c5.id t.c5.pr t.c5.gr t.c5.sl t.c5.lf t.c6.u t.c6.id t.c6.pr t.c6.gr t.c6.sl t.c6.lf t.la u.c0.u u.c0.id u.c0.pr u.c0.gr u.c0.sl u.c0.lf u.c1.u u.c1.id u.c1.pr u.c1.gr u.c1.sl u.c1.lf u.c2.u u.c2.id u.c2.pr u.c2.gr u.c2.sl u.c2.lf u.c3.u u.c3.id u.c3.pr u.c3.gr u.c3.sl u.c3.lf u.c4.u u.c4.id u.c4.pr u.c4.gr u.c4.sl u.c4.lf u.c5.u u.c5.id u.c5.pr u.c5.gr u.c5.sl u.c5.lf u.c6.u u.c6.id u.c6.pr u.c6.gr u.c6.sl u.c6.lf u.la
def hj1 (k : Nat) (b : Int) (m : List Int) (n i : Int) (y : Bool) (t u : Tab) (c : C) := perilunelaw23_JobsShed.j1 k b m n i y t.c0.u t.c0.id t.c0.pr t.c0.gr t.c0.sl t.c0.lf t.c1.u t.c1.id t.c1.pr t.c1.gr t.c1.sl t.c1.lf t.c2.u t.c2.id t.c2.pr t.c2.gr t.c2.sl t.c2.lf t.c3.u t.c3.id t.c3.pr t.c3.gr t.c3.sl t.c3.lf t.c4.u t.c4.id t.c4.pr t.c4.gr t.c4.sl t.c4.lf t.c5.u t.c5.id t.c5.pr t.c5.gr t.c5.sl t.c5.lf t.c6.u t.c6.id t.c6.pr t.c6.gr t.c6.sl t.c6.lf t.la u.c0.u u.c0.id u.c0.pr u.c0.gr u.c0.sl u.c0.lf u.c1.u u.c1.id u.c1.pr u.c1.gr u.c1.sl u.c1.lf u.c2.u u.c2.id u.c2.pr u.c2.gr u.c2.sl u.c2.lf u.c3.u u.c3.id u.c3.pr u.c3.gr u.c3.sl u.c3.lf u.c4.u u.c4.id u.c4.pr u.c4.gr u.c4.sl u.c4.lf u.c5.u u.c5.id u.c5.pr u.c5.gr u.c5.sl u.c5.lf u.c6.u u.c6.id u.c6.pr u.c6.gr u.c6.sl u.c6.lf u.la c.u c.id c.pr c.gr c.sl c.lf
def lawShed (k : Nat) (t : Tab) (b : Int) := perilunelaw23_JobsShed.f k t.c0.u t.c0.id t.c0.pr t.c0.gr t.c0.sl t.c0.lf t.c1.u t.c1.id t.c1.pr t.c1.gr t.c1.sl t.c1.lf t.c2.u t.c2.id t.c2.pr t.c2.gr t.c2.sl t.c2.lf t.c3.u t.c3.id t.c3.pr t.c3.gr t.c3.sl t.c3.lf t.c4.u t.c4.id t.c4.pr t.c4.gr t.c4.sl t.c4.lf t.c5.u t.c5.id t.c5.pr t.c5.gr t.c5.sl t.c5.lf t.c6.u t.c6.id t.c6.pr t.c6.gr t.c6.sl t.c6.lf t.la b
def C.neb (c d : C) : Bool := !(c.u == d.u) || (!(c.id == d.id) || (!(c.pr == d.pr) || (!(c.gr == d.gr) || (!(c.sl == d.sl) || (!(c.lf == d.lf))))))
theorem at_put_ne (t : Tab) (i j : Int) (c : C) (h0 : 0 ≤ i) (h1 : i < 7) (h2 : 0 ≤ j) (h3 : j < 7) (hne : j ≠ i) : (t.put i c).at j = t.at j := by
  obtain rfl | rfl | rfl | rfl | rfl | rfl | rfl : j = 0 ∨ j = 1 ∨ j = 2 ∨ j = 3 ∨ j = 4 ∨ j = 5 ∨ j = 6 := by omega
  all_goals simp [Tab.at, Tab.put, pk7, pt, hne.symm]
theorem at_put_eq (t : Tab) (i : Int) (c : C) (h0 : 0 ≤ i) (h1 : i < 7) : (t.put i c).at i = c := by
  obtain rfl | rfl | rfl | rfl | rfl | rfl | rfl : i = 0 ∨ i = 1 ∨ i = 2 ∨ i = 3 ∨ i = 4 ∨ i = 5 ∨ i = 6 := by omega
  all_goals simp [Tab.at, Tab.put, pk7, pt]
def gone (t : Tab) (b j : Int) : Prop := (t.at j).u = true ∧ (t.at j).gr = 0 ∧ (t.at j).pr < b
instance (t : Tab) (b j : Int) : Decidable (gone t b j) := by unfold gone; infer_instance
def goneL (t : Tab) (b : Int) : Nat → Int → List Int
  | 0, _ => []
  | d + 1, i => if gone t b i then (t.at i).id :: goneL t b d (i + 1) else goneL t b d (i + 1)
theorem jh0_succ (k : Nat) (b : Int) (l : List Int) (i : Int) (s t : Tab) : jh0 (k + 1) b l i s t = if i < 7 then (if 0 ≤ i then (if (s.at i).u = true then (if (s.at i).gr = 0 then (if (s.at i).pr < b then (if l.length < 17592186044416 then jh0 k b (l ++ [(s.at i).id]) (wrap64 (i + 1)) s (t.put i C0) else none) else jh0 k b l (wrap64 (i + 1)) s t) else jh0 k b l (wrap64 (i + 1)) s t) else jh0 k b l (wrap64 (i + 1)) s t) else none) else some (rtL t l) := rfl
theorem jh0_at (b : Int) (s : Tab) (d : Nat) : ∀ (k : Nat) (i : Int) (l : List Int) (t : Tab), 0 ≤ i → i ≤ 7 → 7 - i = d → d < k → (l.length : Int) ≤ i → ∃ u : Tab, jh0 k b l i s t = some (rtL u (l ++ goneL s b d i)) ∧ u.la = t.la ∧ ∀ j, 0 ≤ j → j < 7 → u.at j = if i ≤ j ∧ gone s b j then C0 else t.at j := by
  induction d with
  | zero =>
    intro k i l t h0 h1 hd hk hl
    obtain ⟨k, rfl⟩ : ∃ q, k = q + 1 := ⟨k - 1, by omega⟩
    refine ⟨t, by rw [jh0_succ, if_neg (by omega), goneL, List.append_nil], rfl, fun j j0 j1 => ?_⟩
    rw [if_neg (by omega)]
  | succ d ih =>
    intro k i l t h0 h1 hd hk hl
    obtain ⟨k, rfl⟩ : ∃ q, k = q + 1 := ⟨k - 1, by omega⟩
    rw [jh0_succ, if_pos (show i < 7 by omega), if_pos h0, wrap_id (i + 1) (by omega) (by omega), goneL]
    by_cases c : gone s b i
    · rw [if_pos c.1, if_pos c.2.1, if_pos c.2.2, if_pos (show l.length < 17592186044416 by omega), if_pos c]
      obtain ⟨u, e, ela, eu⟩ := ih k (i + 1) (l ++ [(s.at i).id]) (t.put i C0) (by omega) (by omega) (by omega) (by omega) (by simp; omega)
      refine ⟨u, by rw [e, List.append_assoc]; rfl, ela, fun j j0 j1 => ?_⟩
      rw [eu j j0 j1]
      by_cases ej : j = i
      · rw [if_neg (by omega), ej, at_put_eq t i C0 h0 (by omega), if_pos ⟨Int.le_refl _, c⟩]
      · rw [at_put_ne t i j C0 h0 (by omega) j0 j1 ej]
        by_cases c2 : i + 1 ≤ j ∧ gone s b j
        · rw [if_pos c2, if_pos ⟨by omega, c2.2⟩]
        · rw [if_neg c2, if_neg (fun h => c2 ⟨by omega, h.2⟩)]
    · rw [if_neg c]
      obtain ⟨u, e, ela, eu⟩ := ih k (i + 1) l t (by omega) (by omega) (by omega) (by omega) (by omega)
      refine ⟨u, ?_, ela, fun j j0 j1 => ?_⟩
      · by_cases c1 : (s.at i).u = true
        · rw [if_pos c1]
          by_cases c2 : (s.at i).gr = 0
          · rw [if_pos c2, if_neg (fun h => c ⟨c1, c2, h⟩), e]
          · rw [if_neg c2, e]
        · rw [if_neg c1, e]
      · rw [eu j j0 j1]
        by_cases c2 : i + 1 ≤ j ∧ gone s b j
        · rw [if_pos c2, if_pos ⟨by omega, c2.2⟩]
        · rw [if_neg c2, if_neg (fun h => c2 ⟨by
            by_cases ej : j = i
            · rw [ej] at h; exact absurd h.2 c
            · omega, h.2⟩)]
theorem jSh_def (k : Nat) (t : Tab) (b : Int) : jSh k t b = (jV k t).bind fun v => if v = true then jh0 k b [] 0 t t else some (rtL T0 []) := rfl
theorem hl0_succ (k : Nat) (b : Int) (m : List Int) (n i : Int) (t u : Tab) : hl0 (k + 1) b m n i t u = if i < 7 then (if 0 ≤ i then (if (t.at i).u = true then (if (t.at i).gr = 0 then hj1 k b m n i (decide ((t.at i).pr ≥ b)) t u (t.at i) else hj1 k b m n i true t u (t.at i)) else hj1 k b m n i true t u (t.at i)) else none) else (if n = (m.length : Int) then (if u.la = t.la then ((perilunelaw23_live.f k).bind fun b => some b) else some false) else some false) := rfl
theorem hj1_succ (k : Nat) (b : Int) (m : List Int) (n i : Int) (y : Bool) (t u : Tab) (c : C) : hj1 (k + 1) b m n i y t u c = if y = true then (if 0 ≤ i then (if i < 7 then (if ((u.at i).neb c) = true then some false else hl0 k b m n (wrap64 (i + 1)) t u) else none) else none) else (if 0 ≤ i then (if i < 7 then (if (u.at i).nz = true then some false else (if n ≥ (m.length : Int) then some false else (if 0 ≤ n then (if n < (m.length : Int) then (if (rd m n) = c.id then hl0 k b m (wrap64 (n + 1)) (wrap64 (i + 1)) t u else some false) else none) else none))) else none) else none) := rfl
theorem rd_mid (p r : List Int) (x : Int) : rd (p ++ x :: r) (p.length : Int) = x := by
  unfold rd
  simp
theorem law_loop (t u : Tab) (b : Int) (hla : u.la = t.la) (hu : ∀ j, 0 ≤ j → j < 7 → u.at j = if gone t b j then C0 else t.at j) (d : Nat) : ∀ (k : Nat) (i : Int) (p : List Int), 0 ≤ i → i ≤ 7 → 7 - i = d → 2 * d + 61 ≤ k → (p.length : Int) ≤ i → hl0 k b (p ++ goneL t b d i) (p.length : Int) i t u = some true := by
  induction d with
  | zero =>
    intro k i p h0 h1 hd hk hp
    obtain ⟨k, rfl⟩ : ∃ q, k = q + 1 := ⟨k - 1, by omega⟩
    rw [hl0_succ, if_neg (by omega), goneL, List.append_nil, if_pos rfl, if_pos hla, live_at k (by omega)]
    rfl
  | succ d ih =>
    intro k i p h0 h1 hd hk hp
    obtain ⟨k, rfl⟩ : ∃ q, k = q + 1 := ⟨k - 1, by omega⟩
    obtain ⟨k, rfl⟩ : ∃ q, k = q + 1 := ⟨k - 1, by omega⟩
    rw [hl0_succ, if_pos (show i < 7 by omega), if_pos h0, goneL]
    have hi := hu i h0 (by omega)
    by_cases c : gone t b i
    · rw [if_pos c] at hi ⊢
      rw [if_pos c.1, if_pos c.2.1, show decide ((t.at i).pr ≥ b) = false from decide_eq_false (by have := c.2.2; omega), hj1_succ, if_neg (by decide), if_pos h0, if_pos (show i < 7 by omega), hi, if_neg (by decide), rd_mid, if_neg (show ¬ (p.length : Int) ≥ ((p ++ (t.at i).id :: goneL t b d (i + 1)).length : Int) by simp; omega), if_pos (by omega), if_pos (show (p.length : Int) < ((p ++ (t.at i).id :: goneL t b d (i + 1)).length : Int) by simp; omega), if_pos rfl, wrap_id (i + 1) (by omega) (by omega), wrap_id ((p.length : Int) + 1) (by omega) (by omega)]
      have := ih k (i + 1) (p ++ [(t.at i).id]) (by omega) (by omega) (by omega) (by omega) (by simp; omega)
      simpa using this
    · rw [if_neg c] at hi ⊢
      have fin : hj1 (k + 1) b (p ++ goneL t b d (i + 1)) (p.length : Int) i true t u (t.at i) = some true := by
        rw [hj1_succ, if_pos rfl, if_pos h0, if_pos (show i < 7 by omega), hi, if_neg (by simp [C.neb]), wrap_id (i + 1) (by omega) (by omega)]
        exact ih k (i + 1) p (by omega) (by omega) (by omega) (by omega) (by omega)
      by_cases c1 : (t.at i).u = true
      · rw [if_pos c1]
        by_cases c2 : (t.at i).gr = 0
        · rw [if_pos c2, show decide ((t.at i).pr ≥ b) = true from decide_eq_true (by
            by_cases c3 : (t.at i).pr < b
            · exact absurd ⟨c1, c2, c3⟩ c
            · omega), fin]
        · rw [if_neg c2, fin]
      · rw [if_neg c1, fin]
theorem lawShed_go (k : Nat) (t u : Tab) (b : Int) (m : List Int) (hv : rV k t = some true) (h : jSh k t b = some (rtL u m)) : lawShed k t b = hl0 k b m 0 0 t u := by
  unfold rV at hv
  unfold jSh at h
  unfold lawShed perilunelaw23_JobsShed.f
  rw [hv]
  show (jobs_Shed.f _ _ _ _ _ _ _ _ _ _ _ _ _ _ _ _ _ _ _ _ _ _ _ _ _ _ _ _ _ _ _ _ _ _ _ _ _ _ _ _ _ _ _ _ _).bind _ = _
  rw [h]
  rfl
theorem JobsShed_pure (t : Tab) (b : Int) : lawShed 1000 t b = some true := by
  have h1 := rV_at t 1000 (by omega)
  by_cases hv : valid t
  · have h2 : rV 1000 t = some true := by rw [h1]; simp [hv]
    obtain ⟨u, e, ela, eu⟩ := jh0_at b t 7 1000 0 [] t (by omega) (by omega) (by omega) (by omega) (by simp)
    have h3 : jSh 1000 t b = some (rtL u ([] ++ goneL t b 7 0)) := by
      rw [jSh_def, jV_at t 1000 (by omega)]
      simp only [Option.bind_some]
      rw [if_pos (by simpa using hv), e]
    rw [lawShed_go 1000 t u b _ h2 h3]
    exact law_loop t u b ela (fun j j0 j1 => by
      rw [eu j j0 j1]
      by_cases c : gone t b j
      · rw [if_pos ⟨j0, c⟩, if_pos c]
      · rw [if_neg (fun h => c h.2), if_neg c]) 7 1000 0 [] (by omega) (by omega) (by omega) (by omega) (by simp)
  · have h2 : rV 1000 t = some false := by rw [h1]; simp [hv]
    unfold rV at h2
    unfold lawShed perilunelaw23_JobsShed.f
    rw [h2]
    show ((perilunelaw23_live.f 1000).bind fun b => some b) = some true
    rw [live_at 1000 (by omega)]
    rfl
end Go.Proofs.Ytjenkcgjpdappaa.Plain
