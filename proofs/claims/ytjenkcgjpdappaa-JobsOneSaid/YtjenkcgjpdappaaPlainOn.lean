/- Plain facts: a call changes one core set at most; the law JobsOne. No condition. -/
import Derived.Test.YtjenkcgjpdappaaPlainSt
import Derived.Test.YtjenkcgjpdappaaPx32
set_option linter.unusedVariables false
namespace Go.Proofs.Ytjenkcgjpdappaa.Plain
open Go.RowKit Go.Proofs.Ytjenkcgjpdappaa.P Go.Proofs.YtjenkcgjpdappaaW.PrintWords Go.Proofs.YtjenkcgjpdappaaW.PrintLast
def C.eqb (a b : C) : Bool := ((a.u == b.u) && ((a.id == b.id) && ((a.pr == b.pr) && ((a.gr == b.gr) && ((a.sl == b.sl) && (a.lf == b.lf))))))
theorem eqb_iff (a b : C) : a.eqb b = true ↔ a = b := by
  obtain ⟨a1, a2, a3, a4, a5, a6⟩ := a
  obtain ⟨b1, b2, b3, b4, b5, b6⟩ := b
  simp [C.eqb]
def ol0 (k : Nat) (m c i : Int) (t u : Tab) (d x n g l : Int) := perilunelaw23_JobsOne.l0 k m c i t.c0.u t.c0.id t.c0.pr t.c0.gr t.c0.sl t.c0.lf t.c1.u t.c1.id t.c1.pr t.c1.gr t.c1.sl t.c1.lf t.c2.u t.c2.id t.c2.pr t.c2.gr t.c2.sl t.c2.lf t.c3.u t.c3.id t.c3.pr t.c3.gr t.c3.sl t.c3.lf t.c4.u t.c4.id t.c4.pr t.c4.gr t.c4.sl t.c4.lf t.c5.u t.c5.id t.c5.pr t.c5.gr t.c5.sl t.c5.lf t.c6.u t.c6.id t.c6.pr t.c6.gr t.c6.sl t.c6.lf t.la d x n g l u.c0.u u.c0.id u.c0.pr u.c0.gr u.c0.sl u.c0.lf u.c1.u u.c1.id u.c1.pr u.c1.gr u.c1.sl u.c1.lf u.c2.u u.c2.id u.c2.pr u.c2.gr u.c2.sl u.c2.lf u.c3.u u.c3.id u.c3.pr u.c3.gr u.c3.sl u.c3.lf u.c4.u u.c4.id u.c4.pr u.c4.gr u.c4.sl u.c4.lf u.c5.u u.c5.id u.c5.pr u.c5.gr u.c5.sl u.c5.lf u.c6.u u.c6.id u.c6.pr u.c6.gr u.c6.sl u.c6.lf u.la
def oj0 (k : Nat) (b : Bool) (t : Tab) (d x n g l : Int) := perilunelaw23_JobsOne.j0 k b t.c0.u t.c0.id t.c0.pr t.c0.gr t.c0.sl t.c0.lf t.c1.u t.c1.id t.c1.pr t.c1.gr t.c1.sl t.c1.lf t.c2.u t.c2.id t.c2.pr t.c2.gr t.c2.sl t.c2.lf t.c3.u t.c3.id t.c3.pr t.c3.gr t.c3.sl t.c3.lf t.c4.u t.c4.id t.c4.pr t.c4.gr t.c4.sl t.c4.lf t.c5.u t.c5.id t.c5.pr t.c5.gr t.c5.sl t.c5.lf t.c6.u t.c6.id t.c6.pr t.c6.gr t.c6.sl t.c6.lf t.la d x n g l
def lawOne (k : Nat) (t : Tab) (d x n g l : Int) := perilunelaw23_JobsOne.f k t.c0.u t.c0.id t.c0.pr t.c0.gr t.c0.sl t.c0.lf t.c1.u t.c1.id t.c1.pr t.c1.gr t.c1.sl t.c1.lf t.c2.u t.c2.id t.c2.pr t.c2.gr t.c2.sl t.c2.lf t.c3.u t.c3.id t.c3.pr t.c3.gr t.c3.sl t.c3.lf t.c4.u t.c4.id t.c4.pr t.c4.gr t.c4.sl t.c4.lf t.c5.u t.c5.id t.c5.pr t.c5.gr t.c5.sl t.c5.lf t.c6.u t.c6.id t.c6.pr t.c6.gr t.c6.sl t.c6.lf t.la d x n g l
theorem ol0_succ (k : Nat) (m c i : Int) (t u : Tab) (d x n g l : Int) : ol0 (k + 1) m c i t u d x n g l = if i < 7 then (if 0 ≤ i then (if (t.at i).eqb (u.at i) = true then ol0 k m c (wrap64 (i + 1)) t u d x n g l else (if d = 0 then (if (t.at i).u = true then some false else (if (u.at i).id = m then ol0 k m (wrap64 (c + 1)) (wrap64 (i + 1)) t u d x n g l else some false)) else (if (t.at i).id = x then ol0 k m (wrap64 (c + 1)) (wrap64 (i + 1)) t u d x n g l else some false))) else none) else (if c ≤ 1 then (if ((d == 0) == (u.la != t.la)) = true then ((perilunelaw23_live.f k).bind fun e => some e) else some false) else some false) := rfl
theorem ol0_at (m : Int) (t u : Tab) (d x n g l q : Int) (hla : ((d == 0) == (u.la != t.la)) = true) (hf : ∀ j, 0 ≤ j → j < 7 → j ≠ q → t.at j = u.at j) (hq : 0 ≤ q → q < 7 → if d = 0 then ¬ (t.at q).u = true ∧ (u.at q).id = m else (t.at q).id = x)
    (dd : Nat) : ∀ (k : Nat) (i c : Int), 0 ≤ i → i ≤ 7 → 7 - i = dd → dd + 61 < k → (c = 0 ∨ (c = 1 ∧ q < i)) → ol0 k m c i t u d x n g l = some true := by
  induction dd with
  | zero =>
    intro k i c h0 h1 hd hk hc
    obtain ⟨k, rfl⟩ : ∃ q, k = q + 1 := ⟨k - 1, by omega⟩
    rw [ol0_succ, if_neg (by omega), if_pos (by omega), if_pos hla, live_at k (by omega)]
    rfl
  | succ dd ih =>
    intro k i c h0 h1 hd hk hc
    obtain ⟨k, rfl⟩ : ∃ q, k = q + 1 := ⟨k - 1, by omega⟩
    rw [ol0_succ, if_pos (by omega), if_pos h0, wrap_id (i + 1) (by omega) (by omega)]
    by_cases e : (t.at i).eqb (u.at i) = true
    · rw [if_pos e]
      exact ih k (i + 1) c (by omega) (by omega) (by omega) (by omega) (by omega)
    · rw [if_neg e]
      have hi : i = q := Classical.byContradiction fun h => e ((eqb_iff _ _).2 (hf i h0 (by omega) h))
      have hc0 : c = 0 := by omega
      have nx := ih k (i + 1) (c + 1) (by omega) (by omega) (by omega) (by omega) (by omega)
      rw [wrap_id (c + 1) (by omega) (by omega)]
      have hh := hq (by omega) (by omega)
      rw [← hi] at hh
      by_cases h : d = 0
      · rw [if_pos h] at hh ⊢
        rw [if_neg hh.1, if_pos hh.2]
        exact nx
      · rw [if_neg h] at hh ⊢
        rw [if_pos hh]
        exact nx
theorem oj0_succ (k : Nat) (b : Bool) (t : Tab) (d x n g l : Int) : oj0 (k + 1) b t d x n g l = if b = true then ((perilunelaw23_live.f k).bind fun e => some e) else ((stp k t d x n g l).bind fun r => if errQ r = 0 then ol0 k (numQ r) 0 0 t (tabQ r) d x n g l else ((perilunelaw23_live.f k).bind fun e => some e)) := rfl
theorem oj0_true (k : Nat) (t : Tab) (d x n g l : Int) (hk : 60 ≤ k) : oj0 (k + 1) true t d x n g l = some true := by
  rw [oj0_succ, if_pos rfl, live_at k hk]
  rfl
theorem oj0_err (k : Nat) (t : Tab) (d x n g l e : Int) (v : Tab) (m : Int) (hk : 60 ≤ k) (he : e ≠ 0) (h : stp k t d x n g l = some (rtQ v m e)) : oj0 (k + 1) false t d x n g l = some true := by
  rw [oj0_succ, if_neg (by decide), h, Option.bind_some, errQ_rt, if_neg he, live_at k hk]
  rfl
theorem oj0_ok (k : Nat) (t : Tab) (d x n g l : Int) (u : Tab) (m : Int) (h : stp k t d x n g l = some (rtQ u m 0)) : oj0 (k + 1) false t d x n g l = ol0 k m 0 0 t u d x n g l := by
  rw [oj0_succ, if_neg (by decide), h, Option.bind_some, errQ_rt, if_pos rfl, numQ_rt, tabQ_rt]
theorem lawOne_def (k : Nat) (t : Tab) (d x n g l : Int) : lawOne k t d x n g l = (rV k t).bind fun v => if v = true then (if d < 0 then oj0 k true t d x n g l else oj0 k (decide (d > 5)) t d x n g l) else oj0 k true t d x n g l := rfl
theorem JobsOne_pure (t : Tab) (d x n g l : Int) : lawOne 1000 t d x n g l = some true := by
  rw [lawOne_def, rV_at t 1000 (by omega)]
  simp only [Option.bind_some]
  by_cases hv : valid t
  · rw [if_pos (by simpa using hv)]
    by_cases hd : d < 0
    · rw [if_pos hd]; exact oj0_true 999 t d x n g l (by omega)
    rw [if_neg hd]
    by_cases h5 : d > 5
    · rw [decide_eq_true h5]; exact oj0_true 999 t d x n g l (by omega)
    rw [decide_eq_false h5]
    by_cases h0 : d = 0
    · subst h0
      have hs := stp_rq 999 t x n g l _ (jRq_at t n g l 999 (by omega))
      rcases rqT_is t n g l with ⟨e, he, hr⟩ | ⟨-, -, -, hla, q, q0, q7, hu, hr⟩
      · rw [hr] at hs; exact oj0_err 999 t 0 x n g l e T0 0 (by omega) he hs
      · rw [hr] at hs
        rw [oj0_ok 999 t 0 x n g l _ _ hs]
        refine ol0_at (t.la + 1) t _ 0 x n g l q ?_ (fun j j0 j1 hj => ?_) (fun _ _ => ?_) 7 999 0 0 (by omega) (by omega) (by omega) (by omega) (.inl rfl)
        · show ((0 == 0 : Bool) == (t.la + 1 != t.la)) = true
          rw [show (t.la + 1 != t.la) = true from by rw [bne_iff_ne]; omega]
          rfl
        · rw [new_at t q n g l _ j q0 q7 j0 j1, if_neg hj]
        · rw [if_pos rfl, new_at t q n g l _ q q0 q7 q0 q7, if_pos rfl]
          exact ⟨hu, rfl⟩
    · rcases stp_mid t d x n g l 999 (by omega) (by omega) (by omega) with ⟨e, he, hs⟩ | ⟨-, u, q, hs, hc⟩
      · exact oj0_err 999 t d x n g l e T0 0 (by omega) he hs
      · rw [oj0_ok 999 t d x n g l u 0 hs]
        refine ol0_at 0 t u d x n g l q ?_ (fun j j0 j1 hj => (hc.far j j0 j1 hj).symm) (fun _ _ => by rw [if_neg h0]; exact hc.ix) 7 999 0 0 (by omega) (by omega) (by omega) (by omega) (.inl rfl)
        rw [hc.la, show (d == 0) = false from by simpa using h0, show (t.la != t.la) = false from by simp]
        rfl
  · rw [if_neg (by simpa using hv)]; exact oj0_true 999 t d x n g l (by omega)
end Go.Proofs.Ytjenkcgjpdappaa.Plain
