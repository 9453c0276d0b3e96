/- Plain facts: every call of a script keeps the table valid, and ids are given in order; the law JobsIds. No condition. -/
import Derived.Test.YtjenkcgjpdappaaPlainSt
import Derived.Test.YtjenkcgjpdappaaPx31
set_option linter.unusedVariables false
namespace Go.Proofs.Ytjenkcgjpdappaa.Plain
open Go.RowKit Go.Proofs.Ytjenkcgjpdappaa.P Go.Proofs.YtjenkcgjpdappaaW.PrintWords Go.Proofs.YtjenkcgjpdappaaW.PrintLast
theorem chg_valid {t u : Tab} {x q : Int} (hv : valid t) (hc : Chg t u x q) : valid u := by
  obtain ⟨q0, q7, us, ix, la, far, now⟩ := hc
  refine ⟨by rw [la]; exact hv.1, by rw [la]; exact hv.2.1, fun j j0 j1 => ?_⟩
  have hj := hv.2.2 j j0 j1
  unfold good at hj ⊢
  by_cases e : j = q
  · subst e
    rw [if_pos us] at hj
    rcases now with h | ⟨n1, n2, n3, n4⟩
    · rw [h, if_neg (by decide)]
    · rw [if_pos n1, n2, n3, la]
      refine ⟨hj.1, hj.2.1, by rw [← n3]; exact n4, fun k k0 k1 k2 => ?_⟩
      rw [far k k0 (by omega) (by omega)] at k2 ⊢
      exact hj.2.2.2 k k0 k1 k2
  · rw [far j j0 j1 e]
    by_cases c : (t.at j).u = true
    · rw [if_pos c] at hj ⊢
      refine ⟨hj.1, by rw [la]; exact hj.2.1, hj.2.2.1, fun k k0 k1 k2 => ?_⟩
      by_cases e2 : k = q
      · subst e2
        rcases now with h | ⟨n1, n2, n3, n4⟩
        · rw [h] at k2; exact absurd k2 (by decide)
        · rw [n2, n3]
          exact hj.2.2.2 k k0 k1 us
      · rw [far k k0 (by omega) e2] at k2 ⊢
        exact hj.2.2.2 k k0 k1 k2
    · rw [if_neg c] at hj ⊢
      exact hj
theorem put_chg {t : Tab} {i : Int} (h0 : 0 ≤ i) (h1 : i < 7) (hu : (t.at i).u = true) : Chg t (t.put i C0) (t.at i).id i :=
  ⟨h0, h1, hu, rfl, rfl, fun j j0 j1 hj => by rw [at_put t i j C0 h0 h1 j0 j1, if_neg hj], .inl (by rw [at_put t i i C0 h0 h1 h0 h1, if_pos rfl])⟩
theorem new_valid {t : Tab} (hv : valid t) {i p g l : Int} (h0 : 0 ≤ i) (h1 : i < 7) (hl : t.la < 1073741824) (hf : fitsS p g l = true) (hd : ¬ dup t g 0) : valid (newT t i p g l (t.la + 1)) := by
  refine ⟨show 0 ≤ t.la + 1 from by have := hv.1; omega, show t.la + 1 ≤ 1073741824 from by omega, fun j j0 j1 => ?_⟩
  have hj := hv.2.2 j j0 j1
  unfold good at hj ⊢
  rw [new_at t i p g l _ j h0 h1 j0 j1]
  by_cases e : j = i
  · rw [if_pos e, if_pos rfl]
    refine ⟨show 1 ≤ t.la + 1 from by have := hv.1; omega, Int.le_refl _, hf, fun k k0 k1 k2 => ?_⟩
    rw [new_at t i p g l _ k h0 h1 k0 (by omega), if_neg (by omega)] at k2 ⊢
    have hk := hv.2.2 k k0 (by omega)
    unfold good at hk
    rw [if_pos k2] at hk
    exact ⟨show (t.at k).id ≠ t.la + 1 from by omega, fun h => hd ⟨k, k0, by omega, k2, h.2, h.1⟩⟩
  · rw [if_neg e]
    by_cases c : (t.at j).u = true
    · rw [if_pos c] at hj ⊢
      refine ⟨hj.1, show (t.at j).id ≤ t.la + 1 from by omega, hj.2.2.1, fun k k0 k1 k2 => ?_⟩
      rw [new_at t i p g l _ k h0 h1 k0 (by omega)] at k2 ⊢
      by_cases e2 : k = i
      · rw [if_pos e2]
        refine ⟨show t.la + 1 ≠ (t.at j).id from by omega, fun h => hd ⟨j, j0, j1, c, ?_, h.1.symm⟩⟩
        have hg : g = (t.at j).gr := h.1
        rw [hg]; exact h.2
      · rw [if_neg e2] at k2 ⊢
        exact hj.2.2.2 k k0 k1 k2
    · rw [if_neg c] at hj ⊢
      exact hj
theorem shed_valid (b : Int) (s : Tab) (d : Nat) : ∀ (k : Nat) (i : Int) (l : List Int) (t : Tab), 0 ≤ i → i ≤ 7 → 7 - i = d → d < k → (l.length : Int) ≤ i → (∀ j, i ≤ j → j < 7 → s.at j = t.at j) → valid t → ∃ u m, jh0 k b l i s t = some (rtL u m) ∧ valid u ∧ u.la = t.la := by
  induction d with
  | zero =>
    intro k i l t h0 h1 hd hk hl hs hv
    obtain ⟨k, rfl⟩ : ∃ q, k = q + 1 := ⟨k - 1, by omega⟩
    exact ⟨t, l, by rw [jh0_succ, if_neg (by omega)], hv, rfl⟩
  | succ d ih =>
    intro k i l t h0 h1 hd hk hl hs hv
    obtain ⟨k, rfl⟩ : ∃ q, k = q + 1 := ⟨k - 1, by omega⟩
    have hi := hs i (by omega) (by omega)
    rw [jh0_succ, if_pos (show i < 7 by omega), if_pos h0, wrap_id (i + 1) (by omega) (by omega), hi]
    have skip := ih k (i + 1) l t (by omega) (by omega) (by omega) (by omega) (by omega) (fun j j0 j1 => hs j (by omega) j1) hv
    by_cases c1 : (t.at i).u = true
    · rw [if_pos c1]
      by_cases c2 : (t.at i).gr = 0
      · rw [if_pos c2]
        by_cases c3 : (t.at i).pr < b
        · rw [if_pos c3, if_pos (by omega)]
          exact ih k (i + 1) _ _ (by omega) (by omega) (by omega) (by omega) (by simp; omega) (fun j j0 j1 => by rw [at_put_ne t i j C0 h0 (by omega) (by omega) j1 (by omega)]; exact hs j (by omega) j1) (chg_valid hv (put_chg h0 (by omega) c1))
        · rw [if_neg c3]
          exact skip
      · rw [if_neg c2]
        exact skip
    · rw [if_neg c1]
      exact skip
/-- a call of a script, upon a valid table -/
theorem stp_any (t : Tab) (hv : valid t) (d x n g l : Int) (k : Nat) (hk : 110 ≤ k) : ∃ u m e, stp k t d x n g l = some (rtQ u m e) ∧ ((e ≠ 0 ∧ u = T0 ∧ m = 0) ∨ (e = 0 ∧ valid u ∧ if d = 0 then u.la = t.la + 1 ∧ m = t.la + 1 else u.la = t.la)) := by
  by_cases h0 : d = 0
  · subst h0
    have hs := stp_rq k t x n g l _ (jRq_at t n g l k hk)
    rcases rqT_is t n g l with ⟨e, he, hr⟩ | ⟨-, hf, hd, hla, q, q0, q7, hu, hr⟩
    · rw [hr] at hs; exact ⟨T0, 0, e, hs, .inl ⟨he, rfl, rfl⟩⟩
    · rw [hr] at hs
      exact ⟨_, _, 0, hs, .inr ⟨rfl, new_valid hv q0 q7 hla hf hd, by rw [if_pos rfl]; exact ⟨rfl, rfl⟩⟩⟩
  · by_cases h5 : 1 ≤ d ∧ d ≤ 5
    · rcases stp_mid t d x n g l k hk h5.1 h5.2 with ⟨e, he, hs⟩ | ⟨-, u, q, hs, hc⟩
      · exact ⟨T0, 0, e, hs, .inl ⟨he, rfl, rfl⟩⟩
      · exact ⟨u, 0, 0, hs, .inr ⟨rfl, chg_valid hv hc, by rw [if_neg h0]; exact hc.la⟩⟩
    · obtain ⟨u, m, hh, hu, hl⟩ := shed_valid n t 7 k 0 [] t (by omega) (by omega) (by omega) (by omega) (by simp) (fun _ _ _ => rfl) hv
      have hj : jSh k t n = some (rtL u m) := by
        rw [jSh_def, jV_at t k (by omega), Option.bind_some, if_pos (by simpa using hv)]
        exact hh
      exact ⟨u, 0, 0, stp_sh k t d x n g l u m (by omega) hj, .inr ⟨rfl, hu, by rw [if_neg h0]; exact hl⟩⟩
def nzT (t : Tab) : Bool := (t.c0.nz || (t.c1.nz || (t.c2.nz || (t.c3.nz || (t.c4.nz || (t.c5.nz || t.c6.nz)))))) || (!(t.la == 0))
def il0 (k : Nat) (s : List S33) (m i : Int) (t : Tab) := perilunelaw23_JobsIds.l0 k s m i t.c0.u t.c0.id t.c0.pr t.c0.gr t.c0.sl t.c0.lf t.c1.u t.c1.id t.c1.pr t.c1.gr t.c1.sl t.c1.lf t.c2.u t.c2.id t.c2.pr t.c2.gr t.c2.sl t.c2.lf t.c3.u t.c3.id t.c3.pr t.c3.gr t.c3.sl t.c3.lf t.c4.u t.c4.id t.c4.pr t.c4.gr t.c4.sl t.c4.lf t.c5.u t.c5.id t.c5.pr t.c5.gr t.c5.sl t.c5.lf t.c6.u t.c6.id t.c6.pr t.c6.gr t.c6.sl t.c6.lf t.la
def ij1 (k : Nat) (s : List S33) (m i : Int) (b : Bool) (t : Tab) := perilunelaw23_JobsIds.j1 k s m i b t.c0.u t.c0.id t.c0.pr t.c0.gr t.c0.sl t.c0.lf t.c1.u t.c1.id t.c1.pr t.c1.gr t.c1.sl t.c1.lf t.c2.u t.c2.id t.c2.pr t.c2.gr t.c2.sl t.c2.lf t.c3.u t.c3.id t.c3.pr t.c3.gr t.c3.sl t.c3.lf t.c4.u t.c4.id t.c4.pr t.c4.gr t.c4.sl t.c4.lf t.c5.u t.c5.id t.c5.pr t.c5.gr t.c5.sl t.c5.lf t.c6.u t.c6.id t.c6.pr t.c6.gr t.c6.sl t.c6.lf t.la
theorem il0_succ (k : Nat) (s : List S33) (m i : Int) (t : Tab) : il0 (k + 1) s m i t = if i < (s.length : Int) then ij1 k s m i (decide (i < 60)) t else ij1 k s m i false t := rfl
theorem ij1_succ (k : Nat) (s : List S33) (m i : Int) (b : Bool) (t : Tab) : ij1 (k + 1) s m i b t = if b = true then (if 0 ≤ i then (if i < (s.length : Int) then ((stp k t (rd_T33 s i).f0 (rd_T33 s i).f1 (rd_T33 s i).f2 (rd_T33 s i).f3 (rd_T33 s i).f4).bind fun r => (if errQ r = 0 then (if (rd_T33 s i).f0 = 0 then (if numQ r = wrap64 (m + 1) then ((rV k (tabQ r)).bind fun v => (if v = true then (if (tabQ r).la = wrap64 (m + 1) then il0 k s (wrap64 (m + 1)) (wrap64 (i + 1)) (tabQ r) else some false) else some false)) else some false) else ((rV k (tabQ r)).bind fun v => (if v = true then (if (tabQ r).la = m then il0 k s m (wrap64 (i + 1)) (tabQ r) else some false) else some false))) else (if nzT (tabQ r) = true then some false else (if numQ r = 0 then il0 k s m (wrap64 (i + 1)) t else some false)))) else none) else none) else ((perilunelaw23_live.f k).bind fun e => some e) := rfl
theorem il0_at (s : List S33) (d : Nat) : ∀ (k : Nat) (m i : Int) (t : Tab), 0 ≤ i → i ≤ 60 → 60 - i = d → 2 * d + 130 ≤ k → valid t → t.la = m → m ≤ i → il0 k s m i t = some true := by
  induction d with
  | zero =>
    intro k m i t h0 h1 hd hk hv hm hmi
    obtain ⟨k, rfl⟩ : ∃ q, k = q + 2 := ⟨k - 2, by omega⟩
    have hl : ij1 (k + 1) s m i false t = some true := by rw [ij1_succ, if_neg (by decide), live_at k (by omega)]; rfl
    rw [il0_succ, decide_eq_false (show ¬ i < 60 by omega), hl]
    split <;> rfl
  | succ d ih =>
    intro k m i t h0 h1 hd hk hv hm hmi
    obtain ⟨k, rfl⟩ : ∃ q, k = q + 2 := ⟨k - 2, by omega⟩
    have hm0 : 0 ≤ m := by rw [← hm]; exact hv.1
    by_cases hi : i < (s.length : Int)
    · rw [il0_succ, if_pos hi, decide_eq_true (show i < 60 by omega), ij1_succ, if_pos rfl, if_pos h0, if_pos hi, wrap_id (m + 1) (by omega) (by omega), wrap_id (i + 1) (by omega) (by omega)]
      generalize rd_T33 s i = op
      obtain ⟨u, n, e, hs, h⟩ := stp_any t hv op.f0 op.f1 op.f2 op.f3 op.f4 k (by omega)
      rw [hs, Option.bind_some, errQ_rt, numQ_rt, tabQ_rt, rV_at u k (by omega), Option.bind_some]
      rcases h with ⟨he, rfl, rfl⟩ | ⟨rfl, hu, h⟩
      · rw [if_neg he, if_neg (by decide), if_pos rfl]
        exact ih k m (i + 1) t (by omega) (by omega) (by omega) (by omega) hv hm (by omega)
      · rw [if_pos rfl]
        by_cases c : op.f0 = 0
        · rw [if_pos c] at h ⊢
          rw [if_pos (by omega), if_pos (by simpa using hu), if_pos (by omega)]
          exact ih k (m + 1) (i + 1) u (by omega) (by omega) (by omega) (by omega) hu (by omega) (by omega)
        · rw [if_neg c] at h ⊢
          rw [Option.bind_some, if_pos (by simpa using hu), if_pos (by omega)]
          exact ih k m (i + 1) u (by omega) (by omega) (by omega) (by omega) hu (by omega) (by omega)
    · rw [il0_succ, if_neg hi, ij1_succ, if_neg (by decide), live_at k (by omega)]
      rfl
theorem T0_valid : valid T0 := by
  refine ⟨by decide, by decide, fun j j0 j1 => ?_⟩
  rcases cases7 j0 j1 with rfl | rfl | rfl | rfl | rfl | rfl | rfl <;> exact rfl
theorem JobsIds_pure (s : List S33) : perilunelaw23_JobsIds.f 1000 s = some true :=
  (show perilunelaw23_JobsIds.f 1000 s = il0 1000 s 0 0 T0 from rfl).trans (il0_at s 60 1000 0 0 T0 (by omega) (by omega) (by omega) (by omega) T0_valid rfl (by omega))
end Go.Proofs.Ytjenkcgjpdappaa.Plain
