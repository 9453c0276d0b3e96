/- Plain facts on what Ready and Find of package jobs and of its reference answer; the laws JobsReady and JobsUrgent. No condition. -/
import Derived.Test.YtjenkcgjpdappaaPlainJ
import Derived.Test.YtjenkcgjpdappaaPx8
import Derived.Test.YtjenkcgjpdappaaPx9
import Derived.Test.YtjenkcgjpdappaaPx12
import Derived.Test.YtjenkcgjpdappaaPx13
import Derived.Test.YtjenkcgjpdappaaPx14
namespace Go.Proofs.Ytjenkcgjpdappaa.Plain
open Go.RowKit Go.Proofs.Ytjenkcgjpdappaa.P Go.Proofs.YtjenkcgjpdappaaW.PrintWords Go.Proofs.YtjenkcgjpdappaaW.PrintLast
theorem live_at (k : Nat) (hk : 60 ≤ k) : perilunelaw23_live.f k = some true := at_rounds (g := fun k => perilunelaw23_live.f k) (fun k => perilunelaw23_live.mono k) hk (by decide +kernel)
def act (t : Tab) (j : Int) : Prop := (t.at j).u = true ∧ ¬ (t.at j).sl = true
def isTop (t : Tab) (r : Int × Bool) : Prop := (r = (0, false) ∧ ∀ j, 0 ≤ j → j < 7 → ¬ act t j) ∨ ∃ i, 0 ≤ i ∧ i < 7 ∧ act t i ∧ r = ((t.at i).id, true) ∧ ∀ j, 0 ≤ j → j < 7 → act t j → (t.at j).pr ≤ (t.at i).pr ∧ ((t.at j).pr = (t.at i).pr → i ≤ j)
theorem isTop_unique (t : Tab) (r r' : Int × Bool) (h : isTop t r) (h' : isTop t r') : r = r' := by
  rcases h with ⟨e, n⟩ | ⟨i, i0, i1, a, e, m⟩
  · rcases h' with ⟨e', n'⟩ | ⟨i', i0', i1', a', e', m'⟩
    · rw [e, e']
    · exact absurd a' (n i' i0' i1')
  · rcases h' with ⟨e', n'⟩ | ⟨i', i0', i1', a', e', m'⟩
    · exact absurd a (n' i i0 i1)
    · have h1 := m i' i0' i1' a'
      have h2 := m' i i0 i1 a
      have : i = i' := by
        have h3 : (t.at i').pr = (t.at i).pr := by omega
        have h4 := h1.2 h3
        have h5 := h2.2 h3.symm
        omega
      rw [e, e', this]
theorem good_fits {t : Tab} (hv : valid t) {i : Int} (h0 : 0 ≤ i) (h1 : i < 7) (hu : (t.at i).u = true) : 1 ≤ (t.at i).pr ∧ (t.at i).pr ≤ 63 ∧ 1 ≤ (t.at i).id ∧ (t.at i).id ≤ t.la := by
  have h := hv.2.2 i h0 h1
  unfold good at h
  rw [if_pos hu] at h
  have := of_decide_eq_true h.2.2.1
  omega
theorem ids_differ {t : Tab} (hv : valid t) {i j : Int} (h0 : 0 ≤ i) (h1 : i < 7) (h2 : 0 ≤ j) (h3 : j < 7) (hi : (t.at i).u = true) (hj : (t.at j).u = true) (he : (t.at i).id = (t.at j).id) : i = j := by
  have gi := hv.2.2 i h0 h1
  have gj := hv.2.2 j h2 h3
  unfold good at gi gj
  rw [if_pos hi] at gi
  rw [if_pos hj] at gj
  by_cases c : i < j
  · exact absurd he (gj.2.2.2 i h0 c hi).1
  · by_cases c2 : j < i
    · exact absurd he.symm (gi.2.2.2 j h2 c2 hj).1
    · omega
def jr0 (k : Nat) (i : Int) (b : C) (t : Tab) := jobs_Ready.l0 k i b.u b.id b.pr b.gr b.sl b.lf t.c0.u t.c0.id t.c0.pr t.c0.gr t.c0.sl t.c0.lf t.c1.u t.c1.id t.c1.pr t.c1.gr t.c1.sl t.c1.lf t.c2.u t.c2.id t.c2.pr t.c2.gr t.c2.sl t.c2.lf t.c3.u t.c3.id t.c3.pr t.c3.gr t.c3.sl t.c3.lf t.c4.u t.c4.id t.c4.pr t.c4.gr t.c4.sl t.c4.lf t.c5.u t.c5.id t.c5.pr t.c5.gr t.c5.sl t.c5.lf t.c6.u t.c6.id t.c6.pr t.c6.gr t.c6.sl t.c6.lf
theorem jr0_succ (k : Nat) (i : Int) (b : C) (t : Tab) : jr0 (k + 1) i b t = if i < 7 then (if 0 ≤ i then (if (t.at i).u = true then (if (t.at i).sl = true then jr0 k (wrap64 (i + 1)) b t else (if (t.at i).pr > b.pr then jr0 k (wrap64 (i + 1)) (t.at i) t else jr0 k (wrap64 (i + 1)) b t)) else jr0 k (wrap64 (i + 1)) b t) else none) else some (b.id, b.u) := rfl
def bestOf (t : Tab) (i : Int) (b : C) : Prop := (b = C0 ∧ ∀ j, 0 ≤ j → j < i → ¬ act t j) ∨ ∃ m, 0 ≤ m ∧ m < i ∧ act t m ∧ b = t.at m ∧ ∀ j, 0 ≤ j → j < i → act t j → (t.at j).pr ≤ (t.at m).pr ∧ ((t.at j).pr = (t.at m).pr → m ≤ j)
theorem jr0_at (t : Tab) (hv : valid t) (d : Nat) : ∀ (k : Nat) (i : Int) (b : C), 0 ≤ i → i ≤ 7 → 7 - i = d → d < k → bestOf t i b → ∃ r, jr0 k i b t = some r ∧ isTop t r := by
  induction d with
  | zero =>
    intro k i b h0 h1 hd hk hb
    obtain ⟨k, rfl⟩ : ∃ q, k = q + 1 := ⟨k - 1, by omega⟩
    obtain rfl : i = 7 := by omega
    refine ⟨(b.id, b.u), by rw [jr0_succ, if_neg (by omega)], ?_⟩
    rcases hb with ⟨e, n⟩ | ⟨m, m0, m1, a, e, g⟩
    · left
      rw [e]
      exact ⟨rfl, n⟩
    · right
      refine ⟨m, m0, m1, a, ?_, g⟩
      rw [e, a.1]
  | succ d ih =>
    intro k i b h0 h1 hd hk hb
    obtain ⟨k, rfl⟩ : ∃ q, k = q + 1 := ⟨k - 1, by omega⟩
    rw [jr0_succ, if_pos (by omega), if_pos h0, wrap_id (i + 1) (by omega) (by omega)]
    have skip : ¬ act t i ∨ (act t i ∧ (t.at i).pr ≤ b.pr) → bestOf t (i + 1) b := by
      intro hs
      rcases hb with ⟨e, n⟩ | ⟨m, m0, m1, a, e, g⟩
      · left
        refine ⟨e, fun j j0 j1 => ?_⟩
        by_cases ej : j = i
        · rw [ej]
          rcases hs with hs | ⟨ha, hp⟩
          · exact hs
          · have := (good_fits hv h0 (by omega) ha.1).1
            rw [e] at hp
            simp only [C0] at hp
            omega
        · exact n j j0 (by omega)
      · right
        refine ⟨m, m0, by omega, a, e, fun j j0 j1 ja => ?_⟩
        by_cases ej : j = i
        · rw [ej] at ja ⊢
          rcases hs with hs | ⟨_, hp⟩
          · exact absurd ja hs
          · rw [e] at hp
            exact ⟨hp, fun _ => by omega⟩
        · exact g j j0 (by omega) ja
    by_cases c1 : (t.at i).u = true
    · rw [if_pos c1]
      by_cases c2 : (t.at i).sl = true
      · rw [if_pos c2]
        exact ih k (i + 1) b (by omega) (by omega) (by omega) (by omega) (skip (.inl fun h => h.2 c2))
      · rw [if_neg c2]
        by_cases c3 : (t.at i).pr > b.pr
        · rw [if_pos c3]
          refine ih k (i + 1) _ (by omega) (by omega) (by omega) (by omega) (.inr ⟨i, h0, by omega, ⟨c1, c2⟩, rfl, fun j j0 j1 ja => ?_⟩)
          by_cases ej : j = i
          · rw [ej]; omega
          · rcases hb with ⟨e, n⟩ | ⟨m, m0, m1, a, e, g⟩
            · exact absurd ja (n j j0 (by omega))
            · have := g j j0 (by omega) ja
              rw [e] at c3
              omega
        · rw [if_neg c3]
          exact ih k (i + 1) b (by omega) (by omega) (by omega) (by omega) (skip (.inr ⟨⟨c1, c2⟩, by omega⟩))
    · rw [if_neg c1]
      exact ih k (i + 1) b (by omega) (by omega) (by omega) (by omega) (skip (.inl fun h => c1 h.1))
def jR (k : Nat) (t : Tab) := jobs_Ready.f k t.c0.u t.c0.id t.c0.pr t.c0.gr t.c0.sl t.c0.lf t.c1.u t.c1.id t.c1.pr t.c1.gr t.c1.sl t.c1.lf t.c2.u t.c2.id t.c2.pr t.c2.gr t.c2.sl t.c2.lf t.c3.u t.c3.id t.c3.pr t.c3.gr t.c3.sl t.c3.lf t.c4.u t.c4.id t.c4.pr t.c4.gr t.c4.sl t.c4.lf t.c5.u t.c5.id t.c5.pr t.c5.gr t.c5.sl t.c5.lf t.c6.u t.c6.id t.c6.pr t.c6.gr t.c6.sl t.c6.lf t.la
def rR (k : Nat) (t : Tab) := periluneref23_Ready.f k t.c0.u t.c0.id t.c0.pr t.c0.gr t.c0.sl t.c0.lf t.c1.u t.c1.id t.c1.pr t.c1.gr t.c1.sl t.c1.lf t.c2.u t.c2.id t.c2.pr t.c2.gr t.c2.sl t.c2.lf t.c3.u t.c3.id t.c3.pr t.c3.gr t.c3.sl t.c3.lf t.c4.u t.c4.id t.c4.pr t.c4.gr t.c4.sl t.c4.lf t.c5.u t.c5.id t.c5.pr t.c5.gr t.c5.sl t.c5.lf t.c6.u t.c6.id t.c6.pr t.c6.gr t.c6.sl t.c6.lf t.la
def rr0 (k : Nat) (p : Int) (t : Tab) := periluneref23_Ready.l0 k p t.c0.u t.c0.id t.c0.pr t.c0.gr t.c0.sl t.c0.lf t.c1.u t.c1.id t.c1.pr t.c1.gr t.c1.sl t.c1.lf t.c2.u t.c2.id t.c2.pr t.c2.gr t.c2.sl t.c2.lf t.c3.u t.c3.id t.c3.pr t.c3.gr t.c3.sl t.c3.lf t.c4.u t.c4.id t.c4.pr t.c4.gr t.c4.sl t.c4.lf t.c5.u t.c5.id t.c5.pr t.c5.gr t.c5.sl t.c5.lf t.c6.u t.c6.id t.c6.pr t.c6.gr t.c6.sl t.c6.lf t.la
def rr1 (k : Nat) (p i : Int) (t : Tab) := periluneref23_Ready.l1 k p i t.c0.u t.c0.id t.c0.pr t.c0.gr t.c0.sl t.c0.lf t.c1.u t.c1.id t.c1.pr t.c1.gr t.c1.sl t.c1.lf t.c2.u t.c2.id t.c2.pr t.c2.gr t.c2.sl t.c2.lf t.c3.u t.c3.id t.c3.pr t.c3.gr t.c3.sl t.c3.lf t.c4.u t.c4.id t.c4.pr t.c4.gr t.c4.sl t.c4.lf t.c5.u t.c5.id t.c5.pr t.c5.gr t.c5.sl t.c5.lf t.c6.u t.c6.id t.c6.pr t.c6.gr t.c6.sl t.c6.lf t.la
theorem jR_def (k : Nat) (t : Tab) : jR k t = (jV k t).bind fun v => if v = true then jr0 k 0 C0 t else some (0, false) := rfl
open Classical in
theorem jR_at (t : Tab) (k : Nat) (hk : 100 ≤ k) : (valid t ∧ ∃ r, jR k t = some r ∧ isTop t r) ∨ (¬ valid t ∧ jR k t = some (0, false)) := by
  rw [jR_def, jV_at t k hk]
  simp only [Option.bind_some]
  by_cases hv : valid t
  · left
    rw [if_pos (decide_eq_true hv)]
    exact ⟨hv, jr0_at t hv 7 k 0 C0 (by omega) (by omega) (by omega) (by omega) (.inl ⟨rfl, fun j j0 j1 => by omega⟩)⟩
  · right
    rw [if_neg (by simpa using hv)]
    exact ⟨hv, rfl⟩
theorem rr0_succ (k : Nat) (p : Int) (t : Tab) : rr0 (k + 1) p t = if p ≥ 1 then rr1 k p 0 t else some (0, false) := rfl
theorem rr1_succ (k : Nat) (p i : Int) (t : Tab) : rr1 (k + 1) p i t = if i < 7 then (if 0 ≤ i then (if (t.at i).u = true then (if (t.at i).sl = true then rr1 k p (wrap64 (i + 1)) t else (if (t.at i).pr = p then some ((t.at i).id, true) else rr1 k p (wrap64 (i + 1)) t)) else rr1 k p (wrap64 (i + 1)) t) else none) else rr0 k (wrap64 (p - 1)) t := rfl
theorem rr1_at (t : Tab) (p : Int) (p0 : 1 ≤ p) (p1 : p ≤ 63) (hp : ∀ j, 0 ≤ j → j < 7 → act t j → (t.at j).pr ≤ p) (K : Nat) (hr : (∀ j, 0 ≤ j → j < 7 → act t j → (t.at j).pr ≤ p - 1) → ∀ k, K ≤ k → ∃ r, rr0 k (p - 1) t = some r ∧ isTop t r) (d : Nat) : ∀ (k : Nat) (i : Int), 0 ≤ i → i ≤ 7 → 7 - i = d → K + d < k → (∀ j, 0 ≤ j → j < i → act t j → (t.at j).pr ≠ p) → ∃ r, rr1 k p i t = some r ∧ isTop t r := by
  induction d with
  | zero =>
    intro k i h0 h1 hd hk hn
    obtain ⟨k, rfl⟩ : ∃ q, k = q + 1 := ⟨k - 1, by omega⟩
    rw [rr1_succ, if_neg (by omega), wrap_id (p - 1) (by omega) (by omega)]
    refine hr (fun j j0 j1 ja => ?_) k (by omega)
    have := hp j j0 j1 ja
    have := hn j j0 (by omega) ja
    omega
  | succ d ih =>
    intro k i h0 h1 hd hk hn
    obtain ⟨k, rfl⟩ : ∃ q, k = q + 1 := ⟨k - 1, by omega⟩
    rw [rr1_succ, if_pos (by omega), if_pos h0, wrap_id (i + 1) (by omega) (by omega)]
    have skip : (act t i → (t.at i).pr ≠ p) → ∀ j, 0 ≤ j → j < i + 1 → act t j → (t.at j).pr ≠ p := by
      intro hs j j0 j1 ja
      by_cases ej : j = i
      · rw [ej] at ja ⊢; exact hs ja
      · exact hn j j0 (by omega) ja
    by_cases c1 : (t.at i).u = true
    · rw [if_pos c1]
      by_cases c2 : (t.at i).sl = true
      · rw [if_pos c2]
        exact ih k (i + 1) (by omega) (by omega) (by omega) (by omega) (skip fun h => absurd c2 h.2)
      · rw [if_neg c2]
        by_cases c3 : (t.at i).pr = p
        · rw [if_pos c3]
          refine ⟨_, rfl, .inr ⟨i, h0, by omega, ⟨c1, c2⟩, rfl, fun j j0 j1 ja => ⟨by have := hp j j0 j1 ja; omega, fun e => ?_⟩⟩⟩
          by_cases c : j < i
          · exact absurd (by omega) (hn j j0 c ja)
          · omega
        · rw [if_neg c3]
          exact ih k (i + 1) (by omega) (by omega) (by omega) (by omega) (skip fun _ => c3)
    · rw [if_neg c1]
      exact ih k (i + 1) (by omega) (by omega) (by omega) (by omega) (skip fun h => absurd h.1 c1)
theorem rr0_at (t : Tab) (hv : valid t) (d : Nat) : ∀ (k : Nat) (p : Int), 0 ≤ p → p ≤ 63 → p = d → 10 * d + 1 ≤ k → (∀ j, 0 ≤ j → j < 7 → act t j → (t.at j).pr ≤ p) → ∃ r, rr0 k p t = some r ∧ isTop t r := by
  induction d with
  | zero =>
    intro k p h0 h1 hd hk hp
    obtain ⟨k, rfl⟩ : ∃ q, k = q + 1 := ⟨k - 1, by omega⟩
    rw [rr0_succ, if_neg (by omega)]
    refine ⟨_, rfl, .inl ⟨rfl, fun j j0 j1 ja => ?_⟩⟩
    have := hp j j0 j1 ja
    have := (good_fits hv j0 j1 ja.1).1
    omega
  | succ d ih =>
    intro k p h0 h1 hd hk hp
    obtain ⟨k, rfl⟩ : ∃ q, k = q + 1 := ⟨k - 1, by omega⟩
    rw [rr0_succ, if_pos (by omega)]
    exact rr1_at t p (by omega) h1 hp (10 * d + 1) (fun h k hk => ih k (p - 1) (by omega) (by omega) (by omega) hk h) 7 k 0 (by omega) (by omega) (by omega) (by omega) (fun j j0 j1 => by omega)
theorem rR_def (k : Nat) (t : Tab) : rR k t = (rV k t).bind fun v => if v = true then rr0 k 63 t else some (0, false) := rfl
open Classical in
theorem rR_at (t : Tab) (k : Nat) (hk : 700 ≤ k) : (valid t ∧ ∃ r, rR k t = some r ∧ isTop t r) ∨ (¬ valid t ∧ rR k t = some (0, false)) := by
  rw [rR_def, rV_at t k (by omega)]
  simp only [Option.bind_some]
  by_cases hv : valid t
  · left
    rw [if_pos (decide_eq_true hv)]
    exact ⟨hv, rr0_at t hv 63 k 63 (by omega) (by omega) (by omega) (by omega) (fun j j0 j1 ja => (good_fits hv j0 j1 ja.1).2.1)⟩
  · right
    rw [if_neg (by simpa using hv)]
    exact ⟨hv, rfl⟩
/-! ### find -/
def idxF (t : Tab) (x : Int) : Nat → Int → Int
  | 0, _ => -1
  | d + 1, i => if (t.at i).u = true ∧ (t.at i).id = x then i else idxF t x d (i + 1)
/-- The core set of a job, or -1. -/
def idx (t : Tab) (x : Int) : Int := idxF t x 7 0
theorem idxF_range (t : Tab) (x : Int) (d : Nat) : ∀ i : Int, 0 ≤ i → i + (d : Int) = 7 → idxF t x d i = -1 ∨ (i ≤ idxF t x d i ∧ idxF t x d i < 7) := by
  induction d with
  | zero => intro i h0 h1; exact .inl rfl
  | succ d ih =>
    intro i h0 h1
    unfold idxF
    by_cases c : (t.at i).u = true ∧ (t.at i).id = x
    · rw [if_pos c]; omega
    · rw [if_neg c]
      rcases ih (i + 1) (by omega) (by omega) with h | h
      · exact .inl h
      · right; omega
theorem idx_range (t : Tab) (x : Int) : idx t x = -1 ∨ (0 ≤ idx t x ∧ idx t x < 7) := idxF_range t x 7 0 (by omega) (by omega)
theorem idxF_is (t : Tab) (x : Int) (d : Nat) : ∀ i : Int, 0 ≤ i → 0 ≤ idxF t x d i → (t.at (idxF t x d i)).u = true ∧ (t.at (idxF t x d i)).id = x := by
  induction d with
  | zero => intro i h0 h1; unfold idxF at h1; omega
  | succ d ih =>
    intro i h0 h1
    unfold idxF at h1 ⊢
    by_cases c : (t.at i).u = true ∧ (t.at i).id = x
    · rw [if_pos c]; exact c
    · rw [if_neg c] at h1 ⊢
      exact ih (i + 1) (by omega) h1
theorem idx_is (t : Tab) (x : Int) (h : 0 ≤ idx t x) : (t.at (idx t x)).u = true ∧ (t.at (idx t x)).id = x := idxF_is t x 7 0 (by omega) h
def jf0 (k : Nat) (x i : Int) (t : Tab) := jobs_find.l0 k x i t.c0.u t.c0.id t.c0.pr t.c0.gr t.c0.sl t.c0.lf t.c1.u t.c1.id t.c1.pr t.c1.gr t.c1.sl t.c1.lf t.c2.u t.c2.id t.c2.pr t.c2.gr t.c2.sl t.c2.lf t.c3.u t.c3.id t.c3.pr t.c3.gr t.c3.sl t.c3.lf t.c4.u t.c4.id t.c4.pr t.c4.gr t.c4.sl t.c4.lf t.c5.u t.c5.id t.c5.pr t.c5.gr t.c5.sl t.c5.lf t.c6.u t.c6.id t.c6.pr t.c6.gr t.c6.sl t.c6.lf
def jf (k : Nat) (t : Tab) (x : Int) := jobs_find.f k t.c0.u t.c0.id t.c0.pr t.c0.gr t.c0.sl t.c0.lf t.c1.u t.c1.id t.c1.pr t.c1.gr t.c1.sl t.c1.lf t.c2.u t.c2.id t.c2.pr t.c2.gr t.c2.sl t.c2.lf t.c3.u t.c3.id t.c3.pr t.c3.gr t.c3.sl t.c3.lf t.c4.u t.c4.id t.c4.pr t.c4.gr t.c4.sl t.c4.lf t.c5.u t.c5.id t.c5.pr t.c5.gr t.c5.sl t.c5.lf t.c6.u t.c6.id t.c6.pr t.c6.gr t.c6.sl t.c6.lf t.la x
def rs0 (k : Nat) (x i : Int) (t : Tab) := periluneref23_set.l0 k x i t.c0.u t.c0.id t.c0.pr t.c0.gr t.c0.sl t.c0.lf t.c1.u t.c1.id t.c1.pr t.c1.gr t.c1.sl t.c1.lf t.c2.u t.c2.id t.c2.pr t.c2.gr t.c2.sl t.c2.lf t.c3.u t.c3.id t.c3.pr t.c3.gr t.c3.sl t.c3.lf t.c4.u t.c4.id t.c4.pr t.c4.gr t.c4.sl t.c4.lf t.c5.u t.c5.id t.c5.pr t.c5.gr t.c5.sl t.c5.lf t.c6.u t.c6.id t.c6.pr t.c6.gr t.c6.sl t.c6.lf t.la
def rs (k : Nat) (t : Tab) (x : Int) := periluneref23_set.f k t.c0.u t.c0.id t.c0.pr t.c0.gr t.c0.sl t.c0.lf t.c1.u t.c1.id t.c1.pr t.c1.gr t.c1.sl t.c1.lf t.c2.u t.c2.id t.c2.pr t.c2.gr t.c2.sl t.c2.lf t.c3.u t.c3.id t.c3.pr t.c3.gr t.c3.sl t.c3.lf t.c4.u t.c4.id t.c4.pr t.c4.gr t.c4.sl t.c4.lf t.c5.u t.c5.id t.c5.pr t.c5.gr t.c5.sl t.c5.lf t.c6.u t.c6.id t.c6.pr t.c6.gr t.c6.sl t.c6.lf t.la x
theorem jf0_succ (k : Nat) (x i : Int) (t : Tab) : jf0 (k + 1) x i t = if i < 7 then (if 0 ≤ i then (if (t.at i).u = true then (if (t.at i).id = x then some (i, 0) else jf0 k x (wrap64 (i + 1)) t) else jf0 k x (wrap64 (i + 1)) t) else none) else some (0, 7) := rfl
theorem rs0_succ (k : Nat) (x i : Int) (t : Tab) : rs0 (k + 1) x i t = if i < 7 then (if 0 ≤ i then (if (t.at i).u = true then (if (t.at i).id = x then some i else rs0 k x (wrap64 (i + 1)) t) else rs0 k x (wrap64 (i + 1)) t) else none) else some (-1) := rfl
theorem jf0_at (t : Tab) (x : Int) (d : Nat) : ∀ (k : Nat) (i : Int), 0 ≤ i → i ≤ 7 → 7 - i = d → d < k → jf0 k x i t = some (if 0 ≤ idxF t x d i then (idxF t x d i, 0) else (0, 7)) := by
  induction d with
  | zero =>
    intro k i h0 h1 hd hk
    obtain ⟨k, rfl⟩ : ∃ q, k = q + 1 := ⟨k - 1, by omega⟩
    rw [jf0_succ, if_neg (by omega)]
    rfl
  | succ d ih =>
    intro k i h0 h1 hd hk
    obtain ⟨k, rfl⟩ : ∃ q, k = q + 1 := ⟨k - 1, by omega⟩
    rw [jf0_succ, if_pos (by omega), if_pos h0, wrap_id (i + 1) (by omega) (by omega)]
    by_cases c1 : (t.at i).u = true
    · rw [if_pos c1]
      by_cases c2 : (t.at i).id = x
      · rw [if_pos c2, show idxF t x (d + 1) i = i from by rw [idxF, if_pos ⟨c1, c2⟩], if_pos h0]
      · rw [if_neg c2, show idxF t x (d + 1) i = idxF t x d (i + 1) from by rw [idxF, if_neg (fun h => c2 h.2)]]
        exact ih k (i + 1) (by omega) (by omega) (by omega) (by omega)
    · rw [if_neg c1, show idxF t x (d + 1) i = idxF t x d (i + 1) from by rw [idxF, if_neg (fun h => c1 h.1)]]
      exact ih k (i + 1) (by omega) (by omega) (by omega) (by omega)
theorem rs0_at (t : Tab) (x : Int) (d : Nat) : ∀ (k : Nat) (i : Int), 0 ≤ i → i ≤ 7 → 7 - i = d → d < k → rs0 k x i t = some (idxF t x d i) := by
  induction d with
  | zero =>
    intro k i h0 h1 hd hk
    obtain ⟨k, rfl⟩ : ∃ q, k = q + 1 := ⟨k - 1, by omega⟩
    rw [rs0_succ, if_neg (by omega)]
    rfl
  | succ d ih =>
    intro k i h0 h1 hd hk
    obtain ⟨k, rfl⟩ : ∃ q, k = q + 1 := ⟨k - 1, by omega⟩
    rw [rs0_succ, if_pos (by omega), if_pos h0, wrap_id (i + 1) (by omega) (by omega), idxF]
    by_cases c1 : (t.at i).u = true
    · rw [if_pos c1]
      by_cases c2 : (t.at i).id = x
      · rw [if_pos c2, if_pos ⟨c1, c2⟩]
      · rw [if_neg c2, if_neg (fun h => c2 h.2)]
        exact ih k (i + 1) (by omega) (by omega) (by omega) (by omega)
    · rw [if_neg c1, if_neg (fun h => c1 h.1)]
      exact ih k (i + 1) (by omega) (by omega) (by omega) (by omega)
theorem jf_def (k : Nat) (t : Tab) (x : Int) : jf k t x = (jV k t).bind fun v => if v = true then jf0 k x 0 t else some (0, 2) := rfl
open Classical in
theorem jf_at (t : Tab) (x : Int) (k : Nat) (hk : 100 ≤ k) : jf k t x = some (if valid t then (if 0 ≤ idx t x then (idx t x, 0) else (0, 7)) else (0, 2)) := by
  rw [jf_def, jV_at t k hk]
  simp only [Option.bind_some]
  by_cases hv : valid t
  · rw [if_pos (decide_eq_true hv), if_pos hv]
    exact jf0_at t x 7 k 0 (by omega) (by omega) (by omega) (by omega)
  · rw [if_neg (by simpa using hv), if_neg hv]
theorem rs_at (t : Tab) (x : Int) (k : Nat) (hk : 100 ≤ k) : rs k t x = some (idx t x) := rs0_at t x 7 k 0 (by omega) (by omega) (by omega) (by omega)
def tup (c : C) (b : Bool) : Bool × Int × Int × Int × Bool × Int × Bool := (c.u, c.id, c.pr, c.gr, c.sl, c.lf, b)
def jF (k : Nat) (t : Tab) (x : Int) := jobs_Find.f k t.c0.u t.c0.id t.c0.pr t.c0.gr t.c0.sl t.c0.lf t.c1.u t.c1.id t.c1.pr t.c1.gr t.c1.sl t.c1.lf t.c2.u t.c2.id t.c2.pr t.c2.gr t.c2.sl t.c2.lf t.c3.u t.c3.id t.c3.pr t.c3.gr t.c3.sl t.c3.lf t.c4.u t.c4.id t.c4.pr t.c4.gr t.c4.sl t.c4.lf t.c5.u t.c5.id t.c5.pr t.c5.gr t.c5.sl t.c5.lf t.c6.u t.c6.id t.c6.pr t.c6.gr t.c6.sl t.c6.lf t.la x
def rF (k : Nat) (t : Tab) (x : Int) := periluneref23_Find.f k t.c0.u t.c0.id t.c0.pr t.c0.gr t.c0.sl t.c0.lf t.c1.u t.c1.id t.c1.pr t.c1.gr t.c1.sl t.c1.lf t.c2.u t.c2.id t.c2.pr t.c2.gr t.c2.sl t.c2.lf t.c3.u t.c3.id t.c3.pr t.c3.gr t.c3.sl t.c3.lf t.c4.u t.c4.id t.c4.pr t.c4.gr t.c4.sl t.c4.lf t.c5.u t.c5.id t.c5.pr t.c5.gr t.c5.sl t.c5.lf t.c6.u t.c6.id t.c6.pr t.c6.gr t.c6.sl t.c6.lf t.la x
theorem jF_def (k : Nat) (t : Tab) (x : Int) : jF k t x = (jf k t x).bind fun b => if b.2 = 0 then (if 0 ≤ b.1 then (if b.1 < 7 then some (tup (t.at b.1) true) else none) else none) else some (tup C0 false) := rfl
theorem rF_def (k : Nat) (t : Tab) (x : Int) : rF k t x = (rs k t x).bind fun i => ((rV k t).bind fun v => if v = true then (if i < 0 then some (tup C0 false) else (if 0 ≤ i then (if i < 7 then some (tup (t.at i) true) else none) else none)) else some (tup C0 false)) := rfl
open Classical in
theorem jF_at (t : Tab) (x : Int) (k : Nat) (hk : 100 ≤ k) : jF k t x = some (if valid t ∧ 0 ≤ idx t x then tup (t.at (idx t x)) true else tup C0 false) := by
  rw [jF_def, jf_at t x k hk]
  simp only [Option.bind_some]
  by_cases hv : valid t
  · by_cases hi : 0 ≤ idx t x
    · have := idx_range t x
      simp only [hv, hi, if_true, true_and]
      rw [if_pos (by omega)]
    · simp only [hv, hi, if_true, if_false, and_false]
      rfl
  · simp only [hv, if_false, false_and]
    rfl
open Classical in
theorem rF_at (t : Tab) (x : Int) (k : Nat) (hk : 100 ≤ k) : rF k t x = some (if valid t ∧ 0 ≤ idx t x then tup (t.at (idx t x)) true else tup C0 false) := by
  rw [rF_def, rs_at t x k hk, rV_at t k hk]
  simp only [Option.bind_some]
  by_cases hv : valid t
  · rw [if_pos (decide_eq_true hv)]
    by_cases hi : 0 ≤ idx t x
    · have := idx_range t x
      rw [if_neg (by omega), if_pos hi, if_pos (by omega), if_pos ⟨hv, hi⟩]
    · rw [if_pos (by omega), if_neg (fun h => hi h.2)]
  · rw [if_neg (by simpa using hv), if_neg (fun h => hv h.1)]
/-! ### JobsReady -/
def lawReady (k : Nat) (t : Tab) (x : Int) := perilunelaw23_JobsReady.f k t.c0.u t.c0.id t.c0.pr t.c0.gr t.c0.sl t.c0.lf t.c1.u t.c1.id t.c1.pr t.c1.gr t.c1.sl t.c1.lf t.c2.u t.c2.id t.c2.pr t.c2.gr t.c2.sl t.c2.lf t.c3.u t.c3.id t.c3.pr t.c3.gr t.c3.sl t.c3.lf t.c4.u t.c4.id t.c4.pr t.c4.gr t.c4.sl t.c4.lf t.c5.u t.c5.id t.c5.pr t.c5.gr t.c5.sl t.c5.lf t.c6.u t.c6.id t.c6.pr t.c6.gr t.c6.sl t.c6.lf t.la x
theorem JobsReady_pure (t : Tab) (x : Int) : lawReady 1000 t x = some true := by
  have e1 : ∃ r, jR 1000 t = some r ∧ rR 1000 t = some r := by
    rcases jR_at t 1000 (by omega) with ⟨hv, r, h1, h2⟩ | ⟨hv, h1⟩
    · rcases rR_at t 1000 (by omega) with ⟨_, r', h3, h4⟩ | ⟨hv', _⟩
      · rw [isTop_unique t r' r h4 h2] at h3
        exact ⟨r, h1, h3⟩
      · exact absurd hv hv'
    · rcases rR_at t 1000 (by omega) with ⟨hv', _⟩ | ⟨_, h3⟩
      · exact absurd hv' hv
      · exact ⟨_, h1, h3⟩
  obtain ⟨r, h1, h2⟩ := e1
  have h3 := jF_at t x 1000 (by omega)
  have h4 := rF_at t x 1000 (by omega)
  have h5 := live_at 1000 (by omega)
  unfold jR at h1
  unfold rR at h2
  unfold jF at h3
  unfold rF at h4
  unfold lawReady perilunelaw23_JobsReady.f
  rw [h1, h2, h3, h4]
  simp [h5]
end Go.Proofs.Ytjenkcgjpdappaa.Plain
