/- Plain facts on what Ready of package jobs answers. No condition. -/
import Derived.Test.YtjenkcgjpdappaaPlainJ
import Derived.Test.YtjenkcgjpdappaaPx8
import Derived.Test.YtjenkcgjpdappaaPx9
namespace Go.Proofs.Ytjenkcgjpdappaa.Plain
open Go.RowKit Go.Proofs.Ytjenkcgjpdappaa.P Go.Proofs.YtjenkcgjpdappaaW.PrintWords Go.Proofs.YtjenkcgjpdappaaW.PrintLast
theorem live_at (k : Nat) (hk : 60 ≤ k) : perilunelaw23_live.f k = some true := at_rounds (g := fun k => perilunelaw23_live.f k) (fun k => perilunelaw23_live.mono k) hk (by decide +kernel)
def act (t : Tab) (j : Int) : Prop := (t.at j).u = true ∧ ¬ (t.at j).sl = true
def isTop (t : Tab) (r : Int × Bool) : Prop := (r = (0, false) ∧ ∀ j, 0 ≤ j → j < 7 → ¬ act t j) ∨ ∃ i, 0 ≤ i ∧ i < 7 ∧ act t i ∧ r = ((t.at i).id, true) ∧ ∀ j, 0 ≤ j → j < 7 → act t j → (t.at j).pr ≤ (t.at i).pr ∧ ((t.at j).pr = (t.at i).pr → i ≤ j)
theorem isTop_unique (t : Tab) (r r' : Int × Bool) (h : isTop t r) (h' : isTop t r') : r = r' := by
  rcases h with ⟨e, n⟩ | ⟨i, i0, i1, a, e, m⟩
  · rcases h' with ⟨e', n'⟩ | ⟨i', i0', i1', a', e', m'⟩
    · rw [e, e']
    · exact absurd a' (n i' i0' i1')
  · rcases h' with ⟨e', n'⟩ | ⟨i', i0', i1', a', e', m'⟩
    · exact absurd a (n' i i0 i1)
    · have h1 := m i' i0' i1' a'
      have h2 := m' i i0 i1 a
      have : i = i' := by
        have h3 : (t.at i').pr = (t.at i).pr := by omega
        have h4 := h1.2 h3
        have h5 := h2.2 h3.symm
        omega
      rw [e, e', this]
theorem good_fits {t : Tab} (hv : valid t) {i : Int} (h0 : 0 ≤ i) (h1 : i < 7) (hu : (t.at i).u = true) : 1 ≤ (t.at i).pr ∧ (t.at i).pr ≤ 63 ∧ 1 ≤ (t.at i).id ∧ (t.at i).id ≤ t.la := by
  have h := hv.2.2 i h0 h1
  unfold good at h
  rw [if_pos hu] at h
  have := of_decide_eq_true h.2.2.1
  omega
theorem ids_differ {t : Tab} (hv : valid t) {i j : Int} (h0 : 0 ≤ i) (h1 : i < 7) (h2 : 0 ≤ j) (h3 : j < 7) (hi : (t.at i).u = true) (hj : (t.at j).u = true) (he : (t.at i).id = (t.at j).id) : i = j := by
  have gi := hv.2.2 i h0 h1
  have gj := hv.2.2 j h2 h3
  unfold good at gi gj
  rw [if_pos hi] at gi
  rw [if_pos hj] at gj
  by_cases c : i < j
  · exact absurd he (gj.2.2.2 i h0 c hi).1
  · by_cases c2 : j < i
    · exact absurd he.symm (gi.2.2.2 j h2 c2 hj).1
    · omega
def jr0 (k : Nat) (i : Int) (b : C) (t : Tab) := jobs_Ready.l0 k i b.u b.id b.pr b.gr b.sl b.lf t.c0.u t.c0.id t.c0.pr t.c0.gr t.c0.sl t.c0.lf t.c1.u t.c1.id t.c1.pr t.c1.gr t.c1.sl t.c1.lf t.c2.u t.c2.id t.c2.pr t.c2.gr t.c2.sl t.c2.lf t.c3.u t.c3.id t.c3.pr t.c3.gr t.c3.sl t.c3.lf t.c4.u t.c4.id t.c4.pr t.c4.gr t.c4.sl t.c4.lf t.c5.u t.c5.id t.c5.pr t.c5.gr t.c5.sl t.c5.lf t.c6.u t.c6.id t.c6.pr t.c6.gr t.c6.sl t.c6.lf
theorem jr0_succ (k : Nat) (i : Int) (b : C) (t : Tab) : jr0 (k + 1) i b t = if i < 7 then (if 0 ≤ i then (if (t.at i).u = true then (if (t.at i).sl = true then jr0 k (wrap64 (i + 1)) b t else (if (t.at i).pr > b.pr then jr0 k (wrap64 (i + 1)) (t.at i) t else jr0 k (wrap64 (i + 1)) b t)) else jr0 k (wrap64 (i + 1)) b t) else none) else some (b.id, b.u) := rfl
def bestOf (t : Tab) (i : Int) (b : C) : Prop := (b = C0 ∧ ∀ j, 0 ≤ j → j < i → ¬ act t j) ∨ ∃ m, 0 ≤ m ∧ m < i ∧ act t m ∧ b = t.at m ∧ ∀ j, 0 ≤ j → j < i → act t j → (t.at j).pr ≤ (t.at m).pr ∧ ((t.at j).pr = (t.at m).pr → m ≤ j)
theorem jr0_at (t : Tab) (hv : valid t) (d : Nat) : ∀ (k : Nat) (i : Int) (b : C), 0 ≤ i → i ≤ 7 → 7 - i = d → d < k → bestOf t i b → ∃ r, jr0 k i b t = some r ∧ isTop t r := by
  induction d with
  | zero =>
    intro k i b h0 h1 hd hk hb
    obtain ⟨k, rfl⟩ : ∃ q, k = q + 1 := ⟨k - 1, by omega⟩
    obtain rfl : i = 7 := by omega
    refine ⟨(b.id, b.u), by rw [jr0_succ, if_neg (by omega)], ?_⟩
    rcases hb with ⟨e, n⟩ | ⟨m, m0, m1, a, e, g⟩
    · left
      rw [e]
      exact ⟨rfl, n⟩
    · right
      refine ⟨m, m0, m1, a, ?_, g⟩
      rw [e, a.1]
  | succ d ih =>
    intro k i b h0 h1 hd hk hb
    obtain ⟨k, rfl⟩ : ∃ q, k = q + 1 := ⟨k - 1, by omega⟩
    rw [jr0_succ, if_pos (by omega), if_pos h0, wrap_id (i + 1) (by omega) (by omega)]
    have skip : ¬ act t i ∨ (act t i ∧ (t.at i).pr ≤ b.pr) → bestOf t (i + 1) b := by
      intro hs
      rcases hb with ⟨e, n⟩ | ⟨m, m0, m1, a, e, g⟩
      · left
        refine ⟨e, fun j j0 j1 => ?_⟩
        by_cases ej : j = i
        · rw [ej]
          rcases hs with hs | ⟨ha, hp⟩
          · exact hs
          · have := (good_fits hv h0 (by omega) ha.1).1
            rw [e] at hp
            simp only [C0] at hp
            omega
        · exact n j j0 (by omega)
      · right
        refine ⟨m, m0, by omega, a, e, fun j j0 j1 ja => ?_⟩
        by_cases ej : j = i
        · rw [ej] at ja ⊢
          rcases hs with hs | ⟨_, hp⟩
          · exact absurd ja hs
          · rw [e] at hp
            exact ⟨hp, fun _ => by omega⟩
        · exact g j j0 (by omega) ja
    by_cases c1 : (t.at i).u = true
    · rw [if_pos c1]
      by_cases c2 : (t.at i).sl = true
      · rw [if_pos c2]
        exact ih k (i + 1) b (by omega) (by omega) (by omega) (by omega) (skip (.inl fun h => h.2 c2))
      · rw [if_neg c2]
        by_cases c3 : (t.at i).pr > b.pr
        · rw [if_pos c3]
          refine ih k (i + 1) _ (by omega) (by omega) (by omega) (by omega) (.inr ⟨i, h0, by omega, ⟨c1, c2⟩, rfl, fun j j0 j1 ja => ?_⟩)
          by_cases ej : j = i
          · rw [ej]; omega
          · rcases hb with ⟨e, n⟩ | ⟨m, m0, m1, a, e, g⟩
            · exact absurd ja (n j j0 (by omega))
            · have := g j j0 (by omega) ja
              rw [e] at c3
              omega
        · rw [if_neg c3]
          exact ih k (i + 1) b (by omega) (by omega) (by omega) (by omega) (skip (.inr ⟨⟨c1, c2⟩, by omega⟩))
    · rw [if_neg c1]
      exact ih k (i + 1) b (by omega) (by omega) (by omega) (by omega) (skip (.inl fun h => c1 h.1))
def jR (k : Nat) (t : Tab) := jobs_Ready.f k t.c0.u t.c0.id t.c0.pr t.c0.gr t.c0.sl t.c0.lf t.c1.u t.c1.id t.c1.pr t.c1.gr t.c1.sl t.c1.lf t.c2.u t.c2.id t.c2.pr t.c2.gr t.c2.sl t.c2.lf t.c3.u t.c3.id t.c3.pr t.c3.gr t.c3.sl t.c3.lf t.c4.u t.c4.id t.c4.pr t.c4.gr t.c4.sl t.c4.lf t.c5.u t.c5.id t.c5.pr t.c5.gr t.c5.sl t.c5.lf t.c6.u t.c6.id t.c6.pr t.c6.gr t.c6.sl t.c6.lf t.la
theorem jR_def (k : Nat) (t : Tab) : jR k t = (jV k t).bind fun v => if v = true then jr0 k 0 C0 t else some (0, false) := rfl
open Classical in
theorem jR_at (t : Tab) (k : Nat) (hk : 100 ≤ k) : (valid t ∧ ∃ r, jR k t = some r ∧ isTop t r) ∨ (¬ valid t ∧ jR k t = some (0, false)) := by
  rw [jR_def, jV_at t k hk]
  simp only [Option.bind_some]
  by_cases hv : valid t
  · left
    rw [if_pos (decide_eq_true hv)]
    exact ⟨hv, jr0_at t hv 7 k 0 C0 (by omega) (by omega) (by omega) (by omega) (.inl ⟨rfl, fun j j0 j1 => by omega⟩)⟩
  · right
    rw [if_neg (by simpa using hv)]
    exact ⟨hv, rfl⟩
end Go.Proofs.Ytjenkcgjpdappaa.Plain
