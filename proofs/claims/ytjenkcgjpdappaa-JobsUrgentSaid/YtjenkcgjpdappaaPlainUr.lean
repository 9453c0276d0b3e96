/- Plain facts: the law JobsUrgent answers true for every table. No condition. -/
import Derived.Test.YtjenkcgjpdappaaPlainRd
import Derived.Test.YtjenkcgjpdappaaPx35
namespace Go.Proofs.Ytjenkcgjpdappaa.Plain
open Go.RowKit Go.Proofs.Ytjenkcgjpdappaa.P Go.Proofs.YtjenkcgjpdappaaW.PrintWords Go.Proofs.YtjenkcgjpdappaaW.PrintLast
def ul0 (k : Nat) (x : Int) (ok : Bool) (m p i : Int) (t : Tab) := perilunelaw23_JobsUrgent.l0 k x ok m p i t.c0.u t.c0.id t.c0.pr t.c0.gr t.c0.sl t.c0.lf t.c1.u t.c1.id t.c1.pr t.c1.gr t.c1.sl t.c1.lf t.c2.u t.c2.id t.c2.pr t.c2.gr t.c2.sl t.c2.lf t.c3.u t.c3.id t.c3.pr t.c3.gr t.c3.sl t.c3.lf t.c4.u t.c4.id t.c4.pr t.c4.gr t.c4.sl t.c4.lf t.c5.u t.c5.id t.c5.pr t.c5.gr t.c5.sl t.c5.lf t.c6.u t.c6.id t.c6.pr t.c6.gr t.c6.sl t.c6.lf t.la
def uj1 (k : Nat) (ok : Bool) (m p : Int) (b : Bool) (t : Tab) := perilunelaw23_JobsUrgent.j1 k ok m p b t.c0.u t.c0.id t.c0.pr t.c0.gr t.c0.sl t.c0.lf t.c1.u t.c1.id t.c1.pr t.c1.gr t.c1.sl t.c1.lf t.c2.u t.c2.id t.c2.pr t.c2.gr t.c2.sl t.c2.lf t.c3.u t.c3.id t.c3.pr t.c3.gr t.c3.sl t.c3.lf t.c4.u t.c4.id t.c4.pr t.c4.gr t.c4.sl t.c4.lf t.c5.u t.c5.id t.c5.pr t.c5.gr t.c5.sl t.c5.lf t.c6.u t.c6.id t.c6.pr t.c6.gr t.c6.sl t.c6.lf t.la
def ul1 (k : Nat) (ok : Bool) (m p i : Int) (t : Tab) := perilunelaw23_JobsUrgent.l1 k ok m p i t.c0.u t.c0.id t.c0.pr t.c0.gr t.c0.sl t.c0.lf t.c1.u t.c1.id t.c1.pr t.c1.gr t.c1.sl t.c1.lf t.c2.u t.c2.id t.c2.pr t.c2.gr t.c2.sl t.c2.lf t.c3.u t.c3.id t.c3.pr t.c3.gr t.c3.sl t.c3.lf t.c4.u t.c4.id t.c4.pr t.c4.gr t.c4.sl t.c4.lf t.c5.u t.c5.id t.c5.pr t.c5.gr t.c5.sl t.c5.lf t.c6.u t.c6.id t.c6.pr t.c6.gr t.c6.sl t.c6.lf t.la
def lawUrgent (k : Nat) (t : Tab) := perilunelaw23_JobsUrgent.f k t.c0.u t.c0.id t.c0.pr t.c0.gr t.c0.sl t.c0.lf t.c1.u t.c1.id t.c1.pr t.c1.gr t.c1.sl t.c1.lf t.c2.u t.c2.id t.c2.pr t.c2.gr t.c2.sl t.c2.lf t.c3.u t.c3.id t.c3.pr t.c3.gr t.c3.sl t.c3.lf t.c4.u t.c4.id t.c4.pr t.c4.gr t.c4.sl t.c4.lf t.c5.u t.c5.id t.c5.pr t.c5.gr t.c5.sl t.c5.lf t.c6.u t.c6.id t.c6.pr t.c6.gr t.c6.sl t.c6.lf t.la
theorem ul0_succ (k : Nat) (x : Int) (ok : Bool) (m p i : Int) (t : Tab) : ul0 (k + 1) x ok m p i t = if i < 7 then (if ok = true then (if 0 ≤ i then (if (t.at i).u = true then (if (t.at i).id = x then ul0 k x ok i (t.at i).pr (wrap64 (i + 1)) t else ul0 k x ok m p (wrap64 (i + 1)) t) else ul0 k x ok m p (wrap64 (i + 1)) t) else none) else ul0 k x ok m p (wrap64 (i + 1)) t) else (if ok = true then (if m < 0 then uj1 k ok m p true t else (if 0 ≤ m then (if m < 7 then uj1 k ok m p (t.at m).sl t else none) else none)) else uj1 k ok m p false t) := rfl
theorem uj1_succ (k : Nat) (ok : Bool) (m p : Int) (b : Bool) (t : Tab) : uj1 (k + 1) ok m p b t = if b = true then some false else ul1 k ok m p 0 t := rfl
theorem ul1_succ (k : Nat) (ok : Bool) (m p i : Int) (t : Tab) : ul1 (k + 1) ok m p i t = if i < 7 then (if 0 ≤ i then (if (t.at i).u = true then (if (t.at i).sl = true then ul1 k ok m p (wrap64 (i + 1)) t else (if ok = true then (if (t.at i).pr > p then some false else (if (t.at i).pr = p then (if i < m then some false else ul1 k ok m p (wrap64 (i + 1)) t) else ul1 k ok m p (wrap64 (i + 1)) t)) else some false)) else ul1 k ok m p (wrap64 (i + 1)) t) else none) else ((perilunelaw23_live.f k).bind fun b => some b) := rfl
theorem lawUrgent_def (k : Nat) (t : Tab) : lawUrgent k t = (rV k t).bind fun v => if v = true then ((jR k t).bind fun b => ul0 k b.1 b.2 (-1) 0 0 t) else ((perilunelaw23_live.f k).bind fun b => some b) := rfl
theorem ul1_at (t : Tab) (ok : Bool) (m p : Int) (h : ∀ j, 0 ≤ j → j < 7 → act t j → ok = true ∧ (t.at j).pr ≤ p ∧ ((t.at j).pr = p → m ≤ j)) (d : Nat) : ∀ (k : Nat) (i : Int), 0 ≤ i → i ≤ 7 → 7 - i = d → d + 61 ≤ k → ul1 k ok m p i t = some true := by
  induction d with
  | zero =>
    intro k i h0 h1 hd hk
    obtain ⟨k, rfl⟩ : ∃ q, k = q + 1 := ⟨k - 1, by omega⟩
    rw [ul1_succ, if_neg (by omega), live_at k (by omega)]
    rfl
  | succ d ih =>
    intro k i h0 h1 hd hk
    obtain ⟨k, rfl⟩ : ∃ q, k = q + 1 := ⟨k - 1, by omega⟩
    have nx := ih k (i + 1) (by omega) (by omega) (by omega) (by omega)
    rw [ul1_succ, if_pos (by omega), if_pos h0, wrap_id (i + 1) (by omega) (by omega), nx]
    by_cases c1 : (t.at i).u = true
    · rw [if_pos c1]
      by_cases c2 : (t.at i).sl = true
      · rw [if_pos c2]
      · obtain ⟨g1, g2, g3⟩ := h i h0 (by omega) ⟨c1, c2⟩
        rw [if_neg c2, if_pos g1, if_neg (by omega)]
        by_cases c3 : (t.at i).pr = p
        · rw [if_pos c3, if_neg (by have := g3 c3; omega)]
        · rw [if_neg c3]
    · rw [if_neg c1]
theorem ul0_none (t : Tab) (x m p : Int) (d : Nat) (hn : ∀ j, 0 ≤ j → j < 7 → ¬ act t j) : ∀ (k : Nat) (i : Int), 0 ≤ i → i ≤ 7 → 7 - i = d → d + 80 ≤ k → ul0 k x false m p i t = some true := by
  induction d with
  | zero =>
    intro k i h0 h1 hd hk
    obtain ⟨k, rfl⟩ : ∃ q, k = q + 1 := ⟨k - 1, by omega⟩
    obtain ⟨k, rfl⟩ : ∃ q, k = q + 1 := ⟨k - 1, by omega⟩
    rw [ul0_succ, if_neg (by omega), if_neg (by decide), uj1_succ, if_neg (by decide)]
    exact ul1_at t false m p (fun j j0 j1 ja => absurd ja (hn j j0 j1)) 7 k 0 (by omega) (by omega) (by omega) (by omega)
  | succ d ih =>
    intro k i h0 h1 hd hk
    obtain ⟨k, rfl⟩ : ∃ q, k = q + 1 := ⟨k - 1, by omega⟩
    rw [ul0_succ, if_pos (by omega), if_neg (by decide), wrap_id (i + 1) (by omega) (by omega)]
    exact ih k (i + 1) (by omega) (by omega) (by omega) (by omega)
theorem ul0_some (t : Tab) (hv : valid t) (q : Int) (q0 : 0 ≤ q) (q1 : q < 7) (qa : act t q) (hq : ∀ j, 0 ≤ j → j < 7 → act t j → (t.at j).pr ≤ (t.at q).pr ∧ ((t.at j).pr = (t.at q).pr → q ≤ j)) (d : Nat) : ∀ (k : Nat) (i m p : Int), 0 ≤ i → i ≤ 7 → 7 - i = d → d + 80 ≤ k → (q < i → m = q ∧ p = (t.at q).pr) → ul0 k (t.at q).id true m p i t = some true := by
  induction d with
  | zero =>
    intro k i m p h0 h1 hd hk hm
    obtain ⟨k, rfl⟩ : ∃ q, k = q + 1 := ⟨k - 1, by omega⟩
    obtain ⟨k, rfl⟩ : ∃ q, k = q + 1 := ⟨k - 1, by omega⟩
    obtain ⟨rfl, rfl⟩ := hm (by omega)
    rw [ul0_succ, if_neg (by omega), if_pos rfl, if_neg (by omega), if_pos q0, if_pos q1, uj1_succ, if_neg qa.2]
    exact ul1_at t true m _ (fun j j0 j1 ja => ⟨rfl, hq j j0 j1 ja⟩) 7 k 0 (by omega) (by omega) (by omega) (by omega)
  | succ d ih =>
    intro k i m p h0 h1 hd hk hm
    obtain ⟨k, rfl⟩ : ∃ q, k = q + 1 := ⟨k - 1, by omega⟩
    rw [ul0_succ, if_pos (by omega), if_pos rfl, if_pos h0, wrap_id (i + 1) (by omega) (by omega)]
    by_cases c1 : (t.at i).u = true
    · rw [if_pos c1]
      by_cases c2 : (t.at i).id = (t.at q).id
      · have e := ids_differ hv h0 (by omega) q0 q1 c1 qa.1 c2
        rw [if_pos c2]
        refine ih k (i + 1) _ _ (by omega) (by omega) (by omega) (by omega) (fun _ => ⟨e, by rw [e]⟩)
      · rw [if_neg c2]
        exact ih k (i + 1) m p (by omega) (by omega) (by omega) (by omega) (fun hh => by
          by_cases e : q = i
          · exact absurd (by rw [e]) c2
          · exact hm (by omega))
    · rw [if_neg c1]
      exact ih k (i + 1) m p (by omega) (by omega) (by omega) (by omega) (fun hh => by
        by_cases e : q = i
        · exact absurd (e ▸ qa.1) c1
        · exact hm (by omega))
theorem JobsUrgent_pure (t : Tab) : lawUrgent 1000 t = some true := by
  rw [lawUrgent_def, rV_at t 1000 (by omega)]
  simp only [Option.bind_some]
  by_cases hv : valid t
  · rw [if_pos (by simpa using hv)]
    rcases jR_at t 1000 (by omega) with ⟨_, r, h1, h2⟩ | ⟨hv', _⟩
    · rw [h1]
      simp only [Option.bind_some]
      rcases h2 with ⟨e, n⟩ | ⟨q, q0, q1, qa, e, hq⟩
      · rw [e]
        exact ul0_none t _ _ _ 7 n 1000 0 (by omega) (by omega) (by omega) (by omega)
      · rw [e]
        exact ul0_some t hv q q0 q1 qa hq 7 1000 0 _ _ (by omega) (by omega) (by omega) (by omega) (fun h => by omega)
    · exact absurd hv hv'
  · rw [if_neg (by simpa using hv), live_at 1000 (by omega)]
    rfl
end Go.Proofs.Ytjenkcgjpdappaa.Plain
