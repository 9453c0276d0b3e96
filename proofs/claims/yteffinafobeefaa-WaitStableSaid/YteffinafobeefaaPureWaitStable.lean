/- In a list that was made by Add from the empty list tasks stand by their times, and tasks with the same time in the order in which they were added; a tenth task is refused: the statement over numbers and lists. No condition. -/
import Derived.Test.YteffinafobeefaaPlainAdd
import Derived.Test.YteffinafobeefaaPx4
namespace Go.Proofs.Yteffinafobeefaa.Pure
open Go.RowKit Go.Proofs.Yteffinafobeefaa.P Go.Proofs.YteffinafobeefaaW.PrintWords Go.Proofs.YteffinafobeefaaW.PrintLast
open Go.Proofs.Yteffinafobeefaa.Plain (wrap_id rd_at okF okV okF_split le gt le_split le_append_gt addS add_ok live_ok)

def R (x y : S24) : Prop := x.f0 < y.f0 ∨ x.f0 = y.f0 ∧ x.f2 < y.f2
def Inv (l : List S24) (i : Int) : Prop := (l.length : Int) = i ∧ l.Pairwise R ∧ ∀ x ∈ l, 0 ≤ x.f0 ∧ x.f0 ≤ 3 ∧ x.f2 < i

theorem okF_of : ∀ (p : Int) (l : List S24), l.Pairwise R → (∀ x ∈ l, p ≤ x.f0 ∧ x.f0 ≤ 3) → okF p l = true
  | _, [], _, _ => rfl
  | p, t :: r, h, hb => by
    obtain ⟨h1, h2⟩ := List.pairwise_cons.1 h
    have ht := hb t List.mem_cons_self
    simp only [okF, Bool.and_eq_true, decide_eq_true_eq]
    refine ⟨ht.1, by omega, okF_of t.f0 r h2 (fun x hx => ⟨?_, (hb x (List.mem_cons_of_mem _ hx)).2⟩)⟩
    rcases h1 x hx with h | h
    · omega
    · omega

theorem Inv.ok {l : List S24} {i : Int} (h : Inv l i) (hi : i ≤ 9) : okV l = true := by
  unfold okV
  rw [okF_of 0 l h.2.1 (fun x hx => ⟨(h.2.2 x hx).1, (h.2.2 x hx).2.1⟩), decide_eq_true (by have := h.1; omega)]
  rfl

theorem Inv.add {l : List S24} {i a : Int} (h : Inv l i) (h0 : 0 ≤ a) (h3 : a ≤ 3) : Inv (le a l ++ [⟨a, 0, i⟩] ++ gt a l) (i + 1) := by
  obtain ⟨hlen, hp, hb⟩ := h
  have hF := okF_of 0 l hp (fun x hx => ⟨(hb x hx).1, (hb x hx).2.1⟩)
  have e := (le_append_gt (a := a) hF).1
  have el : (le a l ++ gt a l).length = l.length := by rw [e]
  have ml : ∀ x ∈ le a l, x ∈ l ∧ x.f0 ≤ a := fun x hx => by
    unfold le at hx
    rw [List.mem_filter] at hx
    exact ⟨hx.1, by simpa using hx.2⟩
  have mg : ∀ x ∈ gt a l, x ∈ l ∧ a < x.f0 := fun x hx => by
    unfold gt at hx
    rw [List.mem_filter] at hx
    exact ⟨hx.1, by simpa using hx.2⟩
  refine ⟨by simp at el ⊢; omega, ?_, fun x hx => ?_⟩
  · rw [List.pairwise_append, List.pairwise_append]
    refine ⟨⟨hp.filter _, List.pairwise_singleton _ _, fun x hx y hy => ?_⟩, hp.filter _, fun x hx y hy => ?_⟩
    · rw [List.mem_singleton.1 hy]
      have h1 := (ml x hx).2
      have h2 := (hb x (ml x hx).1).2.2
      unfold R
      show x.f0 < a ∨ x.f0 = a ∧ x.f2 < i
      omega
    · have h2 := (mg y hy).2
      unfold R
      rcases List.mem_append.1 hx with hx | hx
      · have h1 := (ml x hx).2
        omega
      · rw [List.mem_singleton.1 hx]
        exact .inl h2
  · rcases List.mem_append.1 hx with hx | hx
    · rcases List.mem_append.1 hx with hx | hx
      · have := hb x (ml x hx).1
        omega
      · rw [List.mem_singleton.1 hx]
        exact ⟨h0, h3, by show i < i + 1; omega⟩
    · have := hb x (mg x hx).1
      omega

theorem stable_l1 (z : List Int) (l : List S24) (i : Int) (h : Inv l i) (hi : i ≤ 9) (hz : (z.length : Int) < 9 ∨ i = 9) (d : Nat) : ∀ (k : Nat) (j : Int), 1 ≤ j → (i - j).toNat = d → d + 60 < k →
    perilunelaw24_WaitStable.l1 k z l j = some true := by
  have hlen := h.1
  induction d with
  | zero =>
    intro k j h1 hd hk
    obtain ⟨k, rfl⟩ : ∃ m, k = m + 1 := ⟨k - 1, by omega⟩
    simp only [perilunelaw24_WaitStable.l1]
    rw [if_neg (by omega)]
    by_cases hs : (z.length : Int) < 9
    · rw [if_pos hs, live_ok k (by omega)]; rfl
    · have e : addS l ⟨1, 0, 0⟩ = ([], 13) := by
        unfold addS
        rw [if_pos ⟨h.ok hi, by decide, by decide⟩, if_neg (by omega)]
      rw [if_neg hs, add_ok l (by omega) 1 0 0 k (by omega), e]
      simp only [Option.bind_some]
      rw [if_pos trivial, if_pos (by decide), live_ok k (by omega)]; rfl
  | succ d ih =>
    intro k j h1 hd hk
    obtain ⟨k, rfl⟩ : ∃ m, k = m + 1 := ⟨k - 1, by omega⟩
    simp only [perilunelaw24_WaitStable.l1]
    have hr : R (rd_T24 l (j - 1)) (rd_T24 l j) := by
      rw [rd_at l (j - 1) (by omega) (by omega), rd_at l j (by omega) (by omega)]
      exact List.pairwise_iff_getElem.1 h.2.1 (j - 1).toNat j.toNat (by omega) (by omega) (by omega)
    unfold R at hr
    rw [if_pos (by omega), if_pos (by omega), wrap_id (j - 1) (by omega) (by omega), if_pos (by omega), if_pos (by omega), wrap_id (j + 1) (by omega) (by omega), if_neg (by omega)]
    have step := ih k (j + 1) (by omega) (by omega) (by omega)
    by_cases he : (rd_T24 l j).f0 = (rd_T24 l (j - 1)).f0
    · rw [if_pos he, if_neg (by omega)]; exact step
    · rw [if_neg he]; exact step

theorem stable_l0 (z : List Int) (d : Nat) : ∀ (k : Nat) (l : List S24) (i : Int), Inv l i → 0 ≤ i → i ≤ 9 → i ≤ z.length → (9 - i).toNat = d → 2 * d + 100 < k →
    perilunelaw24_WaitStable.l0 k z l i = some true := by
  induction d with
  | zero =>
    intro k l i h h0 h9 hi hd hk
    obtain ⟨k, rfl⟩ : ∃ m, k = m + 2 := ⟨k - 2, by omega⟩
    have e : perilunelaw24_WaitStable.j1 (k + 1) z l i false = some true := by
      simp only [perilunelaw24_WaitStable.j1]
      rw [if_neg (by decide)]
      exact stable_l1 z l i h h9 (.inr (by omega)) _ k 1 (by omega) rfl (by omega)
    simp only [perilunelaw24_WaitStable.l0]
    rw [decide_eq_false (show ¬ i < 9 from by omega), e]
    simp
  | succ d ih =>
    intro k l i h h0 h9 hi hd hk
    obtain ⟨k, rfl⟩ : ∃ m, k = m + 2 := ⟨k - 2, by omega⟩
    have hlen := h.1
    simp only [perilunelaw24_WaitStable.l0]
    by_cases hlt : i < (z.length : Int)
    · rw [if_pos hlt, decide_eq_true (show i < 9 from by omega)]
      simp only [perilunelaw24_WaitStable.j1]
      have w0 : 0 ≤ IntKind.u64.wrap (rd z i) := by rw [IntKind.wrap_u64]; omega
      have ea : wrap64 (Int.tmod (IntKind.u64.wrap (rd z i)) 4) = IntKind.u64.wrap (rd z i) % 4 := by
        rw [Int.tmod_eq_emod_of_nonneg w0, wrap_id _ (by omega) (by omega)]
      have e : addS l ⟨IntKind.u64.wrap (rd z i) % 4, 0, i⟩ = (le (IntKind.u64.wrap (rd z i) % 4) l ++ [⟨IntKind.u64.wrap (rd z i) % 4, 0, i⟩] ++ gt (IntKind.u64.wrap (rd z i) % 4) l, 0) := by
        unfold addS
        rw [if_pos ⟨h.ok h9, by show 0 ≤ IntKind.u64.wrap (rd z i) % 4; omega, by show IntKind.u64.wrap (rd z i) % 4 ≤ 1099511627776; omega⟩, if_pos (by omega)]
      have hI := h.add (a := IntKind.u64.wrap (rd z i) % 4) (by omega) (by omega)
      rw [if_pos trivial, if_pos h0, if_pos hlt, ea, add_ok l (by omega) _ 0 i k (by omega), e]
      simp only [Option.bind_some]
      rw [if_pos trivial, wrap_id (i + 1) (by omega) (by omega), if_pos hI.1]
      exact ih k _ (i + 1) hI (by omega) (by omega) (by omega) (by omega) (by omega)
    · rw [if_neg hlt]
      simp only [perilunelaw24_WaitStable.j1]
      rw [if_neg (by decide)]
      exact stable_l1 z l i h h9 (.inl (by omega)) _ k 1 (by omega) rfl (by omega)

theorem WaitStable : perilunelaw24_WaitStable.Pure := by
  intro z _ _ _
  refine ⟨200, ?_⟩
  unfold perilunelaw24_WaitStable.f
  exact stable_l0 z 9 200 [] 0 ⟨rfl, List.Pairwise.nil, by simp⟩ (by omega) (by omega) (by omega) (by decide) (by decide)

end Go.Proofs.Yteffinafobeefaa.Pure
