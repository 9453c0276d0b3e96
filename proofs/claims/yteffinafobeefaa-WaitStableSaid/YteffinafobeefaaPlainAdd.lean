/- Add of package waitlist and of its reference over lists, and the law WaitAdds. Condition: a list has at most 5864062014634 elements. -/
import Derived.Test.YteffinafobeefaaPlain
namespace Go.Proofs.Yteffinafobeefaa.Plain
open Go.RowKit Go.Proofs.Yteffinafobeefaa.P Go.Proofs.YteffinafobeefaaW.PrintWords Go.Proofs.YteffinafobeefaaW.PrintLast

/-! ### Add -/
def addS (l : List S24) (t : S24) : List S24 × Int :=
  if okV l = true ∧ 0 ≤ t.f0 ∧ t.f0 ≤ 1099511627776 then (if l.length < 9 then (le t.f0 l ++ [t] ++ gt t.f0 l, 0) else ([], 13)) else ([], 2)

theorem add_loop (u v : List S24) (a b c : Int) (hu : ∀ x ∈ u, x.f0 ≤ a) (hv : ∀ x ∈ v, a < x.f0) (hl : (u ++ v).length ≤ 9) (d : Nat) :
    ∀ (k : Nat) (i : Int), u.length ≤ i → i ≤ (u ++ v).length → i - u.length = d → d < k → waitlist_Add.l0 k (u ++ v) i a b c = some (u ++ [⟨a, b, c⟩] ++ v, 0) := by
  have hlen : (u ++ v).length = u.length + v.length := List.length_append
  induction d with
  | zero =>
    intro k i h0 h1 hd hk
    obtain ⟨k, rfl⟩ : ∃ m, k = m + 1 := ⟨k - 1, by omega⟩
    have hi : i.toNat = u.length := by omega
    have et : (u ++ v).take i.toNat = u := by rw [hi]; simp
    have ed : (u ++ v).drop i.toNat = v := by rw [hi]; simp
    simp only [waitlist_Add.l0, Option.bind_some, et, ed, List.nil_append]
    rw [wrap_id (((u ++ v).length : Int) + 1) (by omega) (by omega), wrap_id (i - 1) (by omega) (by omega)]
    have fin : (if 0 ≤ ((u ++ v).length : Int) + 1 then (if (((u ++ v).length : Int) + 1).toNat ≤ 11728124029610 then (if 0 ≤ i then (if i ≤ ((u ++ v).length : Int) then (if ([] : List S24).length + u.length < 5864062014805 then (if u.length < 5864062014805 then (if (u ++ [(⟨a, b, c⟩ : S24)]).length + v.length < 5864062014805 then (some ((u ++ [(⟨a, b, c⟩ : S24)]) ++ v, (0 : Int))) else none) else none) else none) else none) else none) else none) else none) = some (u ++ [⟨a, b, c⟩] ++ v, 0) := by
      rw [if_pos (by omega), if_pos (by omega), if_pos (by omega), if_pos (by omega), if_pos (by simp; omega), if_pos (by omega), if_pos (by simp; omega)]
    by_cases hp : i > 0
    · have hr : ¬ (rd_T24 (u ++ v) (i - 1)).f0 > a := by
        rw [rd_at _ _ (by omega) (by omega)]
        have hx : (u ++ v)[(i - 1).toNat]'(by omega) = u[(i - 1).toNat]'(by omega) := List.getElem_append_left (by omega)
        rw [hx]
        have := hu _ (List.getElem_mem (l := u) (n := (i - 1).toNat) (by omega))
        omega
      rw [if_pos hp, if_pos (by omega), if_pos (by omega), if_neg hr]
      exact fin
    · rw [if_neg hp]
      exact fin
  | succ d ih =>
    intro k i h0 h1 hd hk
    obtain ⟨k, rfl⟩ : ∃ m, k = m + 1 := ⟨k - 1, by omega⟩
    have hr : (rd_T24 (u ++ v) (i - 1)).f0 > a := by
      rw [rd_at _ _ (by omega) (by omega)]
      have hx : (u ++ v)[(i - 1).toNat]'(by omega) = v[(i - 1).toNat - u.length]'(by omega) := List.getElem_append_right (by omega)
      rw [hx]
      exact hv _ (List.getElem_mem (l := v) (n := (i - 1).toNat - u.length) (by omega))
    simp only [waitlist_Add.l0]
    rw [wrap_id (i - 1) (by omega) (by omega), if_pos (by omega), if_pos (by omega), if_pos (by omega), if_pos hr]
    exact ih k (i - 1) (by omega) (by omega) (by omega) (by omega)

theorem add_ok (l : List S24) (hl : l.length ≤ 5864062014634) (a b c : Int) (k : Nat) (hk : l.length + 20 < k) : waitlist_Add.f k l a b c = some (addS l ⟨a, b, c⟩) := by
  obtain ⟨k, rfl⟩ : ∃ m, k = m + 1 := ⟨k - 1, by omega⟩
  have hj : ∀ x, waitlist_Add.j0 (k + 1) l true x b c = some ([], 2) := fun x => by simp only [waitlist_Add.j0, if_true]
  unfold waitlist_Add.f addS
  rw [valid_ok l hl (k + 1) (by omega)]
  simp only [Option.bind_some]
  cases hv : okV l with
  | false => rw [if_neg (by decide), hj, if_neg (by simp)]
  | true =>
    rw [if_pos rfl]
    obtain ⟨hF, h9⟩ := okV_of hv
    by_cases h1 : a < 0
    · rw [if_pos h1, hj, if_neg (by omega)]
    rw [if_neg h1]
    by_cases h2 : a > 1099511627776
    · rw [decide_eq_true h2, hj, if_neg (by omega)]
    rw [decide_eq_false h2, if_pos ⟨rfl, by omega, by omega⟩]
    simp only [waitlist_Add.j0]
    rw [if_neg (by decide)]
    by_cases h3 : (l.length : Int) ≥ 9
    · rw [if_pos h3, if_neg (by omega)]
    · rw [if_neg h3, if_pos (by omega)]
      obtain ⟨u, v, rfl, hu, hv'⟩ := okF_split a 0 l hF
      obtain ⟨e1, e2⟩ := le_split hu hv'
      rw [e1, e2]
      exact add_loop u v a b c hu hv' h9 v.length k _ (by simp; omega) (by omega) (by simp; omega) (by simp at hk; omega)

theorem refAdd_l1 (l : List S24) (hl : l.length ≤ 9) (a b c : Int) (d : Nat) : ∀ (k : Nat) (acc : List S24) (i : Int), acc.length ≤ 10 + i → 0 ≤ i → i ≤ l.length → (l.length : Int) - i = d → d < k →
    periluneref24_Add.l1 k l acc i a b c = some (acc ++ gt a (l.drop i.toNat), 0) := by
  induction d with
  | zero =>
    intro k acc i hacc h0 h1 hd hk
    obtain ⟨k, rfl⟩ : ∃ m, k = m + 1 := ⟨k - 1, by omega⟩
    simp only [periluneref24_Add.l1]
    rw [if_neg (by omega), List.drop_eq_nil_of_le (by omega)]
    simp [gt]
  | succ d ih =>
    intro k acc i hacc h0 h1 hd hk
    obtain ⟨k, rfl⟩ : ∃ m, k = m + 1 := ⟨k - 1, by omega⟩
    simp only [periluneref24_Add.l1, eta24]
    rw [if_pos (by omega), if_pos h0, wrap_id (i + 1) (by omega) (by omega), drop_rd l i h0 (by omega)]
    by_cases h : (rd_T24 l i).f0 > a
    · rw [if_pos h, if_pos (by omega), ih k _ (i + 1) (by simp; omega) (by omega) (by omega) (by omega) (by omega)]
      simp [gt, h]
    · rw [if_neg h, ih k _ (i + 1) (by omega) (by omega) (by omega) (by omega) (by omega)]
      simp [gt, h]

theorem refAdd_l0 (l : List S24) (hl : l.length ≤ 9) (a b c : Int) (d : Nat) : ∀ (k : Nat) (acc : List S24) (i : Int), acc.length ≤ i → 0 ≤ i → i ≤ l.length → (l.length : Int) - i = d → d + l.length + 2 < k →
    periluneref24_Add.l0 k l acc i a b c = some (acc ++ le a (l.drop i.toNat) ++ [⟨a, b, c⟩] ++ gt a l, 0) := by
  induction d with
  | zero =>
    intro k acc i hacc h0 h1 hd hk
    obtain ⟨k, rfl⟩ : ∃ m, k = m + 1 := ⟨k - 1, by omega⟩
    simp only [periluneref24_Add.l0]
    rw [if_neg (by omega), if_pos (by omega), List.drop_eq_nil_of_le (by omega), refAdd_l1 l hl a b c l.length k _ 0 (by simp; omega) (by omega) (by omega) (by omega) (by omega)]
    simp [le]
  | succ d ih =>
    intro k acc i hacc h0 h1 hd hk
    obtain ⟨k, rfl⟩ : ∃ m, k = m + 1 := ⟨k - 1, by omega⟩
    simp only [periluneref24_Add.l0, eta24]
    rw [if_pos (by omega), if_pos h0, wrap_id (i + 1) (by omega) (by omega), drop_rd l i h0 (by omega)]
    by_cases h : (rd_T24 l i).f0 ≤ a
    · rw [if_pos h, if_pos (by omega), ih k _ (i + 1) (by simp; omega) (by omega) (by omega) (by omega) (by omega)]
      simp [le, h]
    · rw [if_neg h, ih k _ (i + 1) (by omega) (by omega) (by omega) (by omega) (by omega)]
      simp [le, h]

theorem refAdd_ok (l : List S24) (a b c : Int) (k : Nat) (hk : 40 < k) : periluneref24_Add.f k l a b c = some (addS l ⟨a, b, c⟩) := by
  obtain ⟨k, rfl⟩ : ∃ m, k = m + 1 := ⟨k - 1, by omega⟩
  have hj : ∀ x, periluneref24_Add.j0 (k + 1) l true x b c = some ([], 2) := fun x => by simp only [periluneref24_Add.j0, if_true]
  unfold periluneref24_Add.f addS
  rw [refValid_ok l (k + 1) (by omega)]
  simp only [Option.bind_some]
  cases hv : okV l with
  | false => rw [if_neg (by decide), hj, if_neg (by simp)]
  | true =>
    rw [if_pos rfl]
    obtain ⟨hF, h9⟩ := okV_of hv
    by_cases h1 : a < 0
    · rw [if_pos h1, hj, if_neg (by omega)]
    rw [if_neg h1]
    by_cases h2 : a > 1099511627776
    · rw [decide_eq_true h2, hj, if_neg (by omega)]
    rw [decide_eq_false h2, if_pos ⟨rfl, by omega, by omega⟩]
    simp only [periluneref24_Add.j0]
    rw [if_neg (by decide)]
    by_cases h3 : (l.length : Int) = 9
    · rw [if_pos h3, if_neg (by omega)]
    · rw [if_neg h3, if_pos (by omega), refAdd_l0 l h9 a b c l.length k [] 0 (by simp) (by omega) (by omega) (by omega) (by omega)]
      simp

theorem addS_len (l : List S24) (t : S24) : (addS l t).1.length ≤ 10 := by
  unfold addS
  by_cases h : okV l = true ∧ 0 ≤ t.f0 ∧ t.f0 ≤ 1099511627776
  · rw [if_pos h]
    by_cases h2 : l.length < 9
    · rw [if_pos h2]
      have := (le_append_gt (a := t.f0) (okV_of h.1).1).1
      have e : (le t.f0 l ++ gt t.f0 l).length = l.length := by rw [this]
      simp at e ⊢
      omega
    · rw [if_neg h2]; simp
  · rw [if_neg h]; simp

theorem WaitAdds_pure (l : List S24) (hl : l.length ≤ 5864062014634) (a b c : Int) : ∃ k, perilunelaw24_WaitAdds.f k l a b c = some true := by
  refine ⟨l.length + 100, ?_⟩
  have hs := addS_len l ⟨a, b, c⟩
  unfold perilunelaw24_WaitAdds.f
  rw [copy_ok l hl]
  simp only [Option.bind_some]
  rw [add_ok l hl a b c _ (by omega), refAdd_ok l a b c _ (by omega)]
  simp only [Option.bind_some]
  rw [same_ok _ (by omega) _ (by omega), valid_ok l hl _ (by omega), refValid_ok l _ (by omega), spoil_ok _ (by omega) _ (by omega), same_ok l hl _ (by omega), live_ok _ (by omega)]
  simp

end Go.Proofs.Yteffinafobeefaa.Plain
