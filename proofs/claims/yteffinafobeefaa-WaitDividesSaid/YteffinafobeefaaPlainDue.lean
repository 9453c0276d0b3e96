/- Due of package waitlist over lists, and the law WaitTwice. Condition: a list has at most 5864062014634 elements. -/
import Derived.Test.YteffinafobeefaaPlain
import Derived.Test.YteffinafobeefaaPx5
namespace Go.Proofs.Yteffinafobeefaa.Plain
open Go.RowKit Go.Proofs.Yteffinafobeefaa.P Go.Proofs.YteffinafobeefaaW.PrintWords Go.Proofs.YteffinafobeefaaW.PrintLast

/-! ### Due -/
def dueS (l : List S24) (a : Int) : List S24 × List S24 := if okV l = true then (le a l, gt a l) else ([], [])

theorem due_loop (u v : List S24) (a : Int) (hu : ∀ x ∈ u, x.f0 ≤ a) (hv : ∀ x ∈ v, a < x.f0) (hl : (u ++ v).length ≤ 9) (d : Nat) :
    ∀ (k : Nat) (i : Int), 0 ≤ i → i ≤ u.length → (u.length : Int) - i = d → d < k → waitlist_Due.l0 k (u ++ v) a i = some (u, v) := by
  have hlen : (u ++ v).length = u.length + v.length := List.length_append
  induction d with
  | zero =>
    intro k i h0 h1 hd hk
    obtain ⟨k, rfl⟩ : ∃ m, k = m + 1 := ⟨k - 1, by omega⟩
    have hi : i.toNat = u.length := by omega
    have et : (u ++ v).take i.toNat = u := by rw [hi]; simp
    have ed : (u ++ v).drop i.toNat = v := by rw [hi]; simp
    simp only [waitlist_Due.l0, Option.bind_some, et, ed, List.nil_append]
    by_cases hp : i < ((u ++ v).length : Int)
    · have hr : ¬ (rd_T24 (u ++ v) i).f0 ≤ a := by
        rw [rd_at _ _ (by omega) (by omega)]
        have hx : (u ++ v)[i.toNat]'(by omega) = v[i.toNat - u.length]'(by omega) := List.getElem_append_right (by omega)
        rw [hx]
        have := hv _ (List.getElem_mem (l := v) (n := i.toNat - u.length) (by omega))
        omega
      rw [if_pos hp, if_pos h0, if_neg hr, if_pos (by omega), if_pos (by simp; omega), if_pos (by simp; omega)]
    · rw [if_neg hp, if_pos h0, if_pos (by omega), if_pos (by simp; omega), if_pos (by simp; omega)]
  | succ d ih =>
    intro k i h0 h1 hd hk
    obtain ⟨k, rfl⟩ : ∃ m, k = m + 1 := ⟨k - 1, by omega⟩
    have hr : (rd_T24 (u ++ v) i).f0 ≤ a := by
      rw [rd_at _ _ (by omega) (by omega)]
      have hx : (u ++ v)[i.toNat]'(by omega) = u[i.toNat]'(by omega) := List.getElem_append_left (by omega)
      rw [hx]
      exact hu _ (List.getElem_mem (l := u) (n := i.toNat) (by omega))
    simp only [waitlist_Due.l0]
    rw [wrap_id (i + 1) (by omega) (by omega), if_pos (by omega), if_pos h0, if_pos hr]
    exact ih k (i + 1) (by omega) (by omega) (by omega) (by omega)

theorem due_ok (l : List S24) (hl : l.length ≤ 5864062014634) (a : Int) (k : Nat) (hk : l.length + 20 < k) : waitlist_Due.f k l a = some (dueS l a) := by
  unfold waitlist_Due.f dueS
  rw [valid_ok l hl k (by omega)]
  simp only [Option.bind_some]
  cases hv : okV l with
  | false => rw [if_neg (by decide), if_neg (by decide)]
  | true =>
    rw [if_pos rfl, if_pos rfl]
    obtain ⟨hF, h9⟩ := okV_of hv
    obtain ⟨u, v, rfl, hu, hv'⟩ := okF_split a 0 l hF
    obtain ⟨e1, e2⟩ := le_split hu hv'
    rw [e1, e2]
    exact due_loop u v a hu hv' h9 u.length k 0 (by omega) (by omega) (by omega) (by simp at hk; omega)

theorem okF_append : ∀ (p : Int) (u v : List S24), okF p (u ++ v) = true → okF p u = true ∧ ∃ q, p ≤ q ∧ okF q v = true
  | p, [], v, h => ⟨rfl, p, Int.le_refl _, h⟩
  | p, t :: r, v, h => by
    simp only [List.cons_append, okF, Bool.and_eq_true, decide_eq_true_eq] at h
    obtain ⟨h1, q, hq, h2⟩ := okF_append t.f0 r v h.2.2
    refine ⟨?_, q, by omega, h2⟩
    simp only [okF, Bool.and_eq_true, decide_eq_true_eq]
    exact ⟨h.1, h.2.1, h1⟩

theorem okF_low {p q : Int} {l : List S24} (h : okF q l = true) (hp : p ≤ q) : okF p l = true := by
  cases l with
  | nil => rfl
  | cons t r =>
    simp only [okF, Bool.and_eq_true, decide_eq_true_eq] at h ⊢
    exact ⟨by omega, h.2⟩

theorem dueS_len (l : List S24) (a : Int) : (dueS l a).1.length ≤ l.length ∧ (dueS l a).2.length ≤ l.length := by
  unfold dueS
  cases okV l with
  | true => rw [if_pos rfl]; exact ⟨List.length_filter_le _ _, List.length_filter_le _ _⟩
  | false => rw [if_neg (by decide)]; simp

theorem le_le (l : List S24) {a b : Int} (h : a ≤ b) : le a l ++ le b (gt a l) = le a l ++ le b (gt a l) ∧ gt b (gt a l) = gt b l := by
  refine ⟨rfl, ?_⟩
  unfold gt
  rw [List.filter_filter]
  congr 1
  funext x
  by_cases h1 : x.f0 > b
  · simp [h1]; omega
  · simp [h1]

theorem WaitTwice_pure (l : List S24) (hl : l.length ≤ 5864062014634) (a b : Int) : ∃ k, perilunelaw24_WaitTwice.f k l a b = some true := by
  refine ⟨l.length + 100, ?_⟩
  have hj : perilunelaw24_WaitTwice.j0 (l.length + 100) l a b true = some true := by
    simp only [perilunelaw24_WaitTwice.j0, if_true]
    rw [live_ok _ (by omega)]; rfl
  unfold perilunelaw24_WaitTwice.f
  rw [refValid_ok l _ (by omega)]
  simp only [Option.bind_some]
  cases hv : okV l with
  | false => rw [if_neg (by decide), hj]
  | true =>
    rw [if_pos rfl]
    by_cases h : b < a
    · rw [decide_eq_true h, hj]
    rw [decide_eq_false h]
    obtain ⟨hF, h9⟩ := okV_of hv
    obtain ⟨u, t, rfl, hu, ht⟩ := okF_split a 0 l hF
    obtain ⟨_, q, hq, hFt⟩ := okF_append 0 u t hF
    have hFt0 := okF_low hFt hq
    obtain ⟨m, s, rfl, hm, hs⟩ := okF_split b 0 t hFt0
    have hvt : okV (m ++ s) = true := by
      unfold okV
      rw [hFt0, decide_eq_true (by simp at h9 ⊢; omega)]; rfl
    have hv3 : okV ((u ++ m) ++ s) = true := by rw [List.append_assoc]; exact hv
    have hum : ∀ x ∈ u ++ m, x.f0 ≤ b := fun x hx => by
      rcases List.mem_append.1 hx with hx | hx
      · have := hu x hx; omega
      · exact hm x hx
    have d1 : dueS (u ++ (m ++ s)) a = (u, m ++ s) := by unfold dueS; rw [if_pos hv, (le_split hu ht).1, (le_split hu ht).2]
    have d2 : dueS (m ++ s) b = (m, s) := by unfold dueS; rw [if_pos hvt, (le_split hm hs).1, (le_split hm hs).2]
    have d3 : dueS (u ++ (m ++ s)) b = (u ++ m, s) := by unfold dueS; rw [← List.append_assoc, if_pos hv3, (le_split hum hs).1, (le_split hum hs).2]
    have n9 : u.length + (m.length + s.length) ≤ 9 := by simpa using h9
    have hk : (u ++ (m ++ s)).length + 100 = (u.length + (m.length + s.length) + 99) + 1 := by simp
    rw [hk]
    simp only [perilunelaw24_WaitTwice.j0]
    rw [if_neg (by decide), due_ok _ (by simp; omega) a _ (by simp), d1]
    simp only [Option.bind_some]
    rw [due_ok _ (by simp; omega) b _ (by simp; omega), d2, due_ok _ (by simp; omega) b _ (by simp), d3]
    simp only [Option.bind_some]
    rw [copy_ok u (by omega)]
    simp only [Option.bind_some]
    rw [if_pos (by omega), same_ok _ (by simp; omega) _ (by simp; omega), same_ok s (by omega) _ (by omega), live_ok _ (by omega)]
    simp

end Go.Proofs.Yteffinafobeefaa.Plain
