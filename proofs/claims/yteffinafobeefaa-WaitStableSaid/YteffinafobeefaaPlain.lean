/- Plain facts on what the printed functions of package waitlist and of its reference answer, over lists. Condition: a list has at most 5864062014634 elements. -/
import Derived.Test.YteffinafobeefaaPx2
import Derived.Test.YteffinafobeefaaPx3
import Derived.Test.YteffinafobeefaaPx4
namespace Go.Proofs.Yteffinafobeefaa.Plain
open Go.RowKit Go.Proofs.Yteffinafobeefaa.P Go.Proofs.YteffinafobeefaaW.PrintWords Go.Proofs.YteffinafobeefaaW.PrintLast

theorem wrap_id (x : Int) (h0 : -9223372036854775808 ≤ x) (h1 : x ≤ 9223372036854775807) : wrap64 x = x := by unfold wrap64; omega

theorem rd_at (l : List S24) (i : Int) (h0 : 0 ≤ i) (h1 : i < (l.length : Int)) : rd_T24 l i = l[i.toNat]'(by omega) := by
  unfold rd_T24
  rw [List.getD_eq_getElem?_getD, List.getElem?_eq_getElem (by omega)]
  rfl

theorem drop_rd (l : List S24) (i : Int) (h0 : 0 ≤ i) (h1 : i < (l.length : Int)) : l.drop i.toNat = rd_T24 l i :: l.drop (i + 1).toNat := by
  rw [List.drop_eq_getElem_cons (by omega), rd_at l i h0 h1, show (i + 1).toNat = i.toNat + 1 from by omega]

theorem take_rd (l : List S24) (i : Int) (h0 : 0 ≤ i) (h1 : i < (l.length : Int)) : l.take (i + 1).toNat = l.take i.toNat ++ [rd_T24 l i] := by
  rw [show (i + 1).toNat = i.toNat + 1 from by omega, List.take_succ_eq_append_getElem (by omega), rd_at l i h0 h1]

theorem eta24 (x : S24) : (⟨x.f0, x.f1, x.f2⟩ : S24) = x := rfl

/-! ### Valid -/
def okF : Int → List S24 → Bool
  | _, [] => true
  | p, t :: r => decide (p ≤ t.f0) && (decide (t.f0 ≤ 1099511627776) && okF t.f0 r)
def okV (l : List S24) : Bool := okF 0 l && decide ((l.length : Int) ≤ 9)

theorem valid_loop (l : List S24) (hl : l.length ≤ 5864062014634) (d : Nat) : ∀ (k : Nat) (p i : Int), 0 ≤ i → i ≤ l.length → (l.length : Int) - i = d → d < k →
    waitlist_Valid.l0 k l p l (l.length : Int) i = some (okF p (l.drop i.toNat) && decide ((l.length : Int) ≤ 9)) := by
  induction d with
  | zero =>
    intro k p i h0 h1 hd hk
    obtain ⟨k, rfl⟩ : ∃ m, k = m + 1 := ⟨k - 1, by omega⟩
    simp only [waitlist_Valid.l0]
    rw [if_neg (by omega), List.drop_eq_nil_of_le (by omega)]
    rfl
  | succ d ih =>
    intro k p i h0 h1 hd hk
    obtain ⟨k, rfl⟩ : ∃ m, k = m + 1 := ⟨k - 1, by omega⟩
    simp only [waitlist_Valid.l0]
    rw [if_pos (by omega), if_pos h0, if_pos (by omega), drop_rd l i h0 (by omega)]
    simp only [okF]
    by_cases ha : (rd_T24 l i).f0 < p
    · rw [if_pos ha, decide_eq_false (show ¬ p ≤ (rd_T24 l i).f0 from by omega)]; rfl
    rw [if_neg ha, decide_eq_true (show p ≤ (rd_T24 l i).f0 from by omega)]
    by_cases hb : (rd_T24 l i).f0 > 1099511627776
    · rw [if_pos hb, decide_eq_false (show ¬ (rd_T24 l i).f0 ≤ 1099511627776 from by omega)]; rfl
    rw [if_neg hb, decide_eq_true (show (rd_T24 l i).f0 ≤ 1099511627776 from by omega), wrap_id (i + 1) (by omega) (by omega), ih k _ (i + 1) (by omega) (by omega) (by omega) (by omega)]
    simp

theorem valid_ok (l : List S24) (hl : l.length ≤ 5864062014634) (k : Nat) (hk : l.length < k) : waitlist_Valid.f k l = some (okV l) := by
  unfold waitlist_Valid.f okV
  rw [valid_loop l hl l.length k 0 0 (by omega) (by omega) (by omega) hk]
  rfl

theorem refValid_loop (l : List S24) (hl : l.length ≤ 9) (d : Nat) : ∀ (k : Nat) (p i : Int), 0 ≤ i → i ≤ l.length → (l.length : Int) - i = d → d < k → 0 ≤ p → (i = 0 → p = 0) → (0 < i → p = (rd_T24 l (i - 1)).f0) →
    periluneref24_Valid.l0 k l i = some (okF p (l.drop i.toNat)) := by
  induction d with
  | zero =>
    intro k p i h0 h1 hd hk hp hz hn
    obtain ⟨k, rfl⟩ : ∃ m, k = m + 1 := ⟨k - 1, by omega⟩
    simp only [periluneref24_Valid.l0]
    rw [if_neg (by omega), List.drop_eq_nil_of_le (by omega)]
    rfl
  | succ d ih =>
    intro k p i h0 h1 hd hk hp hz hn
    obtain ⟨k, rfl⟩ : ∃ m, k = m + 1 := ⟨k - 1, by omega⟩
    simp only [periluneref24_Valid.l0]
    rw [if_pos (by omega), if_pos h0, drop_rd l i h0 (by omega)]
    simp only [okF]
    by_cases ha : (rd_T24 l i).f0 < 0
    · rw [if_pos ha, decide_eq_false (show ¬ p ≤ (rd_T24 l i).f0 from by omega)]; rfl
    rw [if_neg ha]
    by_cases hb : (rd_T24 l i).f0 > 1099511627776
    · rw [if_pos hb, decide_eq_false (show ¬ (rd_T24 l i).f0 ≤ 1099511627776 from by omega)]; simp
    rw [if_neg hb, decide_eq_true (show (rd_T24 l i).f0 ≤ 1099511627776 from by omega), wrap_id (i + 1) (by omega) (by omega), wrap_id (i - 1) (by omega) (by omega)]
    have step : periluneref24_Valid.l0 k l (i + 1) = some (okF (rd_T24 l i).f0 (l.drop (i + 1).toNat)) :=
      ih k _ (i + 1) (by omega) (by omega) (by omega) (by omega) (by omega) (by omega) (fun _ => by rw [show i + 1 - 1 = i from by omega])
    by_cases hc : i > 0
    · rw [if_pos hc, if_pos (by omega), if_pos (by omega), ← hn hc]
      by_cases he : (rd_T24 l i).f0 < p
      · rw [if_pos he, decide_eq_false (show ¬ p ≤ (rd_T24 l i).f0 from by omega)]; rfl
      · rw [if_neg he, decide_eq_true (show p ≤ (rd_T24 l i).f0 from by omega), step]; simp
    · rw [if_neg hc, decide_eq_true (show p ≤ (rd_T24 l i).f0 from by have := hz (by omega); omega), step]; simp

theorem refValid_ok (l : List S24) (k : Nat) (hk : 9 < k) : periluneref24_Valid.f k l = some (okV l) := by
  unfold periluneref24_Valid.f okV
  by_cases h : (l.length : Int) > 9
  · rw [if_pos h, decide_eq_false (show ¬ (l.length : Int) ≤ 9 from by omega)]; simp
  · rw [if_neg h, decide_eq_true (show (l.length : Int) ≤ 9 from by omega), refValid_loop l (by omega) l.length k 0 0 (by omega) (by omega) (by omega) (by omega) (by omega) (by omega) (by omega)]
    simp

/-! ### Same, Copy, spoil -/
theorem same_loop (l : List S24) (hl : l.length ≤ 5864062014634) (d : Nat) : ∀ (k : Nat) (i : Int), 0 ≤ i → i ≤ l.length → (l.length : Int) - i = d → d < k → periluneref24_Same.l0 k l l i = some true := by
  induction d with
  | zero =>
    intro k i h0 h1 hd hk
    obtain ⟨k, rfl⟩ : ∃ m, k = m + 1 := ⟨k - 1, by omega⟩
    simp only [periluneref24_Same.l0]
    rw [if_neg (by omega)]
  | succ d ih =>
    intro k i h0 h1 hd hk
    obtain ⟨k, rfl⟩ : ∃ m, k = m + 1 := ⟨k - 1, by omega⟩
    simp only [periluneref24_Same.l0]
    rw [if_pos (by omega), if_pos h0, if_pos (by omega), if_neg (by simp), wrap_id (i + 1) (by omega) (by omega)]
    exact ih k (i + 1) (by omega) (by omega) (by omega) (by omega)

theorem same_ok (l : List S24) (hl : l.length ≤ 5864062014634) (k : Nat) (hk : l.length < k) : periluneref24_Same.f k l l = some true := by
  unfold periluneref24_Same.f
  rw [if_pos rfl]
  exact same_loop l hl l.length k 0 (by omega) (by omega) (by omega) hk

theorem copy_ok (l : List S24) (hl : l.length ≤ 5864062014634) : periluneref24_Copy.f l = some l := by
  unfold periluneref24_Copy.f
  rw [if_pos (by simp; omega)]
  rfl

theorem spoil_loop (n : Nat) (hn : n ≤ 5864062014634) (d : Nat) : ∀ (k : Nat) (l : List S24) (i : Int), l.length = n → 0 ≤ i → i ≤ n → (n : Int) - i = d → d < k → perilunelaw24_spoil.l0 k l i = some () := by
  induction d with
  | zero =>
    intro k l i hl h0 h1 hd hk
    obtain ⟨k, rfl⟩ : ∃ m, k = m + 1 := ⟨k - 1, by omega⟩
    simp only [perilunelaw24_spoil.l0]
    rw [if_neg (by omega)]
  | succ d ih =>
    intro k l i hl h0 h1 hd hk
    obtain ⟨k, rfl⟩ : ∃ m, k = m + 1 := ⟨k - 1, by omega⟩
    simp only [perilunelaw24_spoil.l0]
    rw [if_pos (by omega), if_pos h0, wrap_id (i + 1) (by omega) (by omega)]
    exact ih k _ (i + 1) (by rw [List.length_set]; exact hl) (by omega) (by omega) (by omega) (by omega)

theorem spoil_ok (l : List S24) (hl : l.length ≤ 5864062014634) (k : Nat) (hk : l.length < k) : perilunelaw24_spoil.f k l = some () := by
  unfold perilunelaw24_spoil.f
  rw [if_pos (by omega), if_pos (by omega)]
  exact spoil_loop l.length hl l.length k _ 0 (by simp) (by omega) (by omega) (by omega) hk

theorem live_ok (k : Nat) (h : 20 ≤ k) : perilunelaw24_live.f k = some true :=
  at_rounds (g := fun k => perilunelaw24_live.f k) (fun k => perilunelaw24_live.mono k) h (by decide +kernel)

/-! ### sorted lists -/
theorem okF_ge : ∀ (p : Int) (l : List S24), okF p l = true → ∀ x ∈ l, p ≤ x.f0 ∧ x.f0 ≤ 1099511627776
  | _, [], _, x, hx => by simp at hx
  | p, t :: r, h, x, hx => by
    simp only [okF, Bool.and_eq_true, decide_eq_true_eq] at h
    rcases List.mem_cons.1 hx with rfl | hx
    · exact ⟨h.1, h.2.1⟩
    · have := okF_ge t.f0 r h.2.2 x hx
      exact ⟨by omega, this.2⟩

/-- the tasks whose time is at most a: a beginning of a sorted list -/
theorem okF_split (a : Int) : ∀ (p : Int) (l : List S24), okF p l = true → ∃ u v, l = u ++ v ∧ (∀ x ∈ u, x.f0 ≤ a) ∧ (∀ x ∈ v, a < x.f0)
  | _, [], _ => ⟨[], [], rfl, by simp, by simp⟩
  | p, t :: r, h => by
    simp only [okF, Bool.and_eq_true, decide_eq_true_eq] at h
    by_cases ht : t.f0 ≤ a
    · obtain ⟨u, v, e, hu, hv⟩ := okF_split a t.f0 r h.2.2
      refine ⟨t :: u, v, by rw [e]; rfl, fun x hx => ?_, hv⟩
      rcases List.mem_cons.1 hx with rfl | hx
      · exact ht
      · exact hu x hx
    · refine ⟨[], t :: r, rfl, by simp, fun x hx => ?_⟩
      rcases List.mem_cons.1 hx with rfl | hx
      · omega
      · have := okF_ge t.f0 r h.2.2 x hx
        omega

def le (a : Int) (l : List S24) : List S24 := l.filter fun x => decide (x.f0 ≤ a)
def gt (a : Int) (l : List S24) : List S24 := l.filter fun x => decide (x.f0 > a)

theorem le_split {a : Int} {u v : List S24} (hu : ∀ x ∈ u, x.f0 ≤ a) (hv : ∀ x ∈ v, a < x.f0) : le a (u ++ v) = u ∧ gt a (u ++ v) = v := by
  unfold le gt
  rw [List.filter_append, List.filter_append]
  have e1 : u.filter (fun x => decide (x.f0 ≤ a)) = u := List.filter_eq_self.2 (fun x hx => by simpa using hu x hx)
  have e2 : v.filter (fun x => decide (x.f0 ≤ a)) = [] := List.filter_eq_nil_iff.2 (fun x hx => by have := hv x hx; simp; omega)
  have e3 : u.filter (fun x => decide (x.f0 > a)) = [] := List.filter_eq_nil_iff.2 (fun x hx => by have := hu x hx; simp; omega)
  have e4 : v.filter (fun x => decide (x.f0 > a)) = v := List.filter_eq_self.2 (fun x hx => by have := hv x hx; simp; omega)
  rw [e1, e2, e3, e4]
  simp

theorem le_append_gt {p a : Int} {l : List S24} (h : okF p l = true) : le a l ++ gt a l = l ∧ l.take (le a l).length = le a l ∧ l.drop (le a l).length = gt a l := by
  obtain ⟨u, v, rfl, hu, hv⟩ := okF_split a p l h
  obtain ⟨e1, e2⟩ := le_split hu hv
  rw [e1, e2]
  simp
theorem okV_of {l : List S24} (h : okV l = true) : okF 0 l = true ∧ l.length ≤ 9 := by
  unfold okV at h
  simp only [Bool.and_eq_true, decide_eq_true_eq] at h
  exact ⟨h.1, by omega⟩

end Go.Proofs.Yteffinafobeefaa.Plain
