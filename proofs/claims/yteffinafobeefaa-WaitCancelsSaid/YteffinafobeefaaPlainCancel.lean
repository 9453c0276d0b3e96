/- Cancel of package waitlist and of its reference over lists, and the law WaitCancels. Condition: a list has at most 5864062014634 elements. -/
import Derived.Test.YteffinafobeefaaPlain
import Derived.Test.YteffinafobeefaaPx6
namespace Go.Proofs.Yteffinafobeefaa.Plain
open Go.RowKit Go.Proofs.Yteffinafobeefaa.P Go.Proofs.YteffinafobeefaaW.PrintWords Go.Proofs.YteffinafobeefaaW.PrintLast

/-! ### Cancel -/
def keep (b c : Int) (l : List S24) : List S24 := l.filter fun x => !(decide (x.f1 = b) && decide (x.f2 = c))
def cancelS (l : List S24) (b c : Int) : List S24 × Int := if okV l = true then (keep b c l, (l.length : Int) - ((keep b c l).length : Int)) else ([], 0)

theorem cancel_loop (l : List S24) (hl : l.length ≤ 9) (b c : Int) (d : Nat) : ∀ (k : Nat) (acc : List S24) (i : Int), acc.length ≤ i → 0 ≤ i → i ≤ l.length → (l.length : Int) - i = d → d < k →
    waitlist_Cancel.l0 k l b c acc l (l.length : Int) i = some (acc ++ keep b c (l.drop i.toNat), (l.length : Int) - ((acc ++ keep b c (l.drop i.toNat)).length : Int)) := by
  induction d with
  | zero =>
    intro k acc i hacc h0 h1 hd hk
    obtain ⟨k, rfl⟩ : ∃ m, k = m + 1 := ⟨k - 1, by omega⟩
    simp only [waitlist_Cancel.l0]
    rw [if_neg (by omega), List.drop_eq_nil_of_le (by omega), wrap_id _ (by omega) (by omega)]
    simp [keep]
  | succ d ih =>
    intro k acc i hacc h0 h1 hd hk
    obtain ⟨k, rfl⟩ : ∃ m, k = m + 1 := ⟨k - 1, by omega⟩
    simp only [waitlist_Cancel.l0, eta24]
    rw [if_pos (by omega), if_pos h0, if_pos (by omega), wrap_id (i + 1) (by omega) (by omega), drop_rd l i h0 (by omega)]
    by_cases h : (rd_T24 l i).f1 = b
    · rw [if_pos h]
      by_cases h2 : (rd_T24 l i).f2 = c
      · rw [if_pos h2, ih k _ (i + 1) (by omega) (by omega) (by omega) (by omega) (by omega)]
        simp [keep, h, h2]
      · rw [if_neg h2, if_pos (by omega), ih k _ (i + 1) (by simp; omega) (by omega) (by omega) (by omega) (by omega)]
        simp [keep, h2]
    · rw [if_neg h, if_pos (by omega), ih k _ (i + 1) (by simp; omega) (by omega) (by omega) (by omega) (by omega)]
      simp [keep, h]

theorem cancel_ok (l : List S24) (hl : l.length ≤ 5864062014634) (b c : Int) (k : Nat) (hk : l.length < k) : waitlist_Cancel.f k l b c = some (cancelS l b c) := by
  unfold waitlist_Cancel.f cancelS
  rw [valid_ok l hl k hk]
  simp only [Option.bind_some]
  cases hv : okV l with
  | false => rw [if_neg (by decide), if_neg (by decide)]
  | true =>
    rw [if_pos rfl, if_pos rfl, cancel_loop l (okV_of hv).2 b c l.length k [] 0 (by simp) (by omega) (by omega) (by omega) (by omega)]
    simp

theorem refCancel_loop (l : List S24) (hv : okV l = true) (b c : Int) (d : Nat) : ∀ (k : Nat) (acc : List S24) (n i : Int), acc.length ≤ i → n = i - acc.length → 0 ≤ i → i ≤ l.length → (l.length : Int) - i = d → 2 * d + 20 < k →
    periluneref24_Cancel.l0 k l b c acc n i = some (acc ++ keep b c (l.drop i.toNat), (l.length : Int) - ((acc ++ keep b c (l.drop i.toNat)).length : Int)) := by
  obtain ⟨hF, h9⟩ := okV_of hv
  induction d with
  | zero =>
    intro k acc n i hacc hn h0 h1 hd hk
    obtain ⟨k, rfl⟩ : ∃ m, k = m + 2 := ⟨k - 2, by omega⟩
    simp only [periluneref24_Cancel.l0, periluneref24_Cancel.j1]
    rw [if_neg (by omega), if_neg (by decide), List.drop_eq_nil_of_le (by omega)]
    simp [keep]
    omega
  | succ d ih =>
    intro k acc n i hacc hn h0 h1 hd hk
    obtain ⟨k, rfl⟩ : ∃ m, k = m + 2 := ⟨k - 2, by omega⟩
    simp only [periluneref24_Cancel.l0]
    rw [if_pos (by omega), refValid_ok l _ (by omega), hv]
    simp only [Option.bind_some, periluneref24_Cancel.j1, eta24]
    rw [if_pos trivial, if_pos h0, if_pos (by omega), wrap_id (i + 1) (by omega) (by omega), wrap_id (n + 1) (by omega) (by omega), drop_rd l i h0 (by omega)]
    by_cases h : (rd_T24 l i).f1 = b
    · rw [if_pos h]
      by_cases h2 : (rd_T24 l i).f2 = c
      · rw [if_pos h2, ih k _ _ (i + 1) (by omega) (by omega) (by omega) (by omega) (by omega) (by omega)]
        simp [keep, h, h2]
      · rw [if_neg h2, if_pos (by omega), ih k _ _ (i + 1) (by simp; omega) (by simp; omega) (by omega) (by omega) (by omega) (by omega)]
        simp [keep, h2]
    · rw [if_neg h, if_pos (by omega), ih k _ _ (i + 1) (by simp; omega) (by simp; omega) (by omega) (by omega) (by omega) (by omega)]
      simp [keep, h]

theorem refCancel_ok (l : List S24) (b c : Int) (k : Nat) (hk : 60 < k) : periluneref24_Cancel.f k l b c = some (cancelS l b c) := by
  unfold periluneref24_Cancel.f cancelS
  cases hv : okV l with
  | true =>
    rw [if_pos rfl, refCancel_loop l hv b c l.length k [] 0 0 (by simp) (by simp) (by omega) (by omega) (by omega) (by have := (okV_of hv).2; omega)]
    simp
  | false =>
    rw [if_neg (by decide)]
    obtain ⟨k, rfl⟩ : ∃ m, k = m + 2 := ⟨k - 2, by omega⟩
    simp only [periluneref24_Cancel.l0]
    rw [refValid_ok l _ (by omega), hv]
    simp only [Option.bind_some, periluneref24_Cancel.j1, Bool.false_eq_true, if_false, ite_self]

theorem keep_all {b c : Int} {l : List S24} : ∀ x ∈ keep b c l, ¬ (x.f1 = b ∧ x.f2 = c) := by
  intro x hx h
  unfold keep at hx
  rw [List.mem_filter] at hx
  simp [h.1, h.2] at hx

theorem cancels_loop (l a : List S24) (hl : l.length ≤ 5864062014634) (ha : a.length ≤ l.length) (b c : Int) (hx : ∀ x ∈ a, ¬ (x.f1 = b ∧ x.f2 = c)) (d : Nat) : ∀ (k : Nat) (i : Int), 0 ≤ i → i ≤ a.length → (a.length : Int) - i = d → d + l.length + 30 < k →
    perilunelaw24_WaitCancels.l0 k l b c l a true i = some true := by
  induction d with
  | zero =>
    intro k i h0 h1 hd hk
    obtain ⟨k, rfl⟩ : ∃ m, k = m + 1 := ⟨k - 1, by omega⟩
    simp only [perilunelaw24_WaitCancels.l0]
    rw [if_neg (by omega), spoil_ok a (by omega) k (by omega), same_ok l hl k (by omega), live_ok k (by omega)]
    simp
  | succ d ih =>
    intro k i h0 h1 hd hk
    obtain ⟨k, rfl⟩ : ∃ m, k = m + 1 := ⟨k - 1, by omega⟩
    simp only [perilunelaw24_WaitCancels.l0]
    rw [if_pos (by omega), if_pos trivial, if_pos h0, wrap_id (i + 1) (by omega) (by omega)]
    by_cases h : (rd_T24 a i).f1 = b
    · have hm : rd_T24 a i ∈ a := by rw [rd_at a i h0 (by omega)]; exact List.getElem_mem _
      have hne : ¬ (rd_T24 a i).f2 = c := fun e => hx _ hm ⟨h, e⟩
      rw [if_pos h, bne_iff_ne.2 hne]
      exact ih k (i + 1) (by omega) (by omega) (by omega) (by omega)
    · rw [if_neg h]
      exact ih k (i + 1) (by omega) (by omega) (by omega) (by omega)

theorem WaitCancels_pure (l : List S24) (hl : l.length ≤ 5864062014634) (b c : Int) : ∃ k, perilunelaw24_WaitCancels.f k l b c = some true := by
  refine ⟨2 * l.length + 102, ?_⟩
  have hn : (cancelS l b c).1.length ≤ l.length ∧ ∀ x ∈ (cancelS l b c).1, ¬ (x.f1 = b ∧ x.f2 = c) := by
    unfold cancelS
    cases okV l with
    | true => rw [if_pos rfl]; exact ⟨List.length_filter_le _ _, keep_all⟩
    | false => rw [if_neg (by decide)]; simp
  unfold perilunelaw24_WaitCancels.f
  rw [copy_ok l hl]
  simp only [Option.bind_some]
  rw [cancel_ok l hl b c _ (by omega), refCancel_ok l b c _ (by omega)]
  simp only [Option.bind_some]
  rw [same_ok _ (by omega) _ (by omega)]
  simp only [Option.bind_some, if_true, beq_self_eq_true, perilunelaw24_WaitCancels.j0]
  exact cancels_loop l _ hl hn.1 b c hn.2 (cancelS l b c).1.length _ 0 (by omega) (by omega) (by omega) (by omega)
end Go.Proofs.Yteffinafobeefaa.Plain
