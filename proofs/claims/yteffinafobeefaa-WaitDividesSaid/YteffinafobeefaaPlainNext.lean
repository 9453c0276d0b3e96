/- Next, and the reference's Due, over lists, and the law WaitDivides. Condition: a list has at most 5864062014634 elements. -/
import Derived.Test.YteffinafobeefaaPlainDue
import Derived.Test.YteffinafobeefaaPx7
namespace Go.Proofs.Yteffinafobeefaa.Plain
open Go.RowKit Go.Proofs.Yteffinafobeefaa.P Go.Proofs.YteffinafobeefaaW.PrintWords Go.Proofs.YteffinafobeefaaW.PrintLast

theorem refDue_loop (l : List S24) (hv : okV l = true) (a : Int) (d : Nat) : ∀ (k : Nat) (x y : List S24) (i : Int), x.length ≤ i → y.length ≤ i → 0 ≤ i → i ≤ l.length → (l.length : Int) - i = d → 2 * d + 20 < k →
    periluneref24_Due.l0 k l a x y i = some (x ++ le a (l.drop i.toNat), y ++ gt a (l.drop i.toNat)) := by
  obtain ⟨hF, h9⟩ := okV_of hv
  induction d with
  | zero =>
    intro k x y i hx hy h0 h1 hd hk
    obtain ⟨k, rfl⟩ : ∃ m, k = m + 2 := ⟨k - 2, by omega⟩
    simp only [periluneref24_Due.l0, periluneref24_Due.j1]
    rw [if_neg (by omega), if_neg (by decide), List.drop_eq_nil_of_le (by omega)]
    simp [le, gt]
  | succ d ih =>
    intro k x y i hx hy h0 h1 hd hk
    obtain ⟨k, rfl⟩ : ∃ m, k = m + 2 := ⟨k - 2, by omega⟩
    simp only [periluneref24_Due.l0]
    rw [if_pos (by omega), refValid_ok l _ (by omega), hv]
    simp only [Option.bind_some, periluneref24_Due.j1, eta24]
    rw [if_pos trivial, if_pos h0, if_pos (by omega), wrap_id (i + 1) (by omega) (by omega), drop_rd l i h0 (by omega)]
    by_cases h : (rd_T24 l i).f0 ≤ a
    · rw [if_pos h, if_pos (by omega), ih k _ _ (i + 1) (by simp; omega) (by omega) (by omega) (by omega) (by omega) (by omega)]
      simp [le, gt, h, show ¬ (rd_T24 l i).f0 > a from by omega]
    · rw [if_neg h, if_pos (by omega), ih k _ _ (i + 1) (by omega) (by simp; omega) (by omega) (by omega) (by omega) (by omega)]
      simp [le, gt, h, show (rd_T24 l i).f0 > a from by omega]

theorem refDue_ok (l : List S24) (a : Int) (k : Nat) (hk : 60 < k) : periluneref24_Due.f k l a = some (dueS l a) := by
  unfold periluneref24_Due.f dueS
  cases hv : okV l with
  | true =>
    rw [if_pos rfl, refDue_loop l hv a l.length k [] [] 0 (by simp) (by simp) (by omega) (by omega) (by omega) (by have := (okV_of hv).2; omega)]
    simp
  | false =>
    rw [if_neg (by decide)]
    obtain ⟨k, rfl⟩ : ∃ m, k = m + 2 := ⟨k - 2, by omega⟩
    simp only [periluneref24_Due.l0]
    rw [refValid_ok l _ (by omega), hv]
    simp only [Option.bind_some, periluneref24_Due.j1, Bool.false_eq_true, if_false, ite_self]

/-! ### Next -/
def nextS (l : List S24) : Int × Bool := if okV l = true ∧ l.length ≠ 0 then ((rd_T24 l 0).f0, true) else (0, false)

theorem next_ok (l : List S24) (hl : l.length ≤ 5864062014634) (k : Nat) (hk : l.length < k) : waitlist_Next.f k l = some (nextS l) := by
  unfold waitlist_Next.f nextS
  rw [valid_ok l hl k hk]
  simp only [Option.bind_some]
  cases hv : okV l with
  | false => rw [if_neg (by decide), if_neg (by simp)]
  | true =>
    rw [if_pos rfl]
    by_cases h : (l.length : Int) = 0
    · rw [if_pos h, if_neg (by omega)]
    · rw [if_neg h, if_pos (by omega), if_pos ⟨rfl, by omega⟩]

theorem refNext_ok (l : List S24) (k : Nat) (hk : 20 < k) : periluneref24_Next.f k l = some (nextS l) := by
  unfold periluneref24_Next.f nextS
  by_cases h : (l.length : Int) = 0
  · rw [if_pos h, if_neg (by omega)]
  · rw [if_neg h, refValid_ok l k (by omega)]
    simp only [Option.bind_some]
    cases hv : okV l with
    | false => rw [if_neg (by decide), if_neg (by simp)]
    | true => rw [if_pos rfl, if_pos (by omega), if_pos ⟨rfl, by omega⟩]

theorem WaitDivides_pure (l : List S24) (hl : l.length ≤ 5864062014634) (a : Int) : ∃ k, perilunelaw24_WaitDivides.f k l a = some true := by
  refine ⟨l.length + 102, ?_⟩
  obtain ⟨n1, n2⟩ := dueS_len l a
  unfold perilunelaw24_WaitDivides.f
  rw [copy_ok l hl]
  simp only [Option.bind_some]
  rw [due_ok l hl a _ (by omega), refDue_ok l a _ (by omega), next_ok l hl _ (by omega), refNext_ok l _ (by omega)]
  simp only [Option.bind_some]
  rw [same_ok _ (by omega) _ (by omega), same_ok _ (by omega) _ (by omega)]
  simp only [Option.bind_some, if_true, bne_self_eq_false]
  simp only [perilunelaw24_WaitDivides.j0]
  rw [if_neg (by decide), refValid_ok l _ (by omega)]
  simp only [Option.bind_some]
  have hend : perilunelaw24_WaitDivides.j1 (l.length + 101) l l (dueS l a).1 (dueS l a).2 (dueS l a).2 false = some true := by
    simp only [perilunelaw24_WaitDivides.j1]
    rw [if_neg (by decide), spoil_ok _ (by omega) _ (by omega), same_ok _ (by omega) _ (by omega), spoil_ok _ (by omega) _ (by omega), same_ok l hl _ (by omega), live_ok _ (by omega)]
    simp
  cases hv : okV l with
  | false => rw [if_neg (by decide), hend]
  | true =>
    rw [if_pos rfl, copy_ok _ (by omega)]
    simp only [Option.bind_some]
    have e : (dueS l a).1 ++ (dueS l a).2 = l := by
      unfold dueS
      rw [if_pos hv]
      exact (le_append_gt (okV_of hv).1).1
    have e2 : (dueS l a).1.length + (dueS l a).2.length = l.length := by rw [← List.length_append, e]
    rw [if_pos (by omega), e, same_ok l hl _ (by omega)]
    simp only [Option.bind_some, Bool.not_true]
    exact hend

end Go.Proofs.Yteffinafobeefaa.Plain
