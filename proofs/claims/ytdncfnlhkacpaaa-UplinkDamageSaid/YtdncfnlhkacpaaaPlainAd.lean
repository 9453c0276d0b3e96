/- Plain facts on what All of package uplink and of its reference answer, over lists of words. Condition: a list has at most 800 words; bits are from 0 to 255. -/
import Derived.Test.YtdncfnlhkacpaaaPlainUd
import Derived.Test.YtdncfnlhkacpaaaPx15
import Derived.Test.YtdncfnlhkacpaaaPx17
namespace Go.Proofs.Ytdncfnlhkacpaaa.Plain
open Go.RowKit Go.Proofs.Ytdncfnlhkacpaaa.P Go.Proofs.YtdncfnlhkacpaaaW.PrintWords Go.Proofs.YtdncfnlhkacpaaaW.PrintLast

theorem wrap_id (x : Int) (h0 : -9223372036854775808 ≤ x) (h1 : x ≤ 9223372036854775807) : wrap64 x = x := by unfold wrap64; omega
theorem rd_at (l : List S22) (i : Int) (h0 : 0 ≤ i) (h1 : i < (l.length : Int)) : rd_T22 l i = l[i.toNat]'(by omega) := by
  unfold rd_T22
  rw [List.getD_eq_getElem?_getD, List.getElem?_eq_getElem (by omega)]
  rfl
theorem drop_rd (l : List S22) (i : Int) (h0 : 0 ≤ i) (h1 : i < (l.length : Int)) : l.drop i.toNat = rd_T22 l i :: l.drop (i + 1).toNat := by
  rw [List.drop_eq_getElem_cons (by omega), rd_at l i h0 h1, show (i + 1).toNat = i.toNat + 1 from by omega]
def t16 (t : S22) : T16 := (t.f0, t.f1, t.f2, t.f3, t.f4, t.f5, t.f6, t.f7, t.f8, t.f9, t.f10, t.f11, t.f12, t.f13, t.f14, t.f15)
def okL (l : List S22) : Prop := ∀ t ∈ l, okBits (t16 t)
theorem okL_rd {l : List S22} (h : okL l) (i : Int) (h0 : 0 ≤ i) (h1 : i < (l.length : Int)) : okBits (t16 (rd_T22 l i)) := by
  rw [rd_at l i h0 h1]
  exact h _ (List.getElem_mem _)
noncomputable def runAll : List S22 → Bool → Int → List Int → List Int × Bool × Int
  | [], lk, n, out => (out, lk, n)
  | t :: r, lk, n, out => if (recv lk n (t16 t)).2.2.2 = true then runAll r (recv lk n (t16 t)).1 (recv lk n (t16 t)).2.1 (out ++ [(recv lk n (t16 t)).2.2.1]) else runAll r (recv lk n (t16 t)).1 (recv lk n (t16 t)).2.1 out
theorem runAll_append (a b : List S22) : ∀ (lk : Bool) (n : Int) (out : List Int), runAll (a ++ b) lk n out = runAll b (runAll a lk n out).2.1 (runAll a lk n out).2.2 (runAll a lk n out).1 := by
  induction a with
  | nil => intro lk n out; rfl
  | cons t r ih =>
    intro lk n out
    simp only [List.cons_append, runAll]
    split <;> exact ih _ _ _
theorem runAll_length (l : List S22) : ∀ (lk : Bool) (n : Int) (out : List Int), (runAll l lk n out).1.length ≤ out.length + l.length := by
  induction l with
  | nil => intro lk n out; simp [runAll]
  | cons t r ih =>
    intro lk n out
    simp only [runAll]
    split
    · have := ih (recv lk n (t16 t)).1 (recv lk n (t16 t)).2.1 (out ++ [(recv lk n (t16 t)).2.2.1])
      simp only [List.length_append, List.length_cons, List.length_nil] at this ⊢
      omega
    · have := ih (recv lk n (t16 t)).1 (recv lk n (t16 t)).2.1 out
      simp only [List.length_cons]
      omega

theorem all_loop (l : List S22) (hb : okL l) (hl : l.length ≤ 800) (d : Nat) : ∀ (k : Nat) (i : Int) (lk : Bool) (n : Int) (out : List Int), 0 ≤ i → i ≤ l.length → (l.length : Int) - i = d → d + 61 ≤ k → (out.length : Int) ≤ i →
    uplink_All.l0 k out l (l.length : Int) i lk n = some (runAll (l.drop i.toNat) lk n out) := by
  induction d with
  | zero =>
    intro k i lk n out h0 h1 hd hk ho
    obtain ⟨k, rfl⟩ : ∃ j, k = j + 1 := ⟨k - 1, by omega⟩
    rw [uplink_All.l0, if_neg (by omega), List.drop_eq_nil_of_le (by omega)]
    rfl
  | succ d ih =>
    intro k i lk n out h0 h1 hd hk ho
    obtain ⟨k, rfl⟩ : ∃ j, k = j + 1 := ⟨k - 1, by omega⟩
    have ha := after_at lk n (t16 (rd_T22 l i)) (okL_rd hb i h0 (by omega)) k (by omega)
    simp only [t16] at ha
    rw [uplink_All.l0, if_pos (by omega), if_pos h0, if_pos (by omega), ha, drop_rd l i h0 (by omega)]
    simp only [Option.bind_some, runAll]
    rw [wrap_id (i + 1) (by omega) (by omega)]
    by_cases c : (recv lk n (t16 (rd_T22 l i))).2.2.2 = true
    · have c' := c
      simp only [t16] at c'
      rw [if_pos c, if_pos c', if_pos (by omega), ih k (i + 1) _ _ _ (by omega) (by omega) (by omega) (by omega) (by simp; omega)]
      rfl
    · have c' := c
      simp only [t16] at c'
      rw [if_neg c, if_neg c', ih k (i + 1) _ _ _ (by omega) (by omega) (by omega) (by omega) (by omega)]
      rfl
theorem all_at (l : List S22) (hb : okL l) (hl : l.length ≤ 800) (k : Nat) (hk : 900 ≤ k) : uplink_All.f k l = some (runAll l false 0 []) := by
  unfold uplink_All.f
  rw [all_loop l hb hl l.length k 0 false 0 [] (by omega) (by omega) (by omega) (by omega) (by simp)]
  rfl
theorem same_loop (x : List Int) (hl : x.length ≤ 800) (d : Nat) : ∀ (k : Nat) (i : Int), 0 ≤ i → i ≤ x.length → (x.length : Int) - i = d → d < k → periluneref32_Same.l0 k x x i = some true := by
  induction d with
  | zero =>
    intro k i h0 h1 hd hk
    obtain ⟨k, rfl⟩ : ∃ j, k = j + 1 := ⟨k - 1, by omega⟩
    rw [periluneref32_Same.l0, if_neg (by omega)]
  | succ d ih =>
    intro k i h0 h1 hd hk
    obtain ⟨k, rfl⟩ : ∃ j, k = j + 1 := ⟨k - 1, by omega⟩
    rw [periluneref32_Same.l0, if_pos (by omega), if_pos h0, if_pos (by omega), if_pos rfl, wrap_id (i + 1) (by omega) (by omega)]
    exact ih k (i + 1) (by omega) (by omega) (by omega) (by omega)
theorem same_at (x : List Int) (hl : x.length ≤ 800) (k : Nat) (hk : 900 ≤ k) : periluneref32_Same.f k x x = some true := by
  unfold periluneref32_Same.f
  rw [if_pos rfl]
  exact same_loop x hl x.length k 0 (by omega) (by omega) (by omega) (by omega)

end Go.Proofs.Ytdncfnlhkacpaaa.Plain
