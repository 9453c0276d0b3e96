/- The law's ints over lists of numbers. Condition: a list has at most 17592186043904 elements. -/
import Derived.Test.YteffinafobeefaaPlain
import Derived.Test.YteffinafobeefaaPx8
namespace Go.Proofs.Yteffinafobeefaa.Plain
open Go.RowKit Go.Proofs.Yteffinafobeefaa.P Go.Proofs.YteffinafobeefaaW.PrintWords Go.Proofs.YteffinafobeefaaW.PrintLast

theorem ints_loop (l : List Int) (hl : l.length ≤ 17592186043904) (d : Nat) : ∀ (k : Nat) (i : Int), 0 ≤ i → i ≤ l.length → (l.length : Int) - i = d → d < k → perilunelaw24_ints.l0 k l l i = some true := by
  induction d with
  | zero =>
    intro k i h0 h1 hd hk
    obtain ⟨k, rfl⟩ : ∃ m, k = m + 1 := ⟨k - 1, by omega⟩
    simp only [perilunelaw24_ints.l0]
    rw [if_neg (by omega)]
  | succ d ih =>
    intro k i h0 h1 hd hk
    obtain ⟨k, rfl⟩ : ∃ m, k = m + 1 := ⟨k - 1, by omega⟩
    simp only [perilunelaw24_ints.l0]
    rw [if_pos (by omega), if_pos h0, if_pos (by omega), if_pos trivial, wrap_id (i + 1) (by omega) (by omega)]
    exact ih k (i + 1) (by omega) (by omega) (by omega) (by omega)

theorem ints_ok (l : List Int) (hl : l.length ≤ 17592186043904) (k : Nat) (hk : l.length < k) : perilunelaw24_ints.f k l l = some true := by
  unfold perilunelaw24_ints.f
  rw [if_pos rfl]
  exact ints_loop l hl l.length k 0 (by omega) (by omega) (by omega) hk

end Go.Proofs.Yteffinafobeefaa.Plain
