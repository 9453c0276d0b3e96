/- Words beside the print's: small arrays, told as structs of their elements. Printed by wip/arrwords.py. -/
import Derived.Test.YtndcaaklcacnoaaProg
import Derived.Test.YtndcaaklcacnoaaWWords
import Derived.ChangeKeysEq
import Derived.KernelRfl
import Derived.Tactics
set_option linter.unusedVariables false
namespace Go.Proofs.YtndcaaklcacnoaaW.PrintWords
open Go.RowKit
/-- The element that a variable index picks. -/
def pk6 {α : Type} (a0 a1 a2 a3 a4 a5 : α) (i : Int) : α := if i = 0 then a0 else if i = 1 then a1 else if i = 2 then a2 else if i = 3 then a3 else if i = 4 then a4 else a5
/-- Cell c after a store at index i. -/
def pt {α : Type} (c i : Int) (v old : α) : α := if i = c then v else old
section
variable {P : Program} {d : Nat} {xs ys : Array Value} {e c i : Nat} {is : List Nat} {a b : Value} {r s : Bool} {w : World}
theorem eqi_cons (ha : (part e xs (i * P.cellsOf e)).run P w = .ok a w) (hb : (part e ys (i * P.cellsOf e)).run P w = .ok b w) (he : (Op.equalIn d e a b).run P w = .ok r w) (hr : (Op.eqItems d e (P.cellsOf e) xs ys is).run P w = .ok s w) : (Op.eqItems d e (P.cellsOf e) xs ys (i :: is)).run P w = .ok (r && s) w := by
  rw [Op.eqItems]
  simp only [Sem.run_bind, ha, hb, he, Result.andThen_ok]
  cases r
  · simp
  · simpa using hr
theorem eqi_last (ha : (part e xs (i * P.cellsOf e)).run P w = .ok a w) (hb : (part e ys (i * P.cellsOf e)).run P w = .ok b w) (he : (Op.equalIn d e a b).run P w = .ok r w) : (Op.eqItems d e (P.cellsOf e) xs ys [i]).run P w = .ok r w := by
  rw [Op.eqItems]
  simp only [Sem.run_bind, ha, hb, he, Result.andThen_ok]
  cases r <;> simp [Op.eqItems]
theorem eqArr_of {n : Nat} {t : TypeId} (hu : P.underlying t = some (.array n e)) (hi : (P.info? e).isSome = true) (h : (Op.eqItems d e (P.cellsOf e) xs ys (List.range n)).run P w = .ok r w) : (Op.equalIn (d + 1) t (.agg xs) (.agg ys)).run P w = .ok r w := by
  obtain ⟨inf, hi⟩ := Option.isSome_iff_exists.1 hi
  rw [run_equalIn_array w d xs ys hu hi]
  exact h
end
theorem idxA45 (x0 : Int) (x1 : Int) (x2 : Int) (x3 : Int) (x4 : Int) (x5 : Int) (kk : IntKind) (j : Int) (h0 : 0 ≤ j) (h1 : j < 6) (W : World) : (Instr.index 45 (.agg #[.int .i64 x0, .int .i64 x1, .int .i64 x2, .int .i64 x3, .int .i64 x4, .int .i64 x5]) (.int kk j)).run Try.prog W = .ok (.int .i64 (pk6 x0 x1 x2 x3 x4 x5 j)) W := by
  obtain rfl | rfl | rfl | rfl | rfl | rfl : j = 0 ∨ j = 1 ∨ j = 2 ∨ j = 3 ∨ j = 4 ∨ j = 5 := (by omega) <;> rfl
theorem cellA45_0_0 {W : World} {g : Nat} {x0 : Int} {x1 : Int} {x2 : Int} {x3 : Int} {x4 : Int} {x5 : Int} (j : Int) (h0 : 0 ≤ j) (h1 : j < 6) (h : W.heap[g]? = some (.cells #[.int .i64 x0, .int .i64 x1, .int .i64 x2, .int .i64 x3, .int .i64 x4, .int .i64 x5] 45 (0, 0))) : W.cell? ⟨g, j.toNat, none⟩ = some (.int .i64 (pk6 x0 x1 x2 x3 x4 x5 j)) := by
  refine (blk_cell h _).trans ?_
  obtain rfl | rfl | rfl | rfl | rfl | rfl : j = 0 ∨ j = 1 ∨ j = 2 ∨ j = 3 ∨ j = 4 ∨ j = 5 := (by omega) <;> rfl
theorem putA45_0_0 {x0 : Int} {x1 : Int} {x2 : Int} {x3 : Int} {x4 : Int} {x5 : Int} (j : Int) (h0 : 0 ≤ j) (h1 : j < 6) (v : Int) : (#[.int .i64 x0, .int .i64 x1, .int .i64 x2, .int .i64 x3, .int .i64 x4, .int .i64 x5] : Array Value).setIfInBounds (j.toNat) (.int .i64 v) = #[.int .i64 (pt 0 j v x0), .int .i64 (pt 1 j v x1), .int .i64 (pt 2 j v x2), .int .i64 (pt 3 j v x3), .int .i64 (pt 4 j v x4), .int .i64 (pt 5 j v x5)] := by
  obtain rfl | rfl | rfl | rfl | rfl | rfl : j = 0 ∨ j = 1 ∨ j = 2 ∨ j = 3 ∨ j = 4 ∨ j = 5 := (by omega) <;> rfl
end Go.Proofs.YtndcaaklcacnoaaW.PrintWords
