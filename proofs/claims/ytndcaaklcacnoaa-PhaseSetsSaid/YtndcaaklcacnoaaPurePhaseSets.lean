/- For all numbers phase.Set returns what the reference returns, and Clear the cells of all groups with phase 0: the statement over numbers and lists. No condition. -/
import Derived.Test.YtndcaaklcacnoaaPPhaseSetsx2
namespace Go.Proofs.Ytndcaaklcacnoaa.Pure
open Go.RowKit Go.Proofs.Ytndcaaklcacnoaa.PPhaseSets Go.Proofs.YtndcaaklcacnoaaW.PrintWords Go.Proofs.YtndcaaklcacnoaaW.PrintLast

theorem PhaseSets_in : ∀ (i : Fin 6) (j : Fin 32), perilunelaw25_PhaseSets.f 40 ((i.val : Int) + 1) (j.val : Int) = some true := by decide +kernel

theorem PhaseSets_rest : ((phase_Clear.f 40).bind fun t143 => ((periluneref25_Clear.f 40).bind fun t146 => ((perilunelaw25_cells.f 40 t143 t146).bind fun t149 => (if t149 = true then ((perilunelaw25_live.f 40).bind fun t150 => (some t150)) else (some false))))) = some true := by decide +kernel

theorem PhaseSets_nil : perilunelaw25_cells.f 40 [] [] = some true := by decide +kernel

theorem PhaseSets_set (a0 a1 : Int) (h : a0 < 1 ∨ 6 < a0 ∨ a1 < 0 ∨ 31 < a1) : phase_Set.f 40 a0 a1 = some ([], 3) := by
  have hj : ∀ x y, phase_Set.j0 40 x y true = some ([], 3) := fun x y => rfl
  unfold phase_Set.f
  by_cases h1 : a0 < 1
  · rw [if_pos h1, hj]
  rw [if_neg h1]
  by_cases h2 : a0 > 6
  · rw [if_pos h2, hj]
  rw [if_neg h2]
  by_cases h3 : a1 < 0
  · rw [if_pos h3, hj]
  rw [if_neg h3, decide_eq_true (by omega), hj]

theorem PhaseSets_ref (a0 a1 : Int) (h : a0 < 1 ∨ 6 < a0 ∨ a1 < 0 ∨ 31 < a1) : periluneref25_Set.f a0 a1 = some ([], 3) := by
  unfold periluneref25_Set.f
  by_cases h1 : a0 < 1
  · rw [if_pos h1]
  rw [if_neg h1]
  by_cases h2 : a0 > 6
  · rw [if_pos h2]
  rw [if_neg h2]
  by_cases h3 : a1 < 0
  · rw [if_pos h3]
  rw [if_neg h3, if_pos (by omega)]

theorem PhaseSets : perilunelaw25_PhaseSets.Pure := by
  intro a0 a1 _ _
  refine ⟨40, ?_⟩
  by_cases h : a0 < 1 ∨ 6 < a0 ∨ a1 < 0 ∨ 31 < a1
  · unfold perilunelaw25_PhaseSets.f
    rw [PhaseSets_set a0 a1 h, PhaseSets_ref a0 a1 h]
    simp only [Option.bind_some, PhaseSets_nil, if_true]
    exact PhaseSets_rest
  · have e := PhaseSets_in ⟨(a0 - 1).toNat, by omega⟩ ⟨a1.toNat, by omega⟩
    simp only at e
    rw [show (((a0 - 1).toNat : Nat) : Int) + 1 = a0 from by omega, show ((a1.toNat : Nat) : Int) = a1 from by omega] at e
    exact e

end Go.Proofs.Ytndcaaklcacnoaa.Pure
