/- Openers of arguments: arrays of whole numbers. -/
import Derived.Test.YtdncfnlhkacpaaaProg
import Derived.WalkKit
import Derived.ProofKit
import Derived.OpenShut
import Derived.Below
import Derived.SizedLaws
import Derived.ChangeOld
import Derived.Lib.SmallJoins
namespace Go.Proofs.Ytdncfnlhkacpaaa
open Go.ChangeShapes Go.WideShapes Go.ChangeAt Go.RowKit Go.Joins
set_option linter.unusedVariables false
theorem open_arr_ints {H : Type} {enc : TypeId × Value → H} {P : Program} {w : World} {base : Nat} {spare : Nat → Bool} {held : Bool} {r : Reach} {b0 : Nat} {t e : TypeId} {n : Nat} {k : IntKind} {v : Value} {d : DataW H} {p : List MemPlace}
    (ht : P.underlying t = some (.array n e)) (he : P.underlying e = some (.int k)) (hce : P.cellsOf e = 1) (hC : P.cellsOf t = n) (hv : Value.okWide P w r b0 t v) (h : DataW.Trod enc P w base spare held t v d p) :
    ∃ zs : List Int, v = .agg (zs.map (Value.int k)).toArray ∧ zs.length = n ∧ ∀ z ∈ zs, (Lit.int k z).wf = true := by
  obtain ⟨cs, rfl, hsz⟩ : ∃ cs, v = .agg cs ∧ cs.size = P.cellsOf t := by
    simp only [Value.okWide, ht] at hv
    obtain ⟨cs, h1, h2, _⟩ := hv
    exact ⟨cs, h1, h2⟩
  obtain ⟨fuel, hf⟩ := h
  obtain ⟨xs, m, rfl, hx, hl, hlen, hel⟩ := DataW.trod_array ht hf
  have hn : cs.toList.length = n := by rw [Array.length_toList, hsz, hC]
  have key : ∀ i (hi : i < cs.toList.length), ∃ a, cs.toList[i] = .int k a ∧ (Lit.int k a).wf = true := by
    intro i hi
    have h1 := hel i (by omega)
    rw [hce, Nat.mul_one, List.getElem?_eq_getElem (by omega)] at h1
    have e1 : ((Value.agg cs).cells.toList.drop i).take 1 = [cs.toList[i]] := by
      show (cs.toList.drop i).take 1 = _
      rw [List.drop_eq_getElem_cons hi]
      rfl
    rw [e1] at h1
    obtain ⟨a, e2, _, w1⟩ := DataW.trod_int he h1
    simp only [List.cons.injEq, and_true] at e2
    exact ⟨a, e2, w1⟩
  let g : Value → Int := fun v => match v with | .int _ a => a | _ => 0
  refine ⟨cs.toList.map g, ?_, by rw [List.length_map, hn], ?_⟩
  · congr 1
    rw [← Array.toList_inj]
    refine List.ext_getElem (by simp) fun i h1 h2 => ?_
    obtain ⟨a, ha, _⟩ := key i h1
    simp only [List.getElem_map, ha, g]
  · intro z hz
    obtain ⟨v, hv1, rfl⟩ := List.mem_map.1 hz
    obtain ⟨i, hi, rfl⟩ := List.getElem_of_mem hv1
    obtain ⟨a, ha, hw⟩ := key i hi
    rw [ha]
    exact hw

theorem sixteen : ∀ (zs : List Int), zs.length = 16 → ∃ a0 a1 a2 a3 a4 a5 a6 a7 a8 a9 a10 a11 a12 a13 a14 a15, zs = [a0, a1, a2, a3, a4, a5, a6, a7, a8, a9, a10, a11, a12, a13, a14, a15]
  | [a0, a1, a2, a3, a4, a5, a6, a7, a8, a9, a10, a11, a12, a13, a14, a15], _ => ⟨a0, a1, a2, a3, a4, a5, a6, a7, a8, a9, a10, a11, a12, a13, a14, a15, rfl⟩
end Go.Proofs.Ytdncfnlhkacpaaa
