/- Plain facts: UplinkFar answers true for every two key codes: it sees them modulo 32 alone, and the 32 times 32 pairs are looked at one by one. No condition. -/
import Derived.Test.YtdncfnlhkacpaaaPx13
namespace Go.Proofs.Ytdncfnlhkacpaaa.Pure
open Go.RowKit Go.Proofs.Ytdncfnlhkacpaaa.P Go.Proofs.YtdncfnlhkacpaaaW.PrintWords Go.Proofs.YtdncfnlhkacpaaaW.PrintLast

theorem far_all : ∀ i j : Fin 32, perilunelaw32_UplinkFar.f 40 (Int.ofNat i.val) (Int.ofNat j.val) = some true := by decide +kernel

theorem far_mod (k : Nat) (a0 a1 : Int) (h0 : 0 ≤ a0) (h1 : a0 ≤ 255) (h2 : 0 ≤ a1) (h3 : a1 ≤ 255) :
    perilunelaw32_UplinkFar.f k a0 a1 = perilunelaw32_UplinkFar.f k (a0 % 32) (a1 % 32) := by
  have e : ∀ a : Int, 0 ≤ a → a ≤ 255 → (wrap64 a).tmod 32 = (wrap64 (a % 32)).tmod 32 := by
    intro a h h'
    have w1 : wrap64 a = a := by unfold wrap64; omega
    have w2 : wrap64 (a % 32) = a % 32 := by unfold wrap64; omega
    rw [w1, w2, Int.tmod_eq_emod_of_nonneg h, Int.tmod_eq_emod_of_nonneg (by omega)]
    omega
  unfold perilunelaw32_UplinkFar.f
  rw [e a0 h0 h1, e a1 h2 h3]

theorem UplinkFar : perilunelaw32_UplinkFar.Pure := by
  intro a0 a1 w0 w1
  refine ⟨40, ?_⟩
  have h0 : 0 ≤ a0 ∧ a0 ≤ 255 := by simpa [Lit.wf, IntKind.min, IntKind.max, IntKind.signed, IntKind.bits] using w0
  have h1 : 0 ≤ a1 ∧ a1 ≤ 255 := by simpa [Lit.wf, IntKind.min, IntKind.max, IntKind.signed, IntKind.bits] using w1
  rw [far_mod 40 a0 a1 h0.1 h0.2 h1.1 h1.2]
  have := far_all ⟨(a0 % 32).toNat, by omega⟩ ⟨(a1 % 32).toNat, by omega⟩
  simp only [Int.ofNat_eq_natCast] at this
  rwa [Int.toNat_of_nonneg (by omega), Int.toNat_of_nonneg (by omega)] at this

end Go.Proofs.Ytdncfnlhkacpaaa.Pure
