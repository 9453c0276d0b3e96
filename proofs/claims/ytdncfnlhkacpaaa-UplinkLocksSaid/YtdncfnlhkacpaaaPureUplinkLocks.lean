/- Plain facts: UplinkLocks answers true for every key code and every count of errors. No condition. -/
import Derived.Test.YtdncfnlhkacpaaaPx14
import Derived.Test.YtdncfnlhkacpaaaPlainU
namespace Go.Proofs.Ytdncfnlhkacpaaa.Pure
open Go.RowKit Go.Proofs.Ytdncfnlhkacpaaa.P Go.Proofs.Ytdncfnlhkacpaaa.Plain Go.Proofs.YtdncfnlhkacpaaaW.PrintWords Go.Proofs.YtdncfnlhkacpaaaW.PrintLast

theorem bits_w16 (y : Int) : okBits (w16 y) := by
  simp only [okBits, w16, wb]
  omega

def bad16 : T16 := (2, 0, 0, 0, 0, 0, 0, 0, 0, 0, 0, 0, 0, 0, 0, 0)
theorem key_bad : keyT bad16 = (0, false) := by
  apply keyOf_none
  rintro ⟨y, _, _, h⟩
  have := congrArg Prod.fst h
  simp only [bad16, w16, wb] at this
  omega

theorem UplinkLocks : perilunelaw32_UplinkLocks.Pure := by
  intro a0 a1 w0 w1
  have h0 : 0 ≤ a0 ∧ a0 ≤ 255 := by simpa [Lit.wf, IntKind.min, IntKind.max, IntKind.signed, IntKind.bits] using w0
  have e : (wrap64 a0).tmod 32 = a0 % 32 := by
    have w1 : wrap64 a0 = a0 := by unfold wrap64; omega
    rw [w1, Int.tmod_eq_emod_of_nonneg h0.1]
  refine ⟨61, ?_⟩
  obtain ⟨i, hi⟩ : ∃ i, i = a0 % 32 := ⟨_, rfl⟩
  have i0 : 0 ≤ i := by omega
  have i1 : i < 32 := by omega
  have r1 := recv_at true a1 (w16 i) (bits_w16 i) 61 (by omega)
  have r2 := recv_at false a1 (w16 i) (bits_w16 i) 61 (by omega)
  have r3 := recv_at false a1 bad16 ⟨by decide, by decide, by decide, by decide, by decide⟩ 61 (by omega)
  have a := awake_at 60 (by omega)
  unfold U16 at r1 r2 r3
  simp only [recv, keyOf_word i i0 i1, key_bad] at r1 r2 r3
  simp only [bad16] at r3
  unfold perilunelaw32_UplinkLocks.f
  rw [e, ← hi, word_at i i0 i1 61 (by omega)]
  simp only [Option.bind_some, ext]
  rw [r1, r2]
  simp only [if_true, Option.bind_some]
  rw [r3]
  by_cases c : a1 < 32767
  · simp only [c, if_true, Option.bind_some]
    simp [perilunelaw32_UplinkLocks.j0, a, Int.not_le.mpr c]
  · simp only [c, if_false, Option.bind_some]
    have c' : 32767 ≤ a1 := by omega
    simp [perilunelaw32_UplinkLocks.j0, a, c']

end Go.Proofs.Ytdncfnlhkacpaaa.Pure
