/- Plain facts: UplinkKeys and UplinkReceives answer true for all key codes, states and words. Condition: bits are from 0 to 255. -/
import Derived.Test.YtdncfnlhkacpaaaPx11
import Derived.Test.YtdncfnlhkacpaaaPx12
import Derived.Test.YtdncfnlhkacpaaaPlainU
namespace Go.Proofs.Ytdncfnlhkacpaaa.Pure
open Go.RowKit Go.Proofs.Ytdncfnlhkacpaaa.P Go.Proofs.Ytdncfnlhkacpaaa.Plain Go.Proofs.YtdncfnlhkacpaaaW.PrintWords Go.Proofs.YtdncfnlhkacpaaaW.PrintLast

theorem UplinkKeys (a0 : Int) (a : T16) (hb : okBits a) : perilunelaw32_UplinkKeys.f 61 a0 a.1 a.2.1 a.2.2.1 a.2.2.2.1 a.2.2.2.2.1 a.2.2.2.2.2.1 a.2.2.2.2.2.2.1 a.2.2.2.2.2.2.2.1 a.2.2.2.2.2.2.2.2.1 a.2.2.2.2.2.2.2.2.2.1 a.2.2.2.2.2.2.2.2.2.2.1 a.2.2.2.2.2.2.2.2.2.2.2.1 a.2.2.2.2.2.2.2.2.2.2.2.2.1 a.2.2.2.2.2.2.2.2.2.2.2.2.2.1 a.2.2.2.2.2.2.2.2.2.2.2.2.2.2.1 a.2.2.2.2.2.2.2.2.2.2.2.2.2.2.2 = some true := by
  have k1 := key_at a hb 61 (by omega)
  have k2 := rkey_at a 61 (by omega)
  have aw := awake_at 61 (by omega)
  unfold K16 at k1
  unfold R16 at k2
  obtain ⟨t, e1, e2⟩ : ∃ t, uplink_Word.f 61 a0 = some t ∧ periluneref32_Word.f 61 a0 = some t := by
    by_cases h : 0 ≤ a0 ∧ a0 < 32
    · exact ⟨_, word_at a0 h.1 h.2 61 (by omega), rword_at a0 h.1 h.2 61 (by omega)⟩
    · exact ⟨_, word_out a0 (by omega) 61 (by omega), rword_out a0 (by omega) 61 (by omega)⟩
  unfold perilunelaw32_UplinkKeys.f
  rw [e1, e2, k1, k2]
  simp [aw]

theorem UplinkReceives (l : Bool) (n : Int) (a : T16) (hb : okBits a) : perilunelaw32_UplinkReceives.f 61 l n a.1 a.2.1 a.2.2.1 a.2.2.2.1 a.2.2.2.2.1 a.2.2.2.2.2.1 a.2.2.2.2.2.2.1 a.2.2.2.2.2.2.2.1 a.2.2.2.2.2.2.2.2.1 a.2.2.2.2.2.2.2.2.2.1 a.2.2.2.2.2.2.2.2.2.2.1 a.2.2.2.2.2.2.2.2.2.2.2.1 a.2.2.2.2.2.2.2.2.2.2.2.2.1 a.2.2.2.2.2.2.2.2.2.2.2.2.2.1 a.2.2.2.2.2.2.2.2.2.2.2.2.2.2.1 a.2.2.2.2.2.2.2.2.2.2.2.2.2.2.2 = some true := by
  have k1 := recv_at l n a hb 61 (by omega)
  have k2 := rrecv_at l n a 61 (by omega)
  have aw := awake_at 61 (by omega)
  unfold U16 at k1
  unfold perilunelaw32_UplinkReceives.f
  rw [k1, k2]
  simp [aw]

end Go.Proofs.Ytdncfnlhkacpaaa.Pure
