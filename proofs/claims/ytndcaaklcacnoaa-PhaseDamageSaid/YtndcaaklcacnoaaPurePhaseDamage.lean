/- If any one of a group's two words is changed after Set, Get tells ErrChecksum: the statement over numbers and lists. No condition. -/
import Derived.Test.YtndcaaklcacnoaaPx5
import Derived.Test.YtndcaaklcacnoaaPlainB
namespace Go.Proofs.Ytndcaaklcacnoaa.Pure
open Go.RowKit Go.Proofs.Ytndcaaklcacnoaa.P Go.Proofs.YtndcaaklcacnoaaW.PrintWords Go.Proofs.YtndcaaklcacnoaaW.PrintLast

theorem PhaseDamage : perilunelaw25_PhaseDamage.Pure := by
  intro g n b x _ _ hx
  have : 0 ≤ x ∧ x < 65536 := Plain.u16_of_wf (l := [x]) (by simpa using hx) x (by simp)
  exact Plain.PhaseDamage_pure g n b x this.1 this.2

end Go.Proofs.Ytndcaaklcacnoaa.Pure
