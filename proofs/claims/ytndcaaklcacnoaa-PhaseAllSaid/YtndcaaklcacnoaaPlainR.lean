/- The laws PhaseAll and PhaseClear over numbers and lists. No condition but that a word lies between 0 and 65535. -/
import Derived.Test.YtndcaaklcacnoaaPlainQ
namespace Go.Proofs.Ytndcaaklcacnoaa.PlainQ
open Go.RowKit Go.Proofs.Ytndcaaklcacnoaa.Q Go.Proofs.YtndcaaklcacnoaaW.PrintWords Go.Proofs.YtndcaaklcacnoaaW.PrintLast

theorem PhaseAll_pure (a0 : Int) (l : List Int) (hl : U16 l) (n0 n1 n2 n3 n4 n5 : Int) : ∃ k, perilunelaw25_PhaseAll.f k a0 l n0 n1 n2 n3 n4 n5 = some true := by
  obtain ⟨m, e, hu, hlen⟩ := mem_ok a0 l hl 3000 (by decide)
  obtain ⟨⟨x0, x1, x2, x3, x4, x5, x6, x7⟩, ha, hb⟩ := all_both m hu 6 3000 0 0 0 0 0 0 0 (by decide) (by decide) (by decide) (by decide)
  have ha' : phase_All.f 3000 m = some (x0, x1, x2, x3, x4, x5, x6, x7) := ha
  have hb' : periluneref25_All.f 3000 m = some (x0, x1, x2, x3, x4, x5, x6, x7) := hb
  obtain ⟨u, hu1, hu2, hu3⟩ := active_both n0 n1 n2 n3 n4 n5 6 3000 0 [] (by decide) (by decide) (by decide) (by decide) (by decide)
  obtain ⟨v, hv1, hv2, hv3⟩ := active_both x0 x1 x2 x3 x4 x5 6 3000 0 [] (by decide) (by decide) (by decide) (by decide) (by decide)
  have u1 : phase_Active.f 3000 n0 n1 n2 n3 n4 n5 = some u := hu1
  have u2 : periluneref25_Active.f 3000 n0 n1 n2 n3 n4 n5 = some u := hu2
  have v1 : phase_Active.f 3000 x0 x1 x2 x3 x4 x5 = some v := hv1
  have v2 : periluneref25_Active.f 3000 x0 x1 x2 x3 x4 x5 = some v := hv2
  refine ⟨3000, ?_⟩
  unfold perilunelaw25_PhaseAll.f
  rw [e]
  simp only [Option.bind_some, ha', hb', u1, u2, v1, v2, beq_self_eq_true, Bool.and_self, if_true, ints_self u hu3 3000 (by decide), ints_self v hv3 3000 (by decide), live_ok 3000 (by decide)]

theorem PhaseClear_pure (a0 : Int) (l : List Int) (hl : U16 l) : ∃ k, perilunelaw25_PhaseClear.f k a0 l = some true := by
  obtain ⟨m, e, hu, hlen⟩ := mem_ok 2047 l hl 3000 (by decide)
  have hL : (m.length : Int) = 2047 := by rw [hlen, IntKind.wrap_u64]; decide
  have hA : phase_All.f 3000 (clr.foldl (fun y c => y.set c.f0.toNat c.f1) m) = some (0, 0, 0, 0, 0, 0, 0, 0) := all_clear _ (U16.clr hu) (cleared m hL) 6 3000 0 (by decide) (by decide) (by decide) (by decide)
  have hV : phase_Active.f 3000 0 0 0 0 0 0 = some [] := at_rounds (g := fun k => phase_Active.f k 0 0 0 0 0 0) (fun k => phase_Active.mono _ _ _ _ _ _ k) (show 8 ≤ 3000 by decide) (by decide +kernel)
  refine ⟨3000, ?_⟩
  unfold perilunelaw25_PhaseClear.f
  rw [e]
  simp only [Option.bind_some, clear_ok 3000 (by decide), written m hL 3000 (by decide), hA, hV, live_ok 3000 (by decide)]
  rfl
end Go.Proofs.Ytndcaaklcacnoaa.PlainQ
