-- Printed by a session's own program (wip/turnprint.py, wip/myprint.sh) over the translation's print. -- slim -- short -- s4
import Derived.Test.YtjenkcgjpdappaaPx0
import Derived.Test.YtjenkcgjpdappaaPx1
import Derived.Test.YtjenkcgjpdappaaPx30
import Derived.Test.YtjenkcgjpdappaaPx11
import Derived.Test.YtjenkcgjpdappaaPx9
namespace Go.Proofs.Ytjenkcgjpdappaa.P
open Go.RowKit Go.Proofs.YtjenkcgjpdappaaW.PrintWords Go.Proofs.YtjenkcgjpdappaaW.PrintLast Go.Proofs.YtjenkcgjpdappaaW.PrintMore
attribute [local go_sem] max2_int min2_int max_two min_two max_three min_three max_four min_four   -- for this text's walks alone
set_option linter.unusedVariables false
set_option linter.unusedSimpArgs false

attribute [local go_sem high] eqA24
/-! ### perilunelaw23_JobsOne: function 4 -/
mutual
def perilunelaw23_JobsOne.j0 : Nat → Bool → Bool → Int → Int → Int → Bool → Int → Bool → Int → Int → Int → Bool → Int → Bool → Int → Int → Int → Bool → Int → Bool → Int → Int → Int → Bool → Int → Bool → Int → Int → Int → Bool → Int → Bool → Int → Int → Int → Bool → Int → Bool → Int → Int → Int → Bool → Int → Int → Int → Int → Int → Int → Int → Option (Bool)
 | 0, _, _, _, _, _, _, _, _, _, _, _, _, _, _, _, _, _, _, _, _, _, _, _, _, _, _, _, _, _, _, _, _, _, _, _, _, _, _, _, _, _, _, _, _, _, _, _, _, _ => none
 | k + 1, x22, ci, cj, cz, cA, cB, cC, ck, cl, cD, cE, cF, cG, cm, cn, cH, cI, cJ, cK, co, cp, cL, cM, cN, cO, cq, cr, cP, cQ, cR, cS, ct, cu, cT, cU, cV, cW, cv, cw, cX, cY, cZ, c0, c3, cx, c5, da, db, dc => if x22 = true then ((perilunelaw23_live.f k).bind fun dm => (some dm)) else ((perilunelaw23_step.f k ci cj cz cA cB cC ck cl cD cE cF cG cm cn cH cI cJ cK co cp cL cM cN cO cq cr cP cQ cR cS ct cu cT cU cV cW cv cw cX cY cZ c0 c3 cx c5 da db dc).bind fun bb => (if bb.2.2.2.2.2.2.2.2.2.2.2.2.2.2.2.2.2.2.2.2.2.2.2.2.2.2.2.2.2.2.2.2.2.2.2.2.2.2.2.2.2.2.2.2 = 0 then (perilunelaw23_JobsOne.l0 k bb.2.2.2.2.2.2.2.2.2.2.2.2.2.2.2.2.2.2.2.2.2.2.2.2.2.2.2.2.2.2.2.2.2.2.2.2.2.2.2.2.2.2.2.1 0 0 ci cj cz cA cB cC ck cl cD cE cF cG cm cn cH cI cJ cK co cp cL cM cN cO cq cr cP cQ cR cS ct cu cT cU cV cW cv cw cX cY cZ c0 c3 cx c5 da db dc bb.1 bb.2.1 bb.2.2.1 bb.2.2.2.1 bb.2.2.2.2.1 bb.2.2.2.2.2.1 bb.2.2.2.2.2.2.1 bb.2.2.2.2.2.2.2.1 bb.2.2.2.2.2.2.2.2.1 bb.2.2.2.2.2.2.2.2.2.1 bb.2.2.2.2.2.2.2.2.2.2.1 bb.2.2.2.2.2.2.2.2.2.2.2.1 bb.2.2.2.2.2.2.2.2.2.2.2.2.1 bb.2.2.2.2.2.2.2.2.2.2.2.2.2.1 bb.2.2.2.2.2.2.2.2.2.2.2.2.2.2.1 bb.2.2.2.2.2.2.2.2.2.2.2.2.2.2.2.1 bb.2.2.2.2.2.2.2.2.2.2.2.2.2.2.2.2.1 bb.2.2.2.2.2.2.2.2.2.2.2.2.2.2.2.2.2.1 bb.2.2.2.2.2.2.2.2.2.2.2.2.2.2.2.2.2.2.1 bb.2.2.2.2.2.2.2.2.2.2.2.2.2.2.2.2.2.2.2.1 bb.2.2.2.2.2.2.2.2.2.2.2.2.2.2.2.2.2.2.2.2.1 bb.2.2.2.2.2.2.2.2.2.2.2.2.2.2.2.2.2.2.2.2.2.1 bb.2.2.2.2.2.2.2.2.2.2.2.2.2.2.2.2.2.2.2.2.2.2.1 bb.2.2.2.2.2.2.2.2.2.2.2.2.2.2.2.2.2.2.2.2.2.2.2.1 bb.2.2.2.2.2.2.2.2.2.2.2.2.2.2.2.2.2.2.2.2.2.2.2.2.1 bb.2.2.2.2.2.2.2.2.2.2.2.2.2.2.2.2.2.2.2.2.2.2.2.2.2.1 bb.2.2.2.2.2.2.2.2.2.2.2.2.2.2.2.2.2.2.2.2.2.2.2.2.2.2.1 bb.2.2.2.2.2.2.2.2.2.2.2.2.2.2.2.2.2.2.2.2.2.2.2.2.2.2.2.1 bb.2.2.2.2.2.2.2.2.2.2.2.2.2.2.2.2.2.2.2.2.2.2.2.2.2.2.2.2.1 bb.2.2.2.2.2.2.2.2.2.2.2.2.2.2.2.2.2.2.2.2.2.2.2.2.2.2.2.2.2.1 bb.2.2.2.2.2.2.2.2.2.2.2.2.2.2.2.2.2.2.2.2.2.2.2.2.2.2.2.2.2.2.1 bb.2.2.2.2.2.2.2.2.2.2.2.2.2.2.2.2.2.2.2.2.2.2.2.2.2.2.2.2.2.2.2.1 bb.2.2.2.2.2.2.2.2.2.2.2.2.2.2.2.2.2.2.2.2.2.2.2.2.2.2.2.2.2.2.2.2.1 bb.2.2.2.2.2.2.2.2.2.2.2.2.2.2.2.2.2.2.2.2.2.2.2.2.2.2.2.2.2.2.2.2.2.1 bb.2.2.2.2.2.2.2.2.2.2.2.2.2.2.2.2.2.2.2.2.2.2.2.2.2.2.2.2.2.2.2.2.2.2.1 bb.2.2.2.2.2.2.2.2.2.2.2.2.2.2.2.2.2.2.2.2.2.2.2.2.2.2.2.2.2.2.2.2.2.2.2.1 bb.2.2.2.2.2.2.2.2.2.2.2.2.2.2.2.2.2.2.2.2.2.2.2.2.2.2.2.2.2.2.2.2.2.2.2.2.1 bb.2.2.2.2.2.2.2.2.2.2.2.2.2.2.2.2.2.2.2.2.2.2.2.2.2.2.2.2.2.2.2.2.2.2.2.2.2.1 bb.2.2.2.2.2.2.2.2.2.2.2.2.2.2.2.2.2.2.2.2.2.2.2.2.2.2.2.2.2.2.2.2.2.2.2.2.2.2.1 bb.2.2.2.2.2.2.2.2.2.2.2.2.2.2.2.2.2.2.2.2.2.2.2.2.2.2.2.2.2.2.2.2.2.2.2.2.2.2.2.1 bb.2.2.2.2.2.2.2.2.2.2.2.2.2.2.2.2.2.2.2.2.2.2.2.2.2.2.2.2.2.2.2.2.2.2.2.2.2.2.2.2.1 bb.2.2.2.2.2.2.2.2.2.2.2.2.2.2.2.2.2.2.2.2.2.2.2.2.2.2.2.2.2.2.2.2.2.2.2.2.2.2.2.2.2.1 bb.2.2.2.2.2.2.2.2.2.2.2.2.2.2.2.2.2.2.2.2.2.2.2.2.2.2.2.2.2.2.2.2.2.2.2.2.2.2.2.2.2.2.1) else ((perilunelaw23_live.f k).bind fun dd => (some dd))))
def perilunelaw23_JobsOne.l0 : Nat → Int → Int → Int → Bool → Int → Int → Int → Bool → Int → Bool → Int → Int → Int → Bool → Int → Bool → Int → Int → Int → Bool → Int → Bool → Int → Int → Int → Bool → Int → Bool → Int → Int → Int → Bool → Int → Bool → Int → Int → Int → Bool → Int → Bool → Int → Int → Int → Bool → Int → Int → Int → Int → Int → Int → Int → Bool → Int → Int → Int → Bool → Int → Bool → Int → Int → Int → Bool → Int → Bool → Int → Int → Int → Bool → Int → Bool → Int → Int → Int → Bool → Int → Bool → Int → Int → Int → Bool → Int → Bool → Int → Int → Int → Bool → Int → Bool → Int → Int → Int → Bool → Int → Int → Option (Bool)
 | 0, _, _, _, _, _, _, _, _, _, _, _, _, _, _, _, _, _, _, _, _, _, _, _, _, _, _, _, _, _, _, _, _, _, _, _, _, _, _, _, _, _, _, _, _, _, _, _, _, _, _, _, _, _, _, _, _, _, _, _, _, _, _, _, _, _, _, _, _, _, _, _, _, _, _, _, _, _, _, _, _, _, _, _, _, _, _, _, _, _, _, _, _, _, _ => none
 | k + 1, x6, x8, x9, ci, cj, cz, cA, cB, cC, ck, cl, cD, cE, cF, cG, cm, cn, cH, cI, cJ, cK, co, cp, cL, cM, cN, cO, cq, cr, cP, cQ, cR, cS, ct, cu, cT, cU, cV, cW, cv, cw, cX, cY, cZ, c0, c3, cx, c5, da, db, dc, dn, de, dp, dq, dr, ds, dt, df, du, dv, dw, dx, dy, dg, dz, dA, dB, dC, dD, dh, dE, dF, dG, dH, dI, di, dJ, dK, dL, dM, dN, dj, dO, dP, dQ, dR, dS, dk, dT, dU, dV, dW, dX => if x9 < 7 then (if 0 ≤ x9 then (if ((pk7 ci ck cm co cq ct cv x9) == (pk7 dn dt dy dD dI dN dS x9) && ((pk7 cj cl cn cp cr cu cw x9) == (pk7 de df dg dh di dj dk x9) && ((pk7 cz cD cH cL cP cT cX x9) == (pk7 dp du dz dE dJ dO dT x9) && ((pk7 cA cE cI cM cQ cU cY x9) == (pk7 dq dv dA dF dK dP dU x9) && ((pk7 cB cF cJ cN cR cV cZ x9) == (pk7 dr dw dB dG dL dQ dV x9) && ((pk7 cC cG cK cO cS cW c0 x9) == (pk7 ds dx dC dH dM dR dW x9))))))) = true then (perilunelaw23_JobsOne.l0 k x6 x8 (wrap64 (x9 + 1)) ci cj cz cA cB cC ck cl cD cE cF cG cm cn cH cI cJ cK co cp cL cM cN cO cq cr cP cQ cR cS ct cu cT cU cV cW cv cw cX cY cZ c0 c3 cx c5 da db dc dn de dp dq dr ds dt df du dv dw dx dy dg dz dA dB dC dD dh dE dF dG dH dI di dJ dK dL dM dN dj dO dP dQ dR dS dk dT dU dV dW dX) else (if cx = 0 then (if pk7 ci ck cm co cq ct cv x9 = true then (some false) else (if (pk7 de df dg dh di dj dk x9) = x6 then (perilunelaw23_JobsOne.l0 k x6 (wrap64 (x8 + 1)) (wrap64 (x9 + 1)) ci cj cz cA cB cC ck cl cD cE cF cG cm cn cH cI cJ cK co cp cL cM cN cO cq cr cP cQ cR cS ct cu cT cU cV cW cv cw cX cY cZ c0 c3 cx c5 da db dc dn de dp dq dr ds dt df du dv dw dx dy dg dz dA dB dC dD dh dE dF dG dH dI di dJ dK dL dM dN dj dO dP dQ dR dS dk dT dU dV dW dX) else (some false))) else (if (pk7 cj cl cn cp cr cu cw x9) = c5 then (perilunelaw23_JobsOne.l0 k x6 (wrap64 (x8 + 1)) (wrap64 (x9 + 1)) ci cj cz cA cB cC ck cl cD cE cF cG cm cn cH cI cJ cK co cp cL cM cN cO cq cr cP cQ cR cS ct cu cT cU cV cW cv cw cX cY cZ c0 c3 cx c5 da db dc dn de dp dq dr ds dt df du dv dw dx dy dg dz dA dB dC dD dh dE dF dG dH dI di dJ dK dL dM dN dj dO dP dQ dR dS dk dT dU dV dW dX) else (some false)))) else (none)) else (if x8 ≤ 1 then (if ((cx == 0) == (dX != c3)) = true then ((perilunelaw23_live.f k).bind fun ej => (some ej)) else (some false)) else (some false))
end
def perilunelaw23_JobsOne.f (k : Nat) (aS : Bool) (aQ : Int) (aU : Int) (aV : Int) (aW : Bool) (aX : Int) (aT : Bool) (aR : Int) (aY : Int) (aZ : Int) (ap : Bool) (aq : Int) (ak : Bool) (af : Int) (ar : Int) (au : Int) (av : Bool) (aw : Int) (al : Bool) (ag : Int) (ax : Int) (ay : Int) (az : Bool) (aA : Int) (am : Bool) (ah : Int) (aB : Int) (aC : Int) (aD : Bool) (aE : Int) (an : Bool) (ai : Int) (aF : Int) (aG : Int) (aH : Bool) (aI : Int) (ao : Bool) (aj : Int) (aJ : Int) (aK : Int) (aL : Bool) (aM : Int) (aO : Int) (ba : Int) (bc : Int) (bd : Int) (be : Int) (bf : Int) : Option (Bool) := (periluneref23_Valid.f k aS aQ aU aV aW aX aT aR aY aZ ap aq ak af ar au av aw al ag ax ay az aA am ah aB aC aD aE an ai aF aG aH aI ao aj aJ aK aL aM aO).bind fun ek => (if ek = true then (if ba < 0 then (perilunelaw23_JobsOne.j0 k true aS aQ aU aV aW aX aT aR aY aZ ap aq ak af ar au av aw al ag ax ay az aA am ah aB aC aD aE an ai aF aG aH aI ao aj aJ aK aL aM aO ba bc bd be bf) else (perilunelaw23_JobsOne.j0 k (decide (ba > 5)) aS aQ aU aV aW aX aT aR aY aZ ap aq ak af ar au av aw al ag ax ay az aA am ah aB aC aD aE an ai aF aG aH aI ao aj aJ aK aL aM aO ba bc bd be bf)) else (perilunelaw23_JobsOne.j0 k true aS aQ aU aV aW aX aT aR aY aZ ap aq ak af ar au av aw al ag ax ay az aA am ah aB aC aD aE an ai aF aG aH aI ao aj aJ aK aL aM aO ba bc bd be bf))
theorem perilunelaw23_JobsOne.mono_l : ∀ k, (∀ y0 y1 y2 y3 y4 y5 y6 y7 y8 y9 y10 y11 y12 y13 y14 y15 y16 y17 y18 y19 y20 y21 y22 y23 y24 y25 y26 y27 y28 y29 y30 y31 y32 y33 y34 y35 y36 y37 y38 y39 y40 y41 y42 y43 y44 y45 y46 y47 y48, LeO (perilunelaw23_JobsOne.j0 k y0 y1 y2 y3 y4 y5 y6 y7 y8 y9 y10 y11 y12 y13 y14 y15 y16 y17 y18 y19 y20 y21 y22 y23 y24 y25 y26 y27 y28 y29 y30 y31 y32 y33 y34 y35 y36 y37 y38 y39 y40 y41 y42 y43 y44 y45 y46 y47 y48) (perilunelaw23_JobsOne.j0 (k + 1) y0 y1 y2 y3 y4 y5 y6 y7 y8 y9 y10 y11 y12 y13 y14 y15 y16 y17 y18 y19 y20 y21 y22 y23 y24 y25 y26 y27 y28 y29 y30 y31 y32 y33 y34 y35 y36 y37 y38 y39 y40 y41 y42 y43 y44 y45 y46 y47 y48)) ∧ (∀ y0 y1 y2 y3 y4 y5 y6 y7 y8 y9 y10 y11 y12 y13 y14 y15 y16 y17 y18 y19 y20 y21 y22 y23 y24 y25 y26 y27 y28 y29 y30 y31 y32 y33 y34 y35 y36 y37 y38 y39 y40 y41 y42 y43 y44 y45 y46 y47 y48 y49 y50 y51 y52 y53 y54 y55 y56 y57 y58 y59 y60 y61 y62 y63 y64 y65 y66 y67 y68 y69 y70 y71 y72 y73 y74 y75 y76 y77 y78 y79 y80 y81 y82 y83 y84 y85 y86 y87 y88 y89 y90 y91 y92 y93, LeO (perilunelaw23_JobsOne.l0 k y0 y1 y2 y3 y4 y5 y6 y7 y8 y9 y10 y11 y12 y13 y14 y15 y16 y17 y18 y19 y20 y21 y22 y23 y24 y25 y26 y27 y28 y29 y30 y31 y32 y33 y34 y35 y36 y37 y38 y39 y40 y41 y42 y43 y44 y45 y46 y47 y48 y49 y50 y51 y52 y53 y54 y55 y56 y57 y58 y59 y60 y61 y62 y63 y64 y65 y66 y67 y68 y69 y70 y71 y72 y73 y74 y75 y76 y77 y78 y79 y80 y81 y82 y83 y84 y85 y86 y87 y88 y89 y90 y91 y92 y93) (perilunelaw23_JobsOne.l0 (k + 1) y0 y1 y2 y3 y4 y5 y6 y7 y8 y9 y10 y11 y12 y13 y14 y15 y16 y17 y18 y19 y20 y21 y22 y23 y24 y25 y26 y27 y28 y29 y30 y31 y32 y33 y34 y35 y36 y37 y38 y39 y40 y41 y42 y43 y44 y45 y46 y47 y48 y49 y50 y51 y52 y53 y54 y55 y56 y57 y58 y59 y60 y61 y62 y63 y64 y65 y66 y67 y68 y69 y70 y71 y72 y73 y74 y75 y76 y77 y78 y79 y80 y81 y82 y83 y84 y85 y86 y87 y88 y89 y90 y91 y92 y93))
 | 0 => ⟨fun _ _ _ _ _ _ _ _ _ _ _ _ _ _ _ _ _ _ _ _ _ _ _ _ _ _ _ _ _ _ _ _ _ _ _ _ _ _ _ _ _ _ _ _ _ _ _ _ _ r h => by simp [perilunelaw23_JobsOne.j0] at h, fun _ _ _ _ _ _ _ _ _ _ _ _ _ _ _ _ _ _ _ _ _ _ _ _ _ _ _ _ _ _ _ _ _ _ _ _ _ _ _ _ _ _ _ _ _ _ _ _ _ _ _ _ _ _ _ _ _ _ _ _ _ _ _ _ _ _ _ _ _ _ _ _ _ _ _ _ _ _ _ _ _ _ _ _ _ _ _ _ _ _ _ _ _ _ r h => by simp [perilunelaw23_JobsOne.l0] at h⟩
 | k + 1 => by
  obtain ⟨ih0, ih1⟩ := perilunelaw23_JobsOne.mono_l k
  refine ⟨?_, ?_⟩
  ·intro y0 y1 y2 y3 y4 y5 y6 y7 y8 y9 y10 y11 y12 y13 y14 y15 y16 y17 y18 y19 y20 y21 y22 y23 y24 y25 y26 y27 y28 y29 y30 y31 y32 y33 y34 y35 y36 y37 y38 y39 y40 y41 y42 y43 y44 y45 y46 y47 y48
   unfold perilunelaw23_JobsOne.j0
   repeat' first
   | (with_reducible exact ih0 _ _ _ _ _ _ _ _ _ _ _ _ _ _ _ _ _ _ _ _ _ _ _ _ _ _ _ _ _ _ _ _ _ _ _ _ _ _ _ _ _ _ _ _ _ _ _ _ _)
   | (with_reducible exact ih1 _ _ _ _ _ _ _ _ _ _ _ _ _ _ _ _ _ _ _ _ _ _ _ _ _ _ _ _ _ _ _ _ _ _ _ _ _ _ _ _ _ _ _ _ _ _ _ _ _ _ _ _ _ _ _ _ _ _ _ _ _ _ _ _ _ _ _ _ _ _ _ _ _ _ _ _ _ _ _ _ _ _ _ _ _ _ _ _ _ _ _ _ _ _)
   | (with_reducible apply perilunelaw23_live.mono)
   | (with_reducible apply perilunelaw23_step.mono)
   | (with_reducible apply periluneref23_Valid.mono)
   | (with_reducible exact LeO.refl _)
   | (with_reducible exact LeO.none _)
   | (with_reducible refine LeO.ite ?_ ?_)
   | (with_reducible refine LeO.bind ?_ (fun _ => ?_))
   | exact ih0 _ _ _ _ _ _ _ _ _ _ _ _ _ _ _ _ _ _ _ _ _ _ _ _ _ _ _ _ _ _ _ _ _ _ _ _ _ _ _ _ _ _ _ _ _ _ _ _ _
   | exact ih1 _ _ _ _ _ _ _ _ _ _ _ _ _ _ _ _ _ _ _ _ _ _ _ _ _ _ _ _ _ _ _ _ _ _ _ _ _ _ _ _ _ _ _ _ _ _ _ _ _ _ _ _ _ _ _ _ _ _ _ _ _ _ _ _ _ _ _ _ _ _ _ _ _ _ _ _ _ _ _ _ _ _ _ _ _ _ _ _ _ _ _ _ _ _
   | apply perilunelaw23_live.mono
   | apply perilunelaw23_step.mono
   | apply periluneref23_Valid.mono
   | exact LeO.none _
   | refine LeO.ite ?_ ?_
   | refine LeO.bind ?_ (fun _ => ?_)
  ·intro y0 y1 y2 y3 y4 y5 y6 y7 y8 y9 y10 y11 y12 y13 y14 y15 y16 y17 y18 y19 y20 y21 y22 y23 y24 y25 y26 y27 y28 y29 y30 y31 y32 y33 y34 y35 y36 y37 y38 y39 y40 y41 y42 y43 y44 y45 y46 y47 y48 y49 y50 y51 y52 y53 y54 y55 y56 y57 y58 y59 y60 y61 y62 y63 y64 y65 y66 y67 y68 y69 y70 y71 y72 y73 y74 y75 y76 y77 y78 y79 y80 y81 y82 y83 y84 y85 y86 y87 y88 y89 y90 y91 y92 y93
   unfold perilunelaw23_JobsOne.l0
   repeat' first
   | (with_reducible exact ih0 _ _ _ _ _ _ _ _ _ _ _ _ _ _ _ _ _ _ _ _ _ _ _ _ _ _ _ _ _ _ _ _ _ _ _ _ _ _ _ _ _ _ _ _ _ _ _ _ _)
   | (with_reducible exact ih1 _ _ _ _ _ _ _ _ _ _ _ _ _ _ _ _ _ _ _ _ _ _ _ _ _ _ _ _ _ _ _ _ _ _ _ _ _ _ _ _ _ _ _ _ _ _ _ _ _ _ _ _ _ _ _ _ _ _ _ _ _ _ _ _ _ _ _ _ _ _ _ _ _ _ _ _ _ _ _ _ _ _ _ _ _ _ _ _ _ _ _ _ _ _)
   | (with_reducible apply perilunelaw23_live.mono)
   | (with_reducible apply perilunelaw23_step.mono)
   | (with_reducible apply periluneref23_Valid.mono)
   | (with_reducible exact LeO.refl _)
   | (with_reducible exact LeO.none _)
   | (with_reducible refine LeO.ite ?_ ?_)
   | (with_reducible refine LeO.bind ?_ (fun _ => ?_))
   | exact ih0 _ _ _ _ _ _ _ _ _ _ _ _ _ _ _ _ _ _ _ _ _ _ _ _ _ _ _ _ _ _ _ _ _ _ _ _ _ _ _ _ _ _ _ _ _ _ _ _ _
   | exact ih1 _ _ _ _ _ _ _ _ _ _ _ _ _ _ _ _ _ _ _ _ _ _ _ _ _ _ _ _ _ _ _ _ _ _ _ _ _ _ _ _ _ _ _ _ _ _ _ _ _ _ _ _ _ _ _ _ _ _ _ _ _ _ _ _ _ _ _ _ _ _ _ _ _ _ _ _ _ _ _ _ _ _ _ _ _ _ _ _ _ _ _ _ _ _
   | apply perilunelaw23_live.mono
   | apply perilunelaw23_step.mono
   | apply periluneref23_Valid.mono
   | exact LeO.none _
   | refine LeO.ite ?_ ?_
   | refine LeO.bind ?_ (fun _ => ?_)
theorem perilunelaw23_JobsOne.mono : ∀ a0 a1 a2 a3 a4 a5 a6 a7 a8 a9 a10 a11 a12 a13 a14 a15 a16 a17 a18 a19 a20 a21 a22 a23 a24 a25 a26 a27 a28 a29 a30 a31 a32 a33 a34 a35 a36 a37 a38 a39 a40 a41 a42 a43 a44 a45 a46 a47 k, LeO (perilunelaw23_JobsOne.f k a0 a1 a2 a3 a4 a5 a6 a7 a8 a9 a10 a11 a12 a13 a14 a15 a16 a17 a18 a19 a20 a21 a22 a23 a24 a25 a26 a27 a28 a29 a30 a31 a32 a33 a34 a35 a36 a37 a38 a39 a40 a41 a42 a43 a44 a45 a46 a47) (perilunelaw23_JobsOne.f (k + 1) a0 a1 a2 a3 a4 a5 a6 a7 a8 a9 a10 a11 a12 a13 a14 a15 a16 a17 a18 a19 a20 a21 a22 a23 a24 a25 a26 a27 a28 a29 a30 a31 a32 a33 a34 a35 a36 a37 a38 a39 a40 a41 a42 a43 a44 a45 a46 a47) := by
 intro a0 a1 a2 a3 a4 a5 a6 a7 a8 a9 a10 a11 a12 a13 a14 a15 a16 a17 a18 a19 a20 a21 a22 a23 a24 a25 a26 a27 a28 a29 a30 a31 a32 a33 a34 a35 a36 a37 a38 a39 a40 a41 a42 a43 a44 a45 a46 a47 k
 obtain ⟨ih0, ih1⟩ := perilunelaw23_JobsOne.mono_l k
 unfold perilunelaw23_JobsOne.f
 repeat' first
   | (with_reducible exact ih0 _ _ _ _ _ _ _ _ _ _ _ _ _ _ _ _ _ _ _ _ _ _ _ _ _ _ _ _ _ _ _ _ _ _ _ _ _ _ _ _ _ _ _ _ _ _ _ _ _)
   | (with_reducible exact ih1 _ _ _ _ _ _ _ _ _ _ _ _ _ _ _ _ _ _ _ _ _ _ _ _ _ _ _ _ _ _ _ _ _ _ _ _ _ _ _ _ _ _ _ _ _ _ _ _ _ _ _ _ _ _ _ _ _ _ _ _ _ _ _ _ _ _ _ _ _ _ _ _ _ _ _ _ _ _ _ _ _ _ _ _ _ _ _ _ _ _ _ _ _ _)
   | (with_reducible apply perilunelaw23_live.mono)
   | (with_reducible apply perilunelaw23_step.mono)
   | (with_reducible apply periluneref23_Valid.mono)
   | (with_reducible exact LeO.refl _)
   | (with_reducible exact LeO.none _)
   | (with_reducible refine LeO.ite ?_ ?_)
   | (with_reducible refine LeO.bind ?_ (fun _ => ?_))
   | exact ih0 _ _ _ _ _ _ _ _ _ _ _ _ _ _ _ _ _ _ _ _ _ _ _ _ _ _ _ _ _ _ _ _ _ _ _ _ _ _ _ _ _ _ _ _ _ _ _ _ _
   | exact ih1 _ _ _ _ _ _ _ _ _ _ _ _ _ _ _ _ _ _ _ _ _ _ _ _ _ _ _ _ _ _ _ _ _ _ _ _ _ _ _ _ _ _ _ _ _ _ _ _ _ _ _ _ _ _ _ _ _ _ _ _ _ _ _ _ _ _ _ _ _ _ _ _ _ _ _ _ _ _ _ _ _ _ _ _ _ _ _ _ _ _ _ _ _ _
   | apply perilunelaw23_live.mono
   | apply perilunelaw23_step.mono
   | apply periluneref23_Valid.mono
   | exact LeO.none _
   | refine LeO.ite ?_ ?_
   | refine LeO.bind ?_ (fun _ => ?_)
set_option maxHeartbeats 8000000 in
set_option maxRecDepth 100000 in
theorem perilunelaw23_JobsOne.calls (k : Nat) (aS : Bool) (aQ : Int) (aU : Int) (aV : Int) (aW : Bool) (aX : Int) (aT : Bool) (aR : Int) (aY : Int) (aZ : Int) (ap : Bool) (aq : Int) (ak : Bool) (af : Int) (ar : Int) (au : Int) (av : Bool) (aw : Int) (al : Bool) (ag : Int) (ax : Int) (ay : Int) (az : Bool) (aA : Int) (am : Bool) (ah : Int) (aB : Int) (aC : Int) (aD : Bool) (aE : Int) (an : Bool) (ai : Int) (aF : Int) (aG : Int) (aH : Bool) (aI : Int) (ao : Bool) (aj : Int) (aJ : Int) (aK : Int) (aL : Bool) (aM : Int) (aO : Int) (ba : Int) (bc : Int) (bd : Int) (be : Int) (bf : Int) (r : Bool) (w : World) (h : perilunelaw23_JobsOne.f k aS aQ aU aV aW aX aT aR aY aZ ap aq ak af ar au av aw al ag ax ay az aA am ah aB aC aD aE an ai aF aG aH aI ao aj aJ aK aL aM aO ba bc bd be bf = some r) (hT_ : Aside0 (r = true)) :
  Calls Try.prog 4 #[.agg #[.bool aS, .int .i64 aQ, .int .i64 aU, .int .i64 aV, .bool aW, .int .i64 aX, .bool aT, .int .i64 aR, .int .i64 aY, .int .i64 aZ, .bool ap, .int .i64 aq, .bool ak, .int .i64 af, .int .i64 ar, .int .i64 au, .bool av, .int .i64 aw, .bool al, .int .i64 ag, .int .i64 ax, .int .i64 ay, .bool az, .int .i64 aA, .bool am, .int .i64 ah, .int .i64 aB, .int .i64 aC, .bool aD, .int .i64 aE, .bool an, .int .i64 ai, .int .i64 aF, .int .i64 aG, .bool aH, .int .i64 aI, .bool ao, .int .i64 aj, .int .i64 aJ, .int .i64 aK, .bool aL, .int .i64 aM, .int .i64 aO], .agg #[.int .i64 ba, .int .i64 bc, .int .i64 bd, .int .i64 be, .int .i64 bf]] w fun e w' => e = .returned (.bool r) ∧ Below w.heap.size w w' := by
 have hu27 := Try.underlying27
 have hu33 := Try.underlying33
 have hu25 := Try.underlying25
 have hu24 := Try.underlying24
 have HB := Aside0.mk (Below.refl w.heap.size w)
 have H := h
 unfold perilunelaw23_JobsOne.f at H
 clear h
 have HC3 := Aside0.mk H
 clear H
 go_enter Try.func4, Try.ntmps4
 go_upto_region 1 with (first | ((with_reducible refine gate_dst (N := 2) rfl ?_); refine box_event ?hg (N := 2) ?hd (cs := Jt aS aQ aU aV aW aX aT aR aY aZ ap aq ak af ar au av aw al ag ax ay az aA am ah aB aC aD aE an ai aF aG aH aI ao aj aJ aK aL aM aO) (t := 27) ?hr ?_; (case hd => rfl); (case hg => rfl); (case hr => first | (go_simp; done) | (go_simp; rfl)); intro ad hg w4 hbox hb; have ab := Aside0.mk hbox; have ex := zhs HB hg; have bg := zhs HB hg; replace HB := zhB HB hb; clear hb hbox hg) | ((with_reducible refine gate_dst (N := 3) rfl ?_); refine box_event ?hg (N := 3) ?hd (cs := #[.int .i64 ba, .int .i64 bc, .int .i64 bd, .int .i64 be, .int .i64 bf]) (t := 33) ?hr ?_; (case hd => rfl); (case hg => rfl); (case hr => first | (go_simp; done) | (go_simp; rfl)); intro aN hg w5 hbox hb; have ac := Aside0.mk hbox; have ey := zhs HB hg; have bh := zhs HB hg; have b1 := znl ab hg; have b2 := zng ab hg; replace ab := zbB ab hb; replace HB := zhB HB hb; clear hb hbox hg))
 repeat (go_quiet (first | ((with_reducible refine gate_dst (N := 2) rfl ?_); refine box_event ?hg (N := 2) ?hd (cs := Jt aS aQ aU aV aW aX aT aR aY aZ ap aq ak af ar au av aw al ag ax ay az aA am ah aB aC aD aE an ai aF aG aH aI ao aj aJ aK aL aM aO) (t := 27) ?hr ?_; (case hd => rfl); (case hg => rfl); (case hr => first | (go_simp; done) | (go_simp; rfl)); intro ad hg w4 hbox hb; have ab := Aside0.mk hbox; have ex := zhs HB hg; have bg := zhs HB hg; replace HB := zhB HB hb; clear hb hbox hg) | ((with_reducible refine gate_dst (N := 3) rfl ?_); refine box_event ?hg (N := 3) ?hd (cs := #[.int .i64 ba, .int .i64 bc, .int .i64 bd, .int .i64 be, .int .i64 bf]) (t := 33) ?hr ?_; (case hd => rfl); (case hg => rfl); (case hr => first | (go_simp; done) | (go_simp; rfl)); intro aN hg w5 hbox hb; have ac := Aside0.mk hbox; have ey := zhs HB hg; have bh := zhs HB hg; have b1 := znl ab hg; have b2 := zng ab hg; replace ab := zbB ab hb; replace HB := zhB HB hb; clear hb hbox hg)); go_upto_region 1 with (first | ((with_reducible refine gate_dst (N := 2) rfl ?_); refine box_event ?hg (N := 2) ?hd (cs := Jt aS aQ aU aV aW aX aT aR aY aZ ap aq ak af ar au av aw al ag ax ay az aA am ah aB aC aD aE an ai aF aG aH aI ao aj aJ aK aL aM aO) (t := 27) ?hr ?_; (case hd => rfl); (case hg => rfl); (case hr => first | (go_simp; done) | (go_simp; rfl)); intro ad hg w4 hbox hb; have ab := Aside0.mk hbox; have ex := zhs HB hg; have bg := zhs HB hg; replace HB := zhB HB hb; clear hb hbox hg) | ((with_reducible refine gate_dst (N := 3) rfl ?_); refine box_event ?hg (N := 3) ?hd (cs := #[.int .i64 ba, .int .i64 bc, .int .i64 bd, .int .i64 be, .int .i64 bf]) (t := 33) ?hr ?_; (case hd => rfl); (case hg => rfl); (case hr => first | (go_simp; done) | (go_simp; rfl)); intro aN hg w5 hbox hb; have ac := Aside0.mk hbox; have ey := zhs HB hg; have bh := zhs HB hg; have b1 := znl ab hg; have b2 := zng ab hg; replace ab := zbB ab hb; replace HB := zhB HB hb; clear hb hbox hg)))
 (try simp only [Act.put, List.setIfInBounds_toArray, List.set_cons_zero, List.set_cons_succ])
 go_cut [22] (fun v22 wc => ∃ (kq : Nat) (el : Bool), v22 = .bool el ∧ Aside0 (perilunelaw23_JobsOne.j0 kq el aS aQ aU aV aW aX aT aR aY aZ ap aq ak af ar au av aw al ag ax ay az aA am ah aB aC aD aE an ai aF aG aH aI ao aj aJ aK aL aM aO ba bc bd be bf = some r) ∧ Aside0 (kq ≤ k) ∧ Aside0 (wc.heap[ad]? = some (.cells (Jt aS aQ aU aV aW aX aT aR aY aZ ap aq ak af ar au av aw al ag ax ay az aA am ah aB aC aD aE an ai aF aG aH aI ao aj aJ aK aL aM aO) 27 (0, 0))) ∧ Aside0 (wc.heap[aN]? = some (.cells #[.int .i64 ba, .int .i64 bc, .int .i64 bd, .int .i64 be, .int .i64 bf] 33 (0, 0))) ∧ Aside0 (Below w.heap.size w wc))
 case first =>
  have H := HC3.out
  clear HC3
  replace H := Option.bind_eq_some_iff.mp H
  obtain ⟨ek, A60, H⟩ := H
  try dsimp only at H
  have A6 := Aside0.mk A60
  clear A60
  by_cases c7 : ek = true
  ·subst c7
   have H1 : (if ba < 0 then (perilunelaw23_JobsOne.j0 k true aS aQ aU aV aW aX aT aR aY aZ ap aq ak af ar au av aw al ag ax ay az aA am ah aB aC aD aE an ai aF aG aH aI ao aj aJ aK aL aM aO ba bc bd be bf) else (perilunelaw23_JobsOne.j0 k (decide (ba > 5)) aS aQ aU aV aW aX aT aR aY aZ ap aq ak af ar au av aw al ag ax ay az aA am ah aB aC aD aE an ai aF aG aH aI ao aj aJ aK aL aM aO ba bc bd be bf)) = some r := by rw [if_pos rfl] at H; exact H
   clear H
   have H := H1
   clear H1
   by_cases c8 : ba < 0
   ·rw [if_pos c8] at H
    have c8b0 : decide (ba < 0) = true := decide_eq_true c8
    clear c8
    (first | rw [c8b0] | (simp only [i64_w, i32_w]; rw [c8b0]) | rw [c8b1] | skip)
    have H' := Aside0.mk H
    clear H
    go_wp2_with (first | ((with_reducible refine gate_dst (N := 10) rfl ?_); refine seg_load_on (t := 27) (p := 2) (g := ad) (off := 0) (T := 27) (cur := Jt aS aQ aU aV aW aX aT aR aY aZ ap aq ak af ar au av aw al ag ax ay az aA am ah aB aC aD aE an ai aF aG aH aI ao aj aJ aK aL aM aO) (vs := Vt aS aQ aU aV aW aX aT aR aY aZ ap aq ak af ar au av aw al ag ax ay az aA am ah aB aC aD aE an ai aF aG aH aI ao aj aJ aK aL aM aO) ?hg ?ho ?hp ?hb Try.underlying27 ?hd ?hi ?hw ?_; (case ho => rfl); (case hg => first | rfl | (go_simp; done) | (simp [Region.wanted, yielded, *]; done)); (case hp => rfl); (case hb => exact (zbo ab)); (case hd => rfl); (case hi => kernel_rfl); (case hw => rfl)) | (go_at_call 14; (with_reducible refine (periluneref23_Valid.calls k aS aQ aU aV aW aX aT aR aY aZ ap aq ak af ar au av aw al ag ax ay az aA am ah aB aC aD aE an ai aF aG aH aI ao aj aJ aK aL aM aO true _ A6.out).mono ?_); rintro e w9 ⟨rfl, hb⟩; replace ab := zbB ab hb; replace ac := zbB ac hb; replace HB := zhB HB hb; (try clear hb); (try clear hb2); (try clear hk); (try clear hi); have hnb10 := b2.out; have hnc10 := b1.out; have dY : w9.cell? ⟨aN, 0, none⟩ = some (.int .i64 ba) := (blk_cell ac.out 0).trans rfl; have dZ : w9.cell? ⟨aN, 1, none⟩ = some (.int .i64 bc) := (blk_cell ac.out 1).trans rfl; have d0 : w9.cell? ⟨aN, 2, none⟩ = some (.int .i64 bd) := (blk_cell ac.out 2).trans rfl; have d1 : w9.cell? ⟨aN, 3, none⟩ = some (.int .i64 be) := (blk_cell ac.out 3).trans rfl; have d2 : w9.cell? ⟨aN, 4, none⟩ = some (.int .i64 bf) := (blk_cell ac.out 4).trans rfl; have d3 := blk_frozen ac.out 0; have d4 := blk_frozen ac.out 1; have d5 := blk_frozen ac.out 2; have d6 := blk_frozen ac.out 3; have d7 := blk_frozen ac.out 4))
    repeat (go_quiet (first | ((with_reducible refine gate_dst (N := 10) rfl ?_); refine seg_load_on (t := 27) (p := 2) (g := ad) (off := 0) (T := 27) (cur := Jt aS aQ aU aV aW aX aT aR aY aZ ap aq ak af ar au av aw al ag ax ay az aA am ah aB aC aD aE an ai aF aG aH aI ao aj aJ aK aL aM aO) (vs := Vt aS aQ aU aV aW aX aT aR aY aZ ap aq ak af ar au av aw al ag ax ay az aA am ah aB aC aD aE an ai aF aG aH aI ao aj aJ aK aL aM aO) ?hg ?ho ?hp ?hb Try.underlying27 ?hd ?hi ?hw ?_; (case ho => rfl); (case hg => first | rfl | (go_simp; done) | (simp [Region.wanted, yielded, *]; done)); (case hp => rfl); (case hb => exact (zbo ab)); (case hd => rfl); (case hi => kernel_rfl); (case hw => rfl)) | (go_at_call 14; (with_reducible refine (periluneref23_Valid.calls k aS aQ aU aV aW aX aT aR aY aZ ap aq ak af ar au av aw al ag ax ay az aA am ah aB aC aD aE an ai aF aG aH aI ao aj aJ aK aL aM aO true _ A6.out).mono ?_); rintro e w9 ⟨rfl, hb⟩; replace ab := zbB ab hb; replace ac := zbB ac hb; replace HB := zhB HB hb; (try clear hb); (try clear hb2); (try clear hk); (try clear hi); have hnb10 := b2.out; have hnc10 := b1.out; have dY : w9.cell? ⟨aN, 0, none⟩ = some (.int .i64 ba) := (blk_cell ac.out 0).trans rfl; have dZ : w9.cell? ⟨aN, 1, none⟩ = some (.int .i64 bc) := (blk_cell ac.out 1).trans rfl; have d0 : w9.cell? ⟨aN, 2, none⟩ = some (.int .i64 bd) := (blk_cell ac.out 2).trans rfl; have d1 : w9.cell? ⟨aN, 3, none⟩ = some (.int .i64 be) := (blk_cell ac.out 3).trans rfl; have d2 : w9.cell? ⟨aN, 4, none⟩ = some (.int .i64 bf) := (blk_cell ac.out 4).trans rfl; have d3 := blk_frozen ac.out 0; have d4 := blk_frozen ac.out 1; have d5 := blk_frozen ac.out 2; have d6 := blk_frozen ac.out 3; have d7 := blk_frozen ac.out 4)); try go_wp2_with (first | ((with_reducible refine gate_dst (N := 10) rfl ?_); refine seg_load_on (t := 27) (p := 2) (g := ad) (off := 0) (T := 27) (cur := Jt aS aQ aU aV aW aX aT aR aY aZ ap aq ak af ar au av aw al ag ax ay az aA am ah aB aC aD aE an ai aF aG aH aI ao aj aJ aK aL aM aO) (vs := Vt aS aQ aU aV aW aX aT aR aY aZ ap aq ak af ar au av aw al ag ax ay az aA am ah aB aC aD aE an ai aF aG aH aI ao aj aJ aK aL aM aO) ?hg ?ho ?hp ?hb Try.underlying27 ?hd ?hi ?hw ?_; (case ho => rfl); (case hg => first | rfl | (go_simp; done) | (simp [Region.wanted, yielded, *]; done)); (case hp => rfl); (case hb => exact (zbo ab)); (case hd => rfl); (case hi => kernel_rfl); (case hw => rfl)) | (go_at_call 14; (with_reducible refine (periluneref23_Valid.calls k aS aQ aU aV aW aX aT aR aY aZ ap aq ak af ar au av aw al ag ax ay az aA am ah aB aC aD aE an ai aF aG aH aI ao aj aJ aK aL aM aO true _ A6.out).mono ?_); rintro e w9 ⟨rfl, hb⟩; replace ab := zbB ab hb; replace ac := zbB ac hb; replace HB := zhB HB hb; (try clear hb); (try clear hb2); (try clear hk); (try clear hi); have hnb10 := b2.out; have hnc10 := b1.out; have dY : w9.cell? ⟨aN, 0, none⟩ = some (.int .i64 ba) := (blk_cell ac.out 0).trans rfl; have dZ : w9.cell? ⟨aN, 1, none⟩ = some (.int .i64 bc) := (blk_cell ac.out 1).trans rfl; have d0 : w9.cell? ⟨aN, 2, none⟩ = some (.int .i64 bd) := (blk_cell ac.out 2).trans rfl; have d1 : w9.cell? ⟨aN, 3, none⟩ = some (.int .i64 be) := (blk_cell ac.out 3).trans rfl; have d2 : w9.cell? ⟨aN, 4, none⟩ = some (.int .i64 bf) := (blk_cell ac.out 4).trans rfl; have d3 := blk_frozen ac.out 0; have d4 := blk_frozen ac.out 1; have d5 := blk_frozen ac.out 2; have d6 := blk_frozen ac.out 3; have d7 := blk_frozen ac.out 4)))
    go_meet
    case rel => exact ⟨_, (true), (by first | rfl | (simp; done) | (simp [*]; done)), H', ⟨by first | omega | exact Nat.le_refl _⟩, ⟨by (with_reducible repeat (first | refine blk_drewN ?_ _ | refine blk_drew ?_ | refine blk_alloc ?_ _)); exact ab.out⟩, ⟨by (with_reducible repeat (first | refine blk_drewN ?_ _ | refine blk_drew ?_ | refine blk_alloc ?_ _)); exact ac.out⟩, ⟨zho HB⟩⟩
   ·rw [if_neg c8] at H
    have c8b0 : decide (ba < 0) = false := decide_eq_false c8
    clear c8
    (first | rw [c8b0] | (simp only [i64_w, i32_w]; rw [c8b0]) | rw [c8b1] | skip)
    have H' := Aside0.mk H
    clear H
    go_wp2_with (first | ((with_reducible refine gate_dst (N := 10) rfl ?_); refine seg_load_on (t := 27) (p := 2) (g := ad) (off := 0) (T := 27) (cur := Jt aS aQ aU aV aW aX aT aR aY aZ ap aq ak af ar au av aw al ag ax ay az aA am ah aB aC aD aE an ai aF aG aH aI ao aj aJ aK aL aM aO) (vs := Vt aS aQ aU aV aW aX aT aR aY aZ ap aq ak af ar au av aw al ag ax ay az aA am ah aB aC aD aE an ai aF aG aH aI ao aj aJ aK aL aM aO) ?hg ?ho ?hp ?hb Try.underlying27 ?hd ?hi ?hw ?_; (case ho => rfl); (case hg => first | rfl | (go_simp; done) | (simp [Region.wanted, yielded, *]; done)); (case hp => rfl); (case hb => exact (zbo ab)); (case hd => rfl); (case hi => kernel_rfl); (case hw => rfl)) | (go_at_call 14; (with_reducible refine (periluneref23_Valid.calls k aS aQ aU aV aW aX aT aR aY aZ ap aq ak af ar au av aw al ag ax ay az aA am ah aB aC aD aE an ai aF aG aH aI ao aj aJ aK aL aM aO true _ A6.out).mono ?_); rintro e w12 ⟨rfl, hb⟩; replace ab := zbB ab hb; replace ac := zbB ac hb; replace HB := zhB HB hb; (try clear hb); (try clear hb2); (try clear hk); (try clear hi); have hnb13 := b2.out; have hnc13 := b1.out; have d8 : w12.cell? ⟨aN, 0, none⟩ = some (.int .i64 ba) := (blk_cell ac.out 0).trans rfl; have d9 : w12.cell? ⟨aN, 1, none⟩ = some (.int .i64 bc) := (blk_cell ac.out 1).trans rfl; have ea : w12.cell? ⟨aN, 2, none⟩ = some (.int .i64 bd) := (blk_cell ac.out 2).trans rfl; have eb : w12.cell? ⟨aN, 3, none⟩ = some (.int .i64 be) := (blk_cell ac.out 3).trans rfl; have ec : w12.cell? ⟨aN, 4, none⟩ = some (.int .i64 bf) := (blk_cell ac.out 4).trans rfl; have ed := blk_frozen ac.out 0; have ee := blk_frozen ac.out 1; have ef := blk_frozen ac.out 2; have eg := blk_frozen ac.out 3; have eh := blk_frozen ac.out 4))
    repeat (go_quiet (first | ((with_reducible refine gate_dst (N := 10) rfl ?_); refine seg_load_on (t := 27) (p := 2) (g := ad) (off := 0) (T := 27) (cur := Jt aS aQ aU aV aW aX aT aR aY aZ ap aq ak af ar au av aw al ag ax ay az aA am ah aB aC aD aE an ai aF aG aH aI ao aj aJ aK aL aM aO) (vs := Vt aS aQ aU aV aW aX aT aR aY aZ ap aq ak af ar au av aw al ag ax ay az aA am ah aB aC aD aE an ai aF aG aH aI ao aj aJ aK aL aM aO) ?hg ?ho ?hp ?hb Try.underlying27 ?hd ?hi ?hw ?_; (case ho => rfl); (case hg => first | rfl | (go_simp; done) | (simp [Region.wanted, yielded, *]; done)); (case hp => rfl); (case hb => exact (zbo ab)); (case hd => rfl); (case hi => kernel_rfl); (case hw => rfl)) | (go_at_call 14; (with_reducible refine (periluneref23_Valid.calls k aS aQ aU aV aW aX aT aR aY aZ ap aq ak af ar au av aw al ag ax ay az aA am ah aB aC aD aE an ai aF aG aH aI ao aj aJ aK aL aM aO true _ A6.out).mono ?_); rintro e w12 ⟨rfl, hb⟩; replace ab := zbB ab hb; replace ac := zbB ac hb; replace HB := zhB HB hb; (try clear hb); (try clear hb2); (try clear hk); (try clear hi); have hnb13 := b2.out; have hnc13 := b1.out; have d8 : w12.cell? ⟨aN, 0, none⟩ = some (.int .i64 ba) := (blk_cell ac.out 0).trans rfl; have d9 : w12.cell? ⟨aN, 1, none⟩ = some (.int .i64 bc) := (blk_cell ac.out 1).trans rfl; have ea : w12.cell? ⟨aN, 2, none⟩ = some (.int .i64 bd) := (blk_cell ac.out 2).trans rfl; have eb : w12.cell? ⟨aN, 3, none⟩ = some (.int .i64 be) := (blk_cell ac.out 3).trans rfl; have ec : w12.cell? ⟨aN, 4, none⟩ = some (.int .i64 bf) := (blk_cell ac.out 4).trans rfl; have ed := blk_frozen ac.out 0; have ee := blk_frozen ac.out 1; have ef := blk_frozen ac.out 2; have eg := blk_frozen ac.out 3; have eh := blk_frozen ac.out 4)); try go_wp2_with (first | ((with_reducible refine gate_dst (N := 10) rfl ?_); refine seg_load_on (t := 27) (p := 2) (g := ad) (off := 0) (T := 27) (cur := Jt aS aQ aU aV aW aX aT aR aY aZ ap aq ak af ar au av aw al ag ax ay az aA am ah aB aC aD aE an ai aF aG aH aI ao aj aJ aK aL aM aO) (vs := Vt aS aQ aU aV aW aX aT aR aY aZ ap aq ak af ar au av aw al ag ax ay az aA am ah aB aC aD aE an ai aF aG aH aI ao aj aJ aK aL aM aO) ?hg ?ho ?hp ?hb Try.underlying27 ?hd ?hi ?hw ?_; (case ho => rfl); (case hg => first | rfl | (go_simp; done) | (simp [Region.wanted, yielded, *]; done)); (case hp => rfl); (case hb => exact (zbo ab)); (case hd => rfl); (case hi => kernel_rfl); (case hw => rfl)) | (go_at_call 14; (with_reducible refine (periluneref23_Valid.calls k aS aQ aU aV aW aX aT aR aY aZ ap aq ak af ar au av aw al ag ax ay az aA am ah aB aC aD aE an ai aF aG aH aI ao aj aJ aK aL aM aO true _ A6.out).mono ?_); rintro e w12 ⟨rfl, hb⟩; replace ab := zbB ab hb; replace ac := zbB ac hb; replace HB := zhB HB hb; (try clear hb); (try clear hb2); (try clear hk); (try clear hi); have hnb13 := b2.out; have hnc13 := b1.out; have d8 : w12.cell? ⟨aN, 0, none⟩ = some (.int .i64 ba) := (blk_cell ac.out 0).trans rfl; have d9 : w12.cell? ⟨aN, 1, none⟩ = some (.int .i64 bc) := (blk_cell ac.out 1).trans rfl; have ea : w12.cell? ⟨aN, 2, none⟩ = some (.int .i64 bd) := (blk_cell ac.out 2).trans rfl; have eb : w12.cell? ⟨aN, 3, none⟩ = some (.int .i64 be) := (blk_cell ac.out 3).trans rfl; have ec : w12.cell? ⟨aN, 4, none⟩ = some (.int .i64 bf) := (blk_cell ac.out 4).trans rfl; have ed := blk_frozen ac.out 0; have ee := blk_frozen ac.out 1; have ef := blk_frozen ac.out 2; have eg := blk_frozen ac.out 3; have eh := blk_frozen ac.out 4)))
    go_meet
    case rel => exact ⟨_, (decide (ba > 5)), (by first | rfl | (simp; done) | (simp [*]; done)), H', ⟨by first | omega | exact Nat.le_refl _⟩, ⟨by (with_reducible repeat (first | refine blk_drewN ?_ _ | refine blk_drew ?_ | refine blk_alloc ?_ _)); exact ab.out⟩, ⟨by (with_reducible repeat (first | refine blk_drewN ?_ _ | refine blk_drew ?_ | refine blk_alloc ?_ _)); exact ac.out⟩, ⟨zho HB⟩⟩
  ·replace c7 := Bool.eq_false_iff.mpr c7
   subst c7
   have H1 : (perilunelaw23_JobsOne.j0 k true aS aQ aU aV aW aX aT aR aY aZ ap aq ak af ar au av aw al ag ax ay az aA am ah aB aC aD aE an ai aF aG aH aI ao aj aJ aK aL aM aO ba bc bd be bf) = some r := by rw [if_neg (show ¬ (false = true) by decide)] at H; exact H
   clear H
   have H := H1
   clear H1
   have H' := Aside0.mk H
   clear H
   go_wp2_with (first | ((with_reducible refine gate_dst (N := 10) rfl ?_); refine seg_load_on (t := 27) (p := 2) (g := ad) (off := 0) (T := 27) (cur := Jt aS aQ aU aV aW aX aT aR aY aZ ap aq ak af ar au av aw al ag ax ay az aA am ah aB aC aD aE an ai aF aG aH aI ao aj aJ aK aL aM aO) (vs := Vt aS aQ aU aV aW aX aT aR aY aZ ap aq ak af ar au av aw al ag ax ay az aA am ah aB aC aD aE an ai aF aG aH aI ao aj aJ aK aL aM aO) ?hg ?ho ?hp ?hb Try.underlying27 ?hd ?hi ?hw ?_; (case ho => rfl); (case hg => first | rfl | (go_simp; done) | (simp [Region.wanted, yielded, *]; done)); (case hp => rfl); (case hb => exact (zbo ab)); (case hd => rfl); (case hi => kernel_rfl); (case hw => rfl)) | (go_at_call 14; (with_reducible refine (periluneref23_Valid.calls k aS aQ aU aV aW aX aT aR aY aZ ap aq ak af ar au av aw al ag ax ay az aA am ah aB aC aD aE an ai aF aG aH aI ao aj aJ aK aL aM aO false _ A6.out).mono ?_); rintro e w15 ⟨rfl, hb⟩; replace ab := zbB ab hb; replace ac := zbB ac hb; replace HB := zhB HB hb; (try clear hb); (try clear hb2); (try clear hk); (try clear hi)))
   repeat (go_quiet (first | ((with_reducible refine gate_dst (N := 10) rfl ?_); refine seg_load_on (t := 27) (p := 2) (g := ad) (off := 0) (T := 27) (cur := Jt aS aQ aU aV aW aX aT aR aY aZ ap aq ak af ar au av aw al ag ax ay az aA am ah aB aC aD aE an ai aF aG aH aI ao aj aJ aK aL aM aO) (vs := Vt aS aQ aU aV aW aX aT aR aY aZ ap aq ak af ar au av aw al ag ax ay az aA am ah aB aC aD aE an ai aF aG aH aI ao aj aJ aK aL aM aO) ?hg ?ho ?hp ?hb Try.underlying27 ?hd ?hi ?hw ?_; (case ho => rfl); (case hg => first | rfl | (go_simp; done) | (simp [Region.wanted, yielded, *]; done)); (case hp => rfl); (case hb => exact (zbo ab)); (case hd => rfl); (case hi => kernel_rfl); (case hw => rfl)) | (go_at_call 14; (with_reducible refine (periluneref23_Valid.calls k aS aQ aU aV aW aX aT aR aY aZ ap aq ak af ar au av aw al ag ax ay az aA am ah aB aC aD aE an ai aF aG aH aI ao aj aJ aK aL aM aO false _ A6.out).mono ?_); rintro e w15 ⟨rfl, hb⟩; replace ab := zbB ab hb; replace ac := zbB ac hb; replace HB := zhB HB hb; (try clear hb); (try clear hb2); (try clear hk); (try clear hi))); try go_wp2_with (first | ((with_reducible refine gate_dst (N := 10) rfl ?_); refine seg_load_on (t := 27) (p := 2) (g := ad) (off := 0) (T := 27) (cur := Jt aS aQ aU aV aW aX aT aR aY aZ ap aq ak af ar au av aw al ag ax ay az aA am ah aB aC aD aE an ai aF aG aH aI ao aj aJ aK aL aM aO) (vs := Vt aS aQ aU aV aW aX aT aR aY aZ ap aq ak af ar au av aw al ag ax ay az aA am ah aB aC aD aE an ai aF aG aH aI ao aj aJ aK aL aM aO) ?hg ?ho ?hp ?hb Try.underlying27 ?hd ?hi ?hw ?_; (case ho => rfl); (case hg => first | rfl | (go_simp; done) | (simp [Region.wanted, yielded, *]; done)); (case hp => rfl); (case hb => exact (zbo ab)); (case hd => rfl); (case hi => kernel_rfl); (case hw => rfl)) | (go_at_call 14; (with_reducible refine (periluneref23_Valid.calls k aS aQ aU aV aW aX aT aR aY aZ ap aq ak af ar au av aw al ag ax ay az aA am ah aB aC aD aE an ai aF aG aH aI ao aj aJ aK aL aM aO false _ A6.out).mono ?_); rintro e w15 ⟨rfl, hb⟩; replace ab := zbB ab hb; replace ac := zbB ac hb; replace HB := zhB HB hb; (try clear hb); (try clear hb2); (try clear hk); (try clear hi))))
   go_meet
   case rel => exact ⟨_, (true), (by first | rfl | (simp; done) | (simp [*]; done)), H', ⟨by first | omega | exact Nat.le_refl _⟩, ⟨by (with_reducible repeat (first | refine blk_drewN ?_ _ | refine blk_drew ?_ | refine blk_alloc ?_ _)); exact ab.out⟩, ⟨by (with_reducible repeat (first | refine blk_drewN ?_ _ | refine blk_drew ?_ | refine blk_alloc ?_ _)); exact ac.out⟩, ⟨zho HB⟩⟩
 case rest =>
  clear HC3
  try clear c1 p2 c4 c7 c8 c8b0 c8b1 c10 c13 dY dZ d0 d1 d2 d8 d9 ea eb ec d3 d4 d5 d6 d7 ed ee ef eg eh
  obtain ⟨kq, el, rfl, HA, HJ2, ab, ac, HB⟩ := hcut
  cases kq with
  | zero => exact absurd HA.out (by simp [perilunelaw23_JobsOne.j0])
  | succ kj2 =>
   have H := HA.out
   clear HA
   simp only [perilunelaw23_JobsOne.j0] at H
   by_cases c16 : el = true
   ·subst c16
    have H1 : ((perilunelaw23_live.f kj2).bind fun dm => (some dm)) = some r := by rw [if_pos rfl] at H; exact H
    clear H
    have H := H1
    clear H1
    replace H := Option.bind_eq_some_iff.mp H
    obtain ⟨dm, A170, H⟩ := H
    try dsimp only at H
    have A17 := Aside0.mk A170
    clear A170
    obtain rfl := Option.some.inj H
    go_wp2_with (first | (go_at_call 15; (with_reducible refine (perilunelaw23_live.calls kj2  dm _ A17.out).mono ?_); rintro e w18 ⟨rfl, hb⟩; replace ab := zbB ab hb; replace ac := zbB ac hb; replace HB := zhB HB hb; (try clear hb); (try clear hb2); (try clear hk); (try clear hi)))
    repeat (go_quiet (first | (go_at_call 15; (with_reducible refine (perilunelaw23_live.calls kj2  dm _ A17.out).mono ?_); rintro e w18 ⟨rfl, hb⟩; replace ab := zbB ab hb; replace ac := zbB ac hb; replace HB := zhB HB hb; (try clear hb); (try clear hb2); (try clear hk); (try clear hi))); try go_wp2_with (first | (go_at_call 15; (with_reducible refine (perilunelaw23_live.calls kj2  dm _ A17.out).mono ?_); rintro e w18 ⟨rfl, hb⟩; replace ab := zbB ab hb; replace ac := zbB ac hb; replace HB := zhB HB hb; (try clear hb); (try clear hb2); (try clear hk); (try clear hi))))
    go_ret
    exact ⟨by first | rfl | (simp [errW_none, errW_some] <;> rfl) | (simp [*, errW_none, errW_some] <;> rfl), zho HB⟩
   ·replace c16 := Bool.eq_false_iff.mpr c16
    subst c16
    have H1 : ((perilunelaw23_step.f kj2 aS aQ aU aV aW aX aT aR aY aZ ap aq ak af ar au av aw al ag ax ay az aA am ah aB aC aD aE an ai aF aG aH aI ao aj aJ aK aL aM aO ba bc bd be bf).bind fun bb => (if bb.2.2.2.2.2.2.2.2.2.2.2.2.2.2.2.2.2.2.2.2.2.2.2.2.2.2.2.2.2.2.2.2.2.2.2.2.2.2.2.2.2.2.2.2 = 0 then (perilunelaw23_JobsOne.l0 kj2 bb.2.2.2.2.2.2.2.2.2.2.2.2.2.2.2.2.2.2.2.2.2.2.2.2.2.2.2.2.2.2.2.2.2.2.2.2.2.2.2.2.2.2.2.1 0 0 aS aQ aU aV aW aX aT aR aY aZ ap aq ak af ar au av aw al ag ax ay az aA am ah aB aC aD aE an ai aF aG aH aI ao aj aJ aK aL aM aO ba bc bd be bf bb.1 bb.2.1 bb.2.2.1 bb.2.2.2.1 bb.2.2.2.2.1 bb.2.2.2.2.2.1 bb.2.2.2.2.2.2.1 bb.2.2.2.2.2.2.2.1 bb.2.2.2.2.2.2.2.2.1 bb.2.2.2.2.2.2.2.2.2.1 bb.2.2.2.2.2.2.2.2.2.2.1 bb.2.2.2.2.2.2.2.2.2.2.2.1 bb.2.2.2.2.2.2.2.2.2.2.2.2.1 bb.2.2.2.2.2.2.2.2.2.2.2.2.2.1 bb.2.2.2.2.2.2.2.2.2.2.2.2.2.2.1 bb.2.2.2.2.2.2.2.2.2.2.2.2.2.2.2.1 bb.2.2.2.2.2.2.2.2.2.2.2.2.2.2.2.2.1 bb.2.2.2.2.2.2.2.2.2.2.2.2.2.2.2.2.2.1 bb.2.2.2.2.2.2.2.2.2.2.2.2.2.2.2.2.2.2.1 bb.2.2.2.2.2.2.2.2.2.2.2.2.2.2.2.2.2.2.2.1 bb.2.2.2.2.2.2.2.2.2.2.2.2.2.2.2.2.2.2.2.2.1 bb.2.2.2.2.2.2.2.2.2.2.2.2.2.2.2.2.2.2.2.2.2.1 bb.2.2.2.2.2.2.2.2.2.2.2.2.2.2.2.2.2.2.2.2.2.2.1 bb.2.2.2.2.2.2.2.2.2.2.2.2.2.2.2.2.2.2.2.2.2.2.2.1 bb.2.2.2.2.2.2.2.2.2.2.2.2.2.2.2.2.2.2.2.2.2.2.2.2.1 bb.2.2.2.2.2.2.2.2.2.2.2.2.2.2.2.2.2.2.2.2.2.2.2.2.2.1 bb.2.2.2.2.2.2.2.2.2.2.2.2.2.2.2.2.2.2.2.2.2.2.2.2.2.2.1 bb.2.2.2.2.2.2.2.2.2.2.2.2.2.2.2.2.2.2.2.2.2.2.2.2.2.2.2.1 bb.2.2.2.2.2.2.2.2.2.2.2.2.2.2.2.2.2.2.2.2.2.2.2.2.2.2.2.2.1 bb.2.2.2.2.2.2.2.2.2.2.2.2.2.2.2.2.2.2.2.2.2.2.2.2.2.2.2.2.2.1 bb.2.2.2.2.2.2.2.2.2.2.2.2.2.2.2.2.2.2.2.2.2.2.2.2.2.2.2.2.2.2.1 bb.2.2.2.2.2.2.2.2.2.2.2.2.2.2.2.2.2.2.2.2.2.2.2.2.2.2.2.2.2.2.2.1 bb.2.2.2.2.2.2.2.2.2.2.2.2.2.2.2.2.2.2.2.2.2.2.2.2.2.2.2.2.2.2.2.2.1 bb.2.2.2.2.2.2.2.2.2.2.2.2.2.2.2.2.2.2.2.2.2.2.2.2.2.2.2.2.2.2.2.2.2.1 bb.2.2.2.2.2.2.2.2.2.2.2.2.2.2.2.2.2.2.2.2.2.2.2.2.2.2.2.2.2.2.2.2.2.2.1 bb.2.2.2.2.2.2.2.2.2.2.2.2.2.2.2.2.2.2.2.2.2.2.2.2.2.2.2.2.2.2.2.2.2.2.2.1 bb.2.2.2.2.2.2.2.2.2.2.2.2.2.2.2.2.2.2.2.2.2.2.2.2.2.2.2.2.2.2.2.2.2.2.2.2.1 bb.2.2.2.2.2.2.2.2.2.2.2.2.2.2.2.2.2.2.2.2.2.2.2.2.2.2.2.2.2.2.2.2.2.2.2.2.2.1 bb.2.2.2.2.2.2.2.2.2.2.2.2.2.2.2.2.2.2.2.2.2.2.2.2.2.2.2.2.2.2.2.2.2.2.2.2.2.2.1 bb.2.2.2.2.2.2.2.2.2.2.2.2.2.2.2.2.2.2.2.2.2.2.2.2.2.2.2.2.2.2.2.2.2.2.2.2.2.2.2.1 bb.2.2.2.2.2.2.2.2.2.2.2.2.2.2.2.2.2.2.2.2.2.2.2.2.2.2.2.2.2.2.2.2.2.2.2.2.2.2.2.2.1 bb.2.2.2.2.2.2.2.2.2.2.2.2.2.2.2.2.2.2.2.2.2.2.2.2.2.2.2.2.2.2.2.2.2.2.2.2.2.2.2.2.2.1 bb.2.2.2.2.2.2.2.2.2.2.2.2.2.2.2.2.2.2.2.2.2.2.2.2.2.2.2.2.2.2.2.2.2.2.2.2.2.2.2.2.2.2.1) else ((perilunelaw23_live.f kj2).bind fun dd => (some dd)))) = some r := by rw [if_neg (show ¬ (false = true) by decide)] at H; exact H
    clear H
    have H := H1
    clear H1
    replace H := Option.bind_eq_some_iff.mp H
    obtain ⟨⟨bp, bi, bq, br, bs, bt, bu, bj, bv, bw, bx, bz, bA, bk, bB, bC, bD, bE, bF, bl, bG, bH, bI, bJ, bK, bm, bL, bM, bN, bO, bP, bn, bQ, bR, bS, bT, bU, bo, bV, bW, bX, bY, b0, c6, c9⟩, A190, H⟩ := H
    try dsimp only at H
    have A19 := Aside0.mk A190
    clear A190
    by_cases c20 : c9 = 0
    ·rw [if_pos c20] at H
     have c20b0 : (c9 == 0) = true := beq_iff_eq.mpr c20
     have c20b1 : (c9 != 0) = false := bne_eq_false_iff_eq.mpr c20
     clear c20
     have H' := Aside0.mk H
     clear H
     have hnb21 := b2.out
     have hnc21 := b1.out
     have em : wc.cell? ⟨aN, 0, none⟩ = some (.int .i64 ba) := (blk_cell ac.out 0).trans rfl
     have en : wc.cell? ⟨aN, 1, none⟩ = some (.int .i64 bc) := (blk_cell ac.out 1).trans rfl
     have eo : wc.cell? ⟨aN, 2, none⟩ = some (.int .i64 bd) := (blk_cell ac.out 2).trans rfl
     have ep : wc.cell? ⟨aN, 3, none⟩ = some (.int .i64 be) := (blk_cell ac.out 3).trans rfl
     have er : wc.cell? ⟨aN, 4, none⟩ = some (.int .i64 bf) := (blk_cell ac.out 4).trans rfl
     have es := blk_frozen ac.out 0
     have et := blk_frozen ac.out 1
     have eu := blk_frozen ac.out 2
     have ev := blk_frozen ac.out 3
     have ew := blk_frozen ac.out 4
     go_wp2_with (first | ((with_reducible refine gate_dst (N := 25) rfl ?_); refine seg_load_on (t := 27) (p := 2) (g := ad) (off := 0) (T := 27) (cur := Jt aS aQ aU aV aW aX aT aR aY aZ ap aq ak af ar au av aw al ag ax ay az aA am ah aB aC aD aE an ai aF aG aH aI ao aj aJ aK aL aM aO) (vs := Vt aS aQ aU aV aW aX aT aR aY aZ ap aq ak af ar au av aw al ag ax ay az aA am ah aB aC aD aE an ai aF aG aH aI ao aj aJ aK aL aM aO) ?hg ?ho ?hp ?hb Try.underlying27 ?hd ?hi ?hw ?_; (case ho => rfl); (case hg => first | rfl | (go_simp; done) | (simp [Region.wanted, yielded, *]; done)); (case hp => rfl); (case hb => exact (zbo ab)); (case hd => rfl); (case hi => kernel_rfl); (case hw => rfl)) | ((with_reducible refine gate_dst (N := 26) rfl ?_); refine seg_load_on (t := 33) (p := 3) (g := aN) (off := 0) (T := 33) (cur := #[.int .i64 ba, .int .i64 bc, .int .i64 bd, .int .i64 be, .int .i64 bf]) (vs := [.int .i64 ba, .int .i64 bc, .int .i64 bd, .int .i64 be, .int .i64 bf]) ?hg ?ho ?hp ?hb Try.underlying33 ?hd ?hi ?hw ?_; (case ho => rfl); (case hg => first | rfl | (go_simp; done) | (simp [Region.wanted, yielded, *]; done)); (case hp => rfl); (case hb => exact (zbo ac)); (case hd => rfl); (case hi => kernel_rfl); (case hw => rfl)) | (go_at_call 13; (with_reducible refine (perilunelaw23_step.calls kj2 aS aQ aU aV aW aX aT aR aY aZ ap aq ak af ar au av aw al ag ax ay az aA am ah aB aC aD aE an ai aF aG aH aI ao aj aJ aK aL aM aO ba bc bd be bf bp bi bq br bs bt bu bj bv bw bx bz bA bk bB bC bD bE bF bl bG bH bI bJ bK bm bL bM bN bO bP bn bQ bR bS bT bU bo bV bW bX bY b0 c6 c9 _ A19.out).mono ?_); rintro e w23 ⟨rfl, hb⟩; replace ab := zbB ab hb; replace ac := zbB ac hb; replace HB := zhB HB hb; (try clear hb); (try clear hb2); (try clear hk); (try clear hi)) | ((with_reducible refine gate_dst (N := 5) rfl ?_); refine box_event ?hg (N := 5) ?hd (cs := Jt false 0 0 0 false 0 false 0 0 0 false 0 false 0 0 0 false 0 false 0 0 0 false 0 false 0 0 0 false 0 false 0 0 0 false 0 false 0 0 0 false 0 0) (t := 27) ?hr ?_; (case hd => rfl); (case hg => rfl); (case hr => first | (go_simp; done) | (go_simp; rfl)); intro aP hg w24 hbox hb; have ae := Aside0.mk hbox; have ei := zhs HB hg; have bZ := zhs HB hg; have b4 := znl ab hg; have cy := zng ab hg; have b3 := znl ac hg; have ch := zng ac hg; replace ab := zbB ab hb; replace ac := zbB ac hb; replace HB := zhB HB hb; clear hb hbox hg) | ((with_reducible refine gate_store (t := 27) (p := 5) rfl ?_); (try (rw [drewN_self w24]; generalize hq_ : World.drewN w24 _ = w24; have n0_ := Aside0.mk (blk_at hq_ ab.out); have n1_ := Aside0.mk (blk_at hq_ ac.out); have n2_ := Aside0.mk (blk_at hq_ ae.out); have n3_ := Aside0.mk (below_at hq_ HB.out); clear hq_ ab ac ae HB; have ab := n0_; have ac := n1_; have ae := n2_; have HB := n3_; clear n0_ n1_ n2_ n3_)); refine seg_event (t := 27) (p := 5) (x := ?xo_w25) (g := aP) (off := 0) (T := 27) (cur := Jt false 0 0 0 false 0 false 0 0 0 false 0 false 0 0 0 false 0 false 0 0 0 false 0 false 0 0 0 false 0 false 0 0 0 false 0 false 0 0 0 false 0 0) (vs := Vt bp bi bq br bs bt bu bj bv bw bx bz bA bk bB bC bD bE bF bl bG bH bI bJ bK bm bL bM bN bO bP bn bQ bR bS bT bU bo bV bW bX bY b0) (new := Jt bp bi bq br bs bt bu bj bv bw bx bz bA bk bB bC bD bE bF bl bG bH bI bJ bK bm bL bM bN bO bP bn bQ bR bS bT bU bo bV bW bX bY b0) ?hg ?ho ?hn ?hp ?hv ?hb ?hi ?hf ?h1 ?hw ?_; (case ho => rfl); (case hg => rfl); (case hn => rfl); (case hp => rfl); (case hv => first | rfl | (go_simp; done) | (simp [*]; done)); (case hb => exact (zbo ae)); (case hi => kernel_rfl); (case hf => exact Nat.le_of_ble_eq_true rfl); (case h1 => rfl); (case hw => rfl); intro w25 hbox hg hbl; replace ab := zbG ab hg b4; replace ac := zbG ac hg b3; replace ae := Aside0.mk hbox; replace HB := zhL hbl HB bZ; clear hbox hg hbl))
     repeat (go_quiet (first | ((with_reducible refine gate_dst (N := 25) rfl ?_); refine seg_load_on (t := 27) (p := 2) (g := ad) (off := 0) (T := 27) (cur := Jt aS aQ aU aV aW aX aT aR aY aZ ap aq ak af ar au av aw al ag ax ay az aA am ah aB aC aD aE an ai aF aG aH aI ao aj aJ aK aL aM aO) (vs := Vt aS aQ aU aV aW aX aT aR aY aZ ap aq ak af ar au av aw al ag ax ay az aA am ah aB aC aD aE an ai aF aG aH aI ao aj aJ aK aL aM aO) ?hg ?ho ?hp ?hb Try.underlying27 ?hd ?hi ?hw ?_; (case ho => rfl); (case hg => first | rfl | (go_simp; done) | (simp [Region.wanted, yielded, *]; done)); (case hp => rfl); (case hb => exact (zbo ab)); (case hd => rfl); (case hi => kernel_rfl); (case hw => rfl)) | ((with_reducible refine gate_dst (N := 26) rfl ?_); refine seg_load_on (t := 33) (p := 3) (g := aN) (off := 0) (T := 33) (cur := #[.int .i64 ba, .int .i64 bc, .int .i64 bd, .int .i64 be, .int .i64 bf]) (vs := [.int .i64 ba, .int .i64 bc, .int .i64 bd, .int .i64 be, .int .i64 bf]) ?hg ?ho ?hp ?hb Try.underlying33 ?hd ?hi ?hw ?_; (case ho => rfl); (case hg => first | rfl | (go_simp; done) | (simp [Region.wanted, yielded, *]; done)); (case hp => rfl); (case hb => exact (zbo ac)); (case hd => rfl); (case hi => kernel_rfl); (case hw => rfl)) | (go_at_call 13; (with_reducible refine (perilunelaw23_step.calls kj2 aS aQ aU aV aW aX aT aR aY aZ ap aq ak af ar au av aw al ag ax ay az aA am ah aB aC aD aE an ai aF aG aH aI ao aj aJ aK aL aM aO ba bc bd be bf bp bi bq br bs bt bu bj bv bw bx bz bA bk bB bC bD bE bF bl bG bH bI bJ bK bm bL bM bN bO bP bn bQ bR bS bT bU bo bV bW bX bY b0 c6 c9 _ A19.out).mono ?_); rintro e w23 ⟨rfl, hb⟩; replace ab := zbB ab hb; replace ac := zbB ac hb; replace HB := zhB HB hb; (try clear hb); (try clear hb2); (try clear hk); (try clear hi)) | ((with_reducible refine gate_dst (N := 5) rfl ?_); refine box_event ?hg (N := 5) ?hd (cs := Jt false 0 0 0 false 0 false 0 0 0 false 0 false 0 0 0 false 0 false 0 0 0 false 0 false 0 0 0 false 0 false 0 0 0 false 0 false 0 0 0 false 0 0) (t := 27) ?hr ?_; (case hd => rfl); (case hg => rfl); (case hr => first | (go_simp; done) | (go_simp; rfl)); intro aP hg w24 hbox hb; have ae := Aside0.mk hbox; have ei := zhs HB hg; have bZ := zhs HB hg; have b4 := znl ab hg; have cy := zng ab hg; have b3 := znl ac hg; have ch := zng ac hg; replace ab := zbB ab hb; replace ac := zbB ac hb; replace HB := zhB HB hb; clear hb hbox hg) | ((with_reducible refine gate_store (t := 27) (p := 5) rfl ?_); (try (rw [drewN_self w24]; generalize hq_ : World.drewN w24 _ = w24; have n0_ := Aside0.mk (blk_at hq_ ab.out); have n1_ := Aside0.mk (blk_at hq_ ac.out); have n2_ := Aside0.mk (blk_at hq_ ae.out); have n3_ := Aside0.mk (below_at hq_ HB.out); clear hq_ ab ac ae HB; have ab := n0_; have ac := n1_; have ae := n2_; have HB := n3_; clear n0_ n1_ n2_ n3_)); refine seg_event (t := 27) (p := 5) (x := ?xo_w25) (g := aP) (off := 0) (T := 27) (cur := Jt false 0 0 0 false 0 false 0 0 0 false 0 false 0 0 0 false 0 false 0 0 0 false 0 false 0 0 0 false 0 false 0 0 0 false 0 false 0 0 0 false 0 0) (vs := Vt bp bi bq br bs bt bu bj bv bw bx bz bA bk bB bC bD bE bF bl bG bH bI bJ bK bm bL bM bN bO bP bn bQ bR bS bT bU bo bV bW bX bY b0) (new := Jt bp bi bq br bs bt bu bj bv bw bx bz bA bk bB bC bD bE bF bl bG bH bI bJ bK bm bL bM bN bO bP bn bQ bR bS bT bU bo bV bW bX bY b0) ?hg ?ho ?hn ?hp ?hv ?hb ?hi ?hf ?h1 ?hw ?_; (case ho => rfl); (case hg => rfl); (case hn => rfl); (case hp => rfl); (case hv => first | rfl | (go_simp; done) | (simp [*]; done)); (case hb => exact (zbo ae)); (case hi => kernel_rfl); (case hf => exact Nat.le_of_ble_eq_true rfl); (case h1 => rfl); (case hw => rfl); intro w25 hbox hg hbl; replace ab := zbG ab hg b4; replace ac := zbG ac hg b3; replace ae := Aside0.mk hbox; replace HB := zhL hbl HB bZ; clear hbox hg hbl)); try go_wp2_with (first | ((with_reducible refine gate_dst (N := 25) rfl ?_); refine seg_load_on (t := 27) (p := 2) (g := ad) (off := 0) (T := 27) (cur := Jt aS aQ aU aV aW aX aT aR aY aZ ap aq ak af ar au av aw al ag ax ay az aA am ah aB aC aD aE an ai aF aG aH aI ao aj aJ aK aL aM aO) (vs := Vt aS aQ aU aV aW aX aT aR aY aZ ap aq ak af ar au av aw al ag ax ay az aA am ah aB aC aD aE an ai aF aG aH aI ao aj aJ aK aL aM aO) ?hg ?ho ?hp ?hb Try.underlying27 ?hd ?hi ?hw ?_; (case ho => rfl); (case hg => first | rfl | (go_simp; done) | (simp [Region.wanted, yielded, *]; done)); (case hp => rfl); (case hb => exact (zbo ab)); (case hd => rfl); (case hi => kernel_rfl); (case hw => rfl)) | ((with_reducible refine gate_dst (N := 26) rfl ?_); refine seg_load_on (t := 33) (p := 3) (g := aN) (off := 0) (T := 33) (cur := #[.int .i64 ba, .int .i64 bc, .int .i64 bd, .int .i64 be, .int .i64 bf]) (vs := [.int .i64 ba, .int .i64 bc, .int .i64 bd, .int .i64 be, .int .i64 bf]) ?hg ?ho ?hp ?hb Try.underlying33 ?hd ?hi ?hw ?_; (case ho => rfl); (case hg => first | rfl | (go_simp; done) | (simp [Region.wanted, yielded, *]; done)); (case hp => rfl); (case hb => exact (zbo ac)); (case hd => rfl); (case hi => kernel_rfl); (case hw => rfl); have hnb21 := b2.out; have hnc21 := b1.out; have em : wc.cell? ⟨aN, 0, none⟩ = some (.int .i64 ba) := (blk_cell ac.out 0).trans rfl; have en : wc.cell? ⟨aN, 1, none⟩ = some (.int .i64 bc) := (blk_cell ac.out 1).trans rfl; have eo : wc.cell? ⟨aN, 2, none⟩ = some (.int .i64 bd) := (blk_cell ac.out 2).trans rfl; have ep : wc.cell? ⟨aN, 3, none⟩ = some (.int .i64 be) := (blk_cell ac.out 3).trans rfl; have er : wc.cell? ⟨aN, 4, none⟩ = some (.int .i64 bf) := (blk_cell ac.out 4).trans rfl; have es := blk_frozen ac.out 0; have et := blk_frozen ac.out 1; have eu := blk_frozen ac.out 2; have ev := blk_frozen ac.out 3; have ew := blk_frozen ac.out 4) | (go_at_call 13; (with_reducible refine (perilunelaw23_step.calls kj2 aS aQ aU aV aW aX aT aR aY aZ ap aq ak af ar au av aw al ag ax ay az aA am ah aB aC aD aE an ai aF aG aH aI ao aj aJ aK aL aM aO ba bc bd be bf bp bi bq br bs bt bu bj bv bw bx bz bA bk bB bC bD bE bF bl bG bH bI bJ bK bm bL bM bN bO bP bn bQ bR bS bT bU bo bV bW bX bY b0 c6 c9 _ A19.out).mono ?_); rintro e w23 ⟨rfl, hb⟩; replace ab := zbB ab hb; replace ac := zbB ac hb; replace HB := zhB HB hb; (try clear hb); (try clear hb2); (try clear hk); (try clear hi)) | ((with_reducible refine gate_dst (N := 5) rfl ?_); refine box_event ?hg (N := 5) ?hd (cs := Jt false 0 0 0 false 0 false 0 0 0 false 0 false 0 0 0 false 0 false 0 0 0 false 0 false 0 0 0 false 0 false 0 0 0 false 0 false 0 0 0 false 0 0) (t := 27) ?hr ?_; (case hd => rfl); (case hg => rfl); (case hr => first | (go_simp; done) | (go_simp; rfl)); intro aP hg w24 hbox hb; have ae := Aside0.mk hbox; have ei := zhs HB hg; have bZ := zhs HB hg; have b4 := znl ab hg; have cy := zng ab hg; have b3 := znl ac hg; have ch := zng ac hg; replace ab := zbB ab hb; replace ac := zbB ac hb; replace HB := zhB HB hb; clear hb hbox hg) | ((with_reducible refine gate_store (t := 27) (p := 5) rfl ?_); (try (rw [drewN_self w24]; generalize hq_ : World.drewN w24 _ = w24; have n0_ := Aside0.mk (blk_at hq_ ab.out); have n1_ := Aside0.mk (blk_at hq_ ac.out); have n2_ := Aside0.mk (blk_at hq_ ae.out); have n3_ := Aside0.mk (below_at hq_ HB.out); clear hq_ ab ac ae HB; have ab := n0_; have ac := n1_; have ae := n2_; have HB := n3_; clear n0_ n1_ n2_ n3_)); refine seg_event (t := 27) (p := 5) (x := ?xo_w25) (g := aP) (off := 0) (T := 27) (cur := Jt false 0 0 0 false 0 false 0 0 0 false 0 false 0 0 0 false 0 false 0 0 0 false 0 false 0 0 0 false 0 false 0 0 0 false 0 false 0 0 0 false 0 0) (vs := Vt bp bi bq br bs bt bu bj bv bw bx bz bA bk bB bC bD bE bF bl bG bH bI bJ bK bm bL bM bN bO bP bn bQ bR bS bT bU bo bV bW bX bY b0) (new := Jt bp bi bq br bs bt bu bj bv bw bx bz bA bk bB bC bD bE bF bl bG bH bI bJ bK bm bL bM bN bO bP bn bQ bR bS bT bU bo bV bW bX bY b0) ?hg ?ho ?hn ?hp ?hv ?hb ?hi ?hf ?h1 ?hw ?_; (case ho => rfl); (case hg => rfl); (case hn => rfl); (case hp => rfl); (case hv => first | rfl | (go_simp; done) | (simp [*]; done)); (case hb => exact (zbo ae)); (case hi => kernel_rfl); (case hf => exact Nat.le_of_ble_eq_true rfl); (case h1 => rfl); (case hw => rfl); intro w25 hbox hg hbl; replace ab := zbG ab hg b4; replace ac := zbG ac hg b3; replace ae := Aside0.mk hbox; replace HB := zhL hbl HB bZ; clear hbox hg hbl)))
     go_loopg [8, 9] kj2 (fun kq v8 v9 w' => ∃ (dl : Int) (aa : Int), v8 = .int .i64 dl ∧ v9 = .int .i64 aa ∧ Aside0 (perilunelaw23_JobsOne.l0 kq c6 dl aa aS aQ aU aV aW aX aT aR aY aZ ap aq ak af ar au av aw al ag ax ay az aA am ah aB aC aD aE an ai aF aG aH aI ao aj aJ aK aL aM aO ba bc bd be bf bp bi bq br bs bt bu bj bv bw bx bz bA bk bB bC bD bE bF bl bG bH bI bJ bK bm bL bM bN bO bP bn bQ bR bS bT bU bo bV bW bX bY b0 = some r) ∧ Aside0 (kq ≤ kj2) ∧ Aside0 (w'.heap[ad]? = some (.cells (Jt aS aQ aU aV aW aX aT aR aY aZ ap aq ak af ar au av aw al ag ax ay az aA am ah aB aC aD aE an ai aF aG aH aI ao aj aJ aK aL aM aO) 27 (0, 0))) ∧ Aside0 (w'.heap[aN]? = some (.cells #[.int .i64 ba, .int .i64 bc, .int .i64 bd, .int .i64 be, .int .i64 bf] 33 (0, 0))) ∧ Aside0 (w'.heap[aP]? = some (.cells (Jt bp bi bq br bs bt bu bj bv bw bx bz bA bk bB bC bD bE bF bl bG bH bI bJ bK bm bL bM bN bO bP bn bQ bR bS bT bU bo bV bW bX bY b0) 27 (0, 0))) ∧ Aside0 (Below w.heap.size w w'))
     case atStart => exact ⟨(0), (0), (by first | rfl | (simp; done) | (simp [*]; done)), (by first | rfl | (simp; done) | (simp [*]; done)), H', ⟨Nat.le_refl _⟩, ⟨by (with_reducible repeat (first | refine blk_drewN ?_ _ | refine blk_drew ?_ | refine blk_alloc ?_ _)); exact ab.out⟩, ⟨by (with_reducible repeat (first | refine blk_drewN ?_ _ | refine blk_drew ?_ | refine blk_alloc ?_ _)); exact ac.out⟩, ⟨by (with_reducible repeat (first | refine blk_drewN ?_ _ | refine blk_drew ?_ | refine blk_alloc ?_ _)); exact ae.out⟩, ⟨zho HB⟩⟩
     case round =>
      clear H'
      try clear c1 c2 p2 c4 c7 c8 c8b0 c8b1 c10 c13 c16 c20 c20b0 c20b1 c21 dY dZ d0 d1 d2 d8 d9 ea eb ec em en eo ep er d3 d4 d5 d6 d7 ed ee ef eg eh es et eu ev ew p2
      obtain ⟨dl, aa, rfl, rfl, HA, HK2, ab, ac, ae, HB⟩ := hrel
      cases gk with
      | zero => exact absurd HA.out (by simp [perilunelaw23_JobsOne.l0])
      | succ k2 =>
       have H := HA.out
       clear HA
       simp only [perilunelaw23_JobsOne.l0] at H
       by_cases c26 : aa < 7
       ·rw [if_pos c26] at H
        have c26b0 : decide (aa < 7) = true := decide_eq_true c26
        clear c26
        by_cases c27 : 0 ≤ aa
        ·rw [if_pos c27] at H
         have c27b0 : decide (0 ≤ aa) = true := decide_eq_true c27
         clear c27
         by_cases c28 : ((pk7 aS aT ak al am an ao aa) == (pk7 bp bu bA bF bK bP bU aa) && ((pk7 aQ aR af ag ah ai aj aa) == (pk7 bi bj bk bl bm bn bo aa) && ((pk7 aU aY ar ax aB aF aJ aa) == (pk7 bq bv bB bG bL bQ bV aa) && ((pk7 aV aZ au ay aC aG aK aa) == (pk7 br bw bC bH bM bR bW aa) && ((pk7 aW ap av az aD aH aL aa) == (pk7 bs bx bD bI bN bS bX aa) && ((pk7 aX aq aw aA aE aI aM aa) == (pk7 bt bz bE bJ bO bT bY aa))))))) = true
         ·rw [if_pos c28] at H
          have c28b0 : ((pk7 aS aT ak al am an ao aa) == (pk7 bp bu bA bF bK bP bU aa) && ((pk7 aQ aR af ag ah ai aj aa) == (pk7 bi bj bk bl bm bn bo aa) && ((pk7 aU aY ar ax aB aF aJ aa) == (pk7 bq bv bB bG bL bQ bV aa) && ((pk7 aV aZ au ay aC aG aK aa) == (pk7 br bw bC bH bM bR bW aa) && ((pk7 aW ap av az aD aH aL aa) == (pk7 bs bx bD bI bN bS bX aa) && ((pk7 aX aq aw aA aE aI aM aa) == (pk7 bt bz bE bJ bO bT bY aa))))))) = true := c28
          (try (have c28b1 : decide ((pk7 aS aT ak al am an ao aa) = (pk7 bp bu bA bF bK bP bU aa) && ((pk7 aQ aR af ag ah ai aj aa) == (pk7 bi bj bk bl bm bn bo aa) && ((pk7 aU aY ar ax aB aF aJ aa) == (pk7 bq bv bB bG bL bQ bV aa) && ((pk7 aV aZ au ay aC aG aK aa) == (pk7 br bw bC bH bM bR bW aa) && ((pk7 aW ap av az aD aH aL aa) == (pk7 bs bx bD bI bN bS bX aa) && ((pk7 aX aq aw aA aE aI aM aa) == (pk7 bt bz bE bJ bO bT bY aa))))))) = true := by simpa using c28))
          (try (have c28b2 : ((pk7 aS aT ak al am an ao aa) == (pk7 bp bu bA bF bK bP bU aa) && ((pk7 aQ aR af ag ah ai aj aa) == (pk7 bi bj bk bl bm bn bo aa) && ((pk7 aU aY ar ax aB aF aJ aa) == (pk7 bq bv bB bG bL bQ bV aa) && ((pk7 aV aZ au ay aC aG aK aa) == (pk7 br bw bC bH bM bR bW aa) && ((pk7 aW ap av az aD aH aL aa) == (pk7 bs bx bD bI bN bS bX aa) && ((pk7 aX aq aw aA aE aI aM aa) == (pk7 bt bz bE bJ bO bT bY aa))))))) = true := by simpa using c28))
          clear c28
          have H' := Aside0.mk H
          clear H
          have vp880 : (0 ≤ (aa : Int)) = True := eq_true (of_decide_eq_true (by first | (with_reducible assumption) | assumption))
          have vq880 : ((aa : Int) < (7 : Int)) = True := eq_true (of_decide_eq_true (by first | (with_reducible assumption) | assumption))
          have b5 : wr.cell? ⟨ad, aa.toNat * 6, none⟩ = some (.bool (pk7 aS aT ak al am an ao aa)) := cellA27_0_0 (aa) (of_decide_eq_true (by first | (with_reducible assumption) | assumption)) (of_decide_eq_true (by first | (with_reducible assumption) | assumption)) ab.out
          have b6 : wr.cell? ⟨ad, aa.toNat * 6 + 1, none⟩ = some (.int .i64 (pk7 aQ aR af ag ah ai aj aa)) := cellA27_0_1 (aa) (of_decide_eq_true (by first | (with_reducible assumption) | assumption)) (of_decide_eq_true (by first | (with_reducible assumption) | assumption)) ab.out
          have b7 : wr.cell? ⟨ad, aa.toNat * 6 + 2, none⟩ = some (.int .i64 (pk7 aU aY ar ax aB aF aJ aa)) := cellA27_0_2 (aa) (of_decide_eq_true (by first | (with_reducible assumption) | assumption)) (of_decide_eq_true (by first | (with_reducible assumption) | assumption)) ab.out
          have b8 : wr.cell? ⟨ad, aa.toNat * 6 + 3, none⟩ = some (.int .i64 (pk7 aV aZ au ay aC aG aK aa)) := cellA27_0_3 (aa) (of_decide_eq_true (by first | (with_reducible assumption) | assumption)) (of_decide_eq_true (by first | (with_reducible assumption) | assumption)) ab.out
          have b9 : wr.cell? ⟨ad, aa.toNat * 6 + 4, none⟩ = some (.bool (pk7 aW ap av az aD aH aL aa)) := cellA27_0_4 (aa) (of_decide_eq_true (by first | (with_reducible assumption) | assumption)) (of_decide_eq_true (by first | (with_reducible assumption) | assumption)) ab.out
          have ca : wr.cell? ⟨ad, aa.toNat * 6 + 5, none⟩ = some (.int .i64 (pk7 aX aq aw aA aE aI aM aa)) := cellA27_0_5 (aa) (of_decide_eq_true (by first | (with_reducible assumption) | assumption)) (of_decide_eq_true (by first | (with_reducible assumption) | assumption)) ab.out
          have vp882 : (0 ≤ (aa : Int)) = True := eq_true (of_decide_eq_true (by first | (with_reducible assumption) | assumption))
          have vq882 : ((aa : Int) < (7 : Int)) = True := eq_true (of_decide_eq_true (by first | (with_reducible assumption) | assumption))
          have cb : wr.cell? ⟨aP, aa.toNat * 6, none⟩ = some (.bool (pk7 bp bu bA bF bK bP bU aa)) := cellA27_0_0 (aa) (of_decide_eq_true (by first | (with_reducible assumption) | assumption)) (of_decide_eq_true (by first | (with_reducible assumption) | assumption)) ae.out
          have cc : wr.cell? ⟨aP, aa.toNat * 6 + 1, none⟩ = some (.int .i64 (pk7 bi bj bk bl bm bn bo aa)) := cellA27_0_1 (aa) (of_decide_eq_true (by first | (with_reducible assumption) | assumption)) (of_decide_eq_true (by first | (with_reducible assumption) | assumption)) ae.out
          have cd : wr.cell? ⟨aP, aa.toNat * 6 + 2, none⟩ = some (.int .i64 (pk7 bq bv bB bG bL bQ bV aa)) := cellA27_0_2 (aa) (of_decide_eq_true (by first | (with_reducible assumption) | assumption)) (of_decide_eq_true (by first | (with_reducible assumption) | assumption)) ae.out
          have ce : wr.cell? ⟨aP, aa.toNat * 6 + 3, none⟩ = some (.int .i64 (pk7 br bw bC bH bM bR bW aa)) := cellA27_0_3 (aa) (of_decide_eq_true (by first | (with_reducible assumption) | assumption)) (of_decide_eq_true (by first | (with_reducible assumption) | assumption)) ae.out
          have cf : wr.cell? ⟨aP, aa.toNat * 6 + 4, none⟩ = some (.bool (pk7 bs bx bD bI bN bS bX aa)) := cellA27_0_4 (aa) (of_decide_eq_true (by first | (with_reducible assumption) | assumption)) (of_decide_eq_true (by first | (with_reducible assumption) | assumption)) ae.out
          have cg : wr.cell? ⟨aP, aa.toNat * 6 + 5, none⟩ = some (.int .i64 (pk7 bt bz bE bJ bO bT bY aa)) := cellA27_0_5 (aa) (of_decide_eq_true (by first | (with_reducible assumption) | assumption)) (of_decide_eq_true (by first | (with_reducible assumption) | assumption)) ae.out
          go_wp2_with (first | ((with_reducible refine gate_dst (N := 41) rfl ?_); refine seg_load_cells (t := 24) (p := 40) (g := ad) (off := aa.toNat * 6) (vs := [.bool (pk7 aS aT ak al am an ao aa), .int .i64 (pk7 aQ aR af ag ah ai aj aa), .int .i64 (pk7 aU aY ar ax aB aF aJ aa), .int .i64 (pk7 aV aZ au ay aC aG aK aa), .bool (pk7 aW ap av az aD aH aL aa), .int .i64 (pk7 aX aq aw aA aE aI aM aa)]) ?hg ?ho ?hp ?hl Try.underlying24 ?hd ?hi ?_; (case ho => rfl); (case hg => first | rfl | (go_simp; done) | (simp [Region.wanted, yielded, *]; done)); (case hp => rfl); (case hl => exact cells6 b5 b6 b7 b8 b9 ca); (case hd => rfl); (case hi => kernel_rfl)) | ((with_reducible refine gate_dst (N := 45) rfl ?_); refine seg_load_cells (t := 24) (p := 44) (g := aP) (off := aa.toNat * 6) (vs := [.bool (pk7 bp bu bA bF bK bP bU aa), .int .i64 (pk7 bi bj bk bl bm bn bo aa), .int .i64 (pk7 bq bv bB bG bL bQ bV aa), .int .i64 (pk7 br bw bC bH bM bR bW aa), .bool (pk7 bs bx bD bI bN bS bX aa), .int .i64 (pk7 bt bz bE bJ bO bT bY aa)]) ?hg ?ho ?hp ?hl Try.underlying24 ?hd ?hi ?_; (case ho => rfl); (case hg => first | rfl | (go_simp; done) | (simp [Region.wanted, yielded, *]; done)); (case hp => rfl); (case hl => exact cells6 cb cc cd ce cf cg); (case hd => rfl); (case hi => kernel_rfl)))
          repeat (go_quiet (first | ((with_reducible refine gate_dst (N := 41) rfl ?_); refine seg_load_cells (t := 24) (p := 40) (g := ad) (off := aa.toNat * 6) (vs := [.bool (pk7 aS aT ak al am an ao aa), .int .i64 (pk7 aQ aR af ag ah ai aj aa), .int .i64 (pk7 aU aY ar ax aB aF aJ aa), .int .i64 (pk7 aV aZ au ay aC aG aK aa), .bool (pk7 aW ap av az aD aH aL aa), .int .i64 (pk7 aX aq aw aA aE aI aM aa)]) ?hg ?ho ?hp ?hl Try.underlying24 ?hd ?hi ?_; (case ho => rfl); (case hg => first | rfl | (go_simp; done) | (simp [Region.wanted, yielded, *]; done)); (case hp => rfl); (case hl => exact cells6 b5 b6 b7 b8 b9 ca); (case hd => rfl); (case hi => kernel_rfl)) | ((with_reducible refine gate_dst (N := 45) rfl ?_); refine seg_load_cells (t := 24) (p := 44) (g := aP) (off := aa.toNat * 6) (vs := [.bool (pk7 bp bu bA bF bK bP bU aa), .int .i64 (pk7 bi bj bk bl bm bn bo aa), .int .i64 (pk7 bq bv bB bG bL bQ bV aa), .int .i64 (pk7 br bw bC bH bM bR bW aa), .bool (pk7 bs bx bD bI bN bS bX aa), .int .i64 (pk7 bt bz bE bJ bO bT bY aa)]) ?hg ?ho ?hp ?hl Try.underlying24 ?hd ?hi ?_; (case ho => rfl); (case hg => first | rfl | (go_simp; done) | (simp [Region.wanted, yielded, *]; done)); (case hp => rfl); (case hl => exact cells6 cb cc cd ce cf cg); (case hd => rfl); (case hi => kernel_rfl))); try go_wp2_with (first | ((with_reducible refine gate_dst (N := 41) rfl ?_); refine seg_load_cells (t := 24) (p := 40) (g := ad) (off := aa.toNat * 6) (vs := [.bool (pk7 aS aT ak al am an ao aa), .int .i64 (pk7 aQ aR af ag ah ai aj aa), .int .i64 (pk7 aU aY ar ax aB aF aJ aa), .int .i64 (pk7 aV aZ au ay aC aG aK aa), .bool (pk7 aW ap av az aD aH aL aa), .int .i64 (pk7 aX aq aw aA aE aI aM aa)]) ?hg ?ho ?hp ?hl Try.underlying24 ?hd ?hi ?_; (case ho => rfl); (case hg => first | rfl | (go_simp; done) | (simp [Region.wanted, yielded, *]; done)); (case hp => rfl); (case hl => exact cells6 b5 b6 b7 b8 b9 ca); (case hd => rfl); (case hi => kernel_rfl)) | ((with_reducible refine gate_dst (N := 45) rfl ?_); refine seg_load_cells (t := 24) (p := 44) (g := aP) (off := aa.toNat * 6) (vs := [.bool (pk7 bp bu bA bF bK bP bU aa), .int .i64 (pk7 bi bj bk bl bm bn bo aa), .int .i64 (pk7 bq bv bB bG bL bQ bV aa), .int .i64 (pk7 br bw bC bH bM bR bW aa), .bool (pk7 bs bx bD bI bN bS bX aa), .int .i64 (pk7 bt bz bE bJ bO bT bY aa)]) ?hg ?ho ?hp ?hl Try.underlying24 ?hd ?hi ?_; (case ho => rfl); (case hg => first | rfl | (go_simp; done) | (simp [Region.wanted, yielded, *]; done)); (case hp => rfl); (case hl => exact cells6 cb cc cd ce cf cg); (case hd => rfl); (case hi => kernel_rfl))))
          go_roundg k2
          case measure => have := HJ2.out; have := HK2.out; omega
          case rel => exact ⟨(dl), (wrap64 (aa + 1)), (by first | rfl | (simp; done) | (simp [*]; done)), (by first | rfl | (simp; done) | (simp [*]; done)), H', ⟨by have := HJ2.out; have := HK2.out; omega⟩, ⟨by (with_reducible repeat (first | refine blk_drewN ?_ _ | refine blk_drew ?_ | refine blk_alloc ?_ _)); exact ab.out⟩, ⟨by (with_reducible repeat (first | refine blk_drewN ?_ _ | refine blk_drew ?_ | refine blk_alloc ?_ _)); exact ac.out⟩, ⟨by (with_reducible repeat (first | refine blk_drewN ?_ _ | refine blk_drew ?_ | refine blk_alloc ?_ _)); exact ae.out⟩, ⟨zho HB⟩⟩
         ·rw [if_neg c28] at H
          have c28b0 : ((pk7 aS aT ak al am an ao aa) == (pk7 bp bu bA bF bK bP bU aa) && ((pk7 aQ aR af ag ah ai aj aa) == (pk7 bi bj bk bl bm bn bo aa) && ((pk7 aU aY ar ax aB aF aJ aa) == (pk7 bq bv bB bG bL bQ bV aa) && ((pk7 aV aZ au ay aC aG aK aa) == (pk7 br bw bC bH bM bR bW aa) && ((pk7 aW ap av az aD aH aL aa) == (pk7 bs bx bD bI bN bS bX aa) && ((pk7 aX aq aw aA aE aI aM aa) == (pk7 bt bz bE bJ bO bT bY aa))))))) = false := by simpa using c28
          (try (have c28b1 : decide ((pk7 aS aT ak al am an ao aa) = (pk7 bp bu bA bF bK bP bU aa) && ((pk7 aQ aR af ag ah ai aj aa) == (pk7 bi bj bk bl bm bn bo aa) && ((pk7 aU aY ar ax aB aF aJ aa) == (pk7 bq bv bB bG bL bQ bV aa) && ((pk7 aV aZ au ay aC aG aK aa) == (pk7 br bw bC bH bM bR bW aa) && ((pk7 aW ap av az aD aH aL aa) == (pk7 bs bx bD bI bN bS bX aa) && ((pk7 aX aq aw aA aE aI aM aa) == (pk7 bt bz bE bJ bO bT bY aa))))))) = false := by simpa using c28))
          (try (have c28b2 : ((pk7 aS aT ak al am an ao aa) == (pk7 bp bu bA bF bK bP bU aa) && ((pk7 aQ aR af ag ah ai aj aa) == (pk7 bi bj bk bl bm bn bo aa) && ((pk7 aU aY ar ax aB aF aJ aa) == (pk7 bq bv bB bG bL bQ bV aa) && ((pk7 aV aZ au ay aC aG aK aa) == (pk7 br bw bC bH bM bR bW aa) && ((pk7 aW ap av az aD aH aL aa) == (pk7 bs bx bD bI bN bS bX aa) && ((pk7 aX aq aw aA aE aI aM aa) == (pk7 bt bz bE bJ bO bT bY aa))))))) = false := by simpa using c28))
          (try (have c28b3 : ¬ ((pk7 aS aT ak al am an ao aa) = (pk7 bp bu bA bF bK bP bU aa) && ((pk7 aQ aR af ag ah ai aj aa) == (pk7 bi bj bk bl bm bn bo aa) && ((pk7 aU aY ar ax aB aF aJ aa) == (pk7 bq bv bB bG bL bQ bV aa) && ((pk7 aV aZ au ay aC aG aK aa) == (pk7 br bw bC bH bM bR bW aa) && ((pk7 aW ap av az aD aH aL aa) == (pk7 bs bx bD bI bN bS bX aa) && ((pk7 aX aq aw aA aE aI aM aa) == (pk7 bt bz bE bJ bO bT bY aa))))))) := by simpa using c28))
          clear c28
          by_cases c29 : ba = 0
          ·rw [if_pos c29] at H
           have c29b0 : (ba == 0) = true := beq_iff_eq.mpr c29
           have c29b1 : (ba != 0) = false := bne_eq_false_iff_eq.mpr c29
           clear c29
           by_cases c30 : pk7 aS aT ak al am an ao aa = true
           ·rw [if_pos c30] at H
            have c30b0 : pk7 aS aT ak al am an ao aa = true := c30
            (try (have c28b5 := c28b0; simp only [c30b0, Bool.false_beq, Bool.true_beq] at c28b5))
            clear c30
            exact absurd (Option.some.inj H) (by rw [hT_.out]; decide)
           ·rw [if_neg c30] at H
            have c30b0 : pk7 aS aT ak al am an ao aa = false := by simpa using c30
            (try (have c28b5 := c28b0; simp only [c30b0, Bool.false_beq, Bool.true_beq] at c28b5))
            clear c30
            by_cases c31 : (pk7 bi bj bk bl bm bn bo aa) = c6
            ·rw [if_pos c31] at H
             have c31b0 : ((pk7 bi bj bk bl bm bn bo aa) == c6) = true := beq_iff_eq.mpr c31
             have c31b1 : ((pk7 bi bj bk bl bm bn bo aa) != c6) = false := bne_eq_false_iff_eq.mpr c31
             clear c31
             have H' := Aside0.mk H
             clear H
             have vp880 : (0 ≤ (aa : Int)) = True := eq_true (of_decide_eq_true (by first | (with_reducible assumption) | assumption))
             have vq880 : ((aa : Int) < (7 : Int)) = True := eq_true (of_decide_eq_true (by first | (with_reducible assumption) | assumption))
             have b5 : wr.cell? ⟨ad, aa.toNat * 6, none⟩ = some (.bool (pk7 aS aT ak al am an ao aa)) := cellA27_0_0 (aa) (of_decide_eq_true (by first | (with_reducible assumption) | assumption)) (of_decide_eq_true (by first | (with_reducible assumption) | assumption)) ab.out
             have b6 : wr.cell? ⟨ad, aa.toNat * 6 + 1, none⟩ = some (.int .i64 (pk7 aQ aR af ag ah ai aj aa)) := cellA27_0_1 (aa) (of_decide_eq_true (by first | (with_reducible assumption) | assumption)) (of_decide_eq_true (by first | (with_reducible assumption) | assumption)) ab.out
             have b7 : wr.cell? ⟨ad, aa.toNat * 6 + 2, none⟩ = some (.int .i64 (pk7 aU aY ar ax aB aF aJ aa)) := cellA27_0_2 (aa) (of_decide_eq_true (by first | (with_reducible assumption) | assumption)) (of_decide_eq_true (by first | (with_reducible assumption) | assumption)) ab.out
             have b8 : wr.cell? ⟨ad, aa.toNat * 6 + 3, none⟩ = some (.int .i64 (pk7 aV aZ au ay aC aG aK aa)) := cellA27_0_3 (aa) (of_decide_eq_true (by first | (with_reducible assumption) | assumption)) (of_decide_eq_true (by first | (with_reducible assumption) | assumption)) ab.out
             have b9 : wr.cell? ⟨ad, aa.toNat * 6 + 4, none⟩ = some (.bool (pk7 aW ap av az aD aH aL aa)) := cellA27_0_4 (aa) (of_decide_eq_true (by first | (with_reducible assumption) | assumption)) (of_decide_eq_true (by first | (with_reducible assumption) | assumption)) ab.out
             have ca : wr.cell? ⟨ad, aa.toNat * 6 + 5, none⟩ = some (.int .i64 (pk7 aX aq aw aA aE aI aM aa)) := cellA27_0_5 (aa) (of_decide_eq_true (by first | (with_reducible assumption) | assumption)) (of_decide_eq_true (by first | (with_reducible assumption) | assumption)) ab.out
             have vp882 : (0 ≤ (aa : Int)) = True := eq_true (of_decide_eq_true (by first | (with_reducible assumption) | assumption))
             have vq882 : ((aa : Int) < (7 : Int)) = True := eq_true (of_decide_eq_true (by first | (with_reducible assumption) | assumption))
             have cb : wr.cell? ⟨aP, aa.toNat * 6, none⟩ = some (.bool (pk7 bp bu bA bF bK bP bU aa)) := cellA27_0_0 (aa) (of_decide_eq_true (by first | (with_reducible assumption) | assumption)) (of_decide_eq_true (by first | (with_reducible assumption) | assumption)) ae.out
             have cc : wr.cell? ⟨aP, aa.toNat * 6 + 1, none⟩ = some (.int .i64 (pk7 bi bj bk bl bm bn bo aa)) := cellA27_0_1 (aa) (of_decide_eq_true (by first | (with_reducible assumption) | assumption)) (of_decide_eq_true (by first | (with_reducible assumption) | assumption)) ae.out
             have cd : wr.cell? ⟨aP, aa.toNat * 6 + 2, none⟩ = some (.int .i64 (pk7 bq bv bB bG bL bQ bV aa)) := cellA27_0_2 (aa) (of_decide_eq_true (by first | (with_reducible assumption) | assumption)) (of_decide_eq_true (by first | (with_reducible assumption) | assumption)) ae.out
             have ce : wr.cell? ⟨aP, aa.toNat * 6 + 3, none⟩ = some (.int .i64 (pk7 br bw bC bH bM bR bW aa)) := cellA27_0_3 (aa) (of_decide_eq_true (by first | (with_reducible assumption) | assumption)) (of_decide_eq_true (by first | (with_reducible assumption) | assumption)) ae.out
             have cf : wr.cell? ⟨aP, aa.toNat * 6 + 4, none⟩ = some (.bool (pk7 bs bx bD bI bN bS bX aa)) := cellA27_0_4 (aa) (of_decide_eq_true (by first | (with_reducible assumption) | assumption)) (of_decide_eq_true (by first | (with_reducible assumption) | assumption)) ae.out
             have cg : wr.cell? ⟨aP, aa.toNat * 6 + 5, none⟩ = some (.int .i64 (pk7 bt bz bE bJ bO bT bY aa)) := cellA27_0_5 (aa) (of_decide_eq_true (by first | (with_reducible assumption) | assumption)) (of_decide_eq_true (by first | (with_reducible assumption) | assumption)) ae.out
             have hnb32 := b2.out
             have hnc32 := b1.out
             have hnb33 := b3.out
             have hnc33 := ch.out
             have hcz34_0 : wr.cell? ⟨aN, 0, none⟩ = some (.int .i64 ba) := (blk_cell ac.out 0).trans rfl
             have hcz34_1 : wr.cell? ⟨aN, 1, none⟩ = some (.int .i64 bc) := (blk_cell ac.out 1).trans rfl
             have hcz34_2 : wr.cell? ⟨aN, 2, none⟩ = some (.int .i64 bd) := (blk_cell ac.out 2).trans rfl
             have hcz34_3 : wr.cell? ⟨aN, 3, none⟩ = some (.int .i64 be) := (blk_cell ac.out 3).trans rfl
             have hcz34_4 : wr.cell? ⟨aN, 4, none⟩ = some (.int .i64 bf) := (blk_cell ac.out 4).trans rfl
             have hfz34_0 := blk_frozen ac.out 0
             have hfz34_1 := blk_frozen ac.out 1
             have hfz34_2 := blk_frozen ac.out 2
             have hfz34_3 := blk_frozen ac.out 3
             have hfz34_4 := blk_frozen ac.out 4
             have vp884 : (0 ≤ (aa : Int)) = True := eq_true (of_decide_eq_true (by first | (with_reducible assumption) | assumption))
             have vq884 : ((aa : Int) < (7 : Int)) = True := eq_true (of_decide_eq_true (by first | (with_reducible assumption) | assumption))
             have hv885_0 : wr.cell? ⟨ad, aa.toNat * 6, none⟩ = some (.bool (pk7 aS aT ak al am an ao aa)) := cellA27_0_0 (aa) (of_decide_eq_true (by first | (with_reducible assumption) | assumption)) (of_decide_eq_true (by first | (with_reducible assumption) | assumption)) ab.out
             have vp886 : (0 ≤ (aa : Int)) = True := eq_true (of_decide_eq_true (by first | (with_reducible assumption) | assumption))
             have vq886 : ((aa : Int) < (7 : Int)) = True := eq_true (of_decide_eq_true (by first | (with_reducible assumption) | assumption))
             have hv887_0 : wr.cell? ⟨aP, aa.toNat * 6 + 1, none⟩ = some (.int .i64 (pk7 bi bj bk bl bm bn bo aa)) := cellA27_0_1 (aa) (of_decide_eq_true (by first | (with_reducible assumption) | assumption)) (of_decide_eq_true (by first | (with_reducible assumption) | assumption)) ae.out
             go_wp2_with (first | ((with_reducible refine gate_dst (N := 41) rfl ?_); refine seg_load_cells (t := 24) (p := 40) (g := ad) (off := aa.toNat * 6) (vs := [.bool (pk7 aS aT ak al am an ao aa), .int .i64 (pk7 aQ aR af ag ah ai aj aa), .int .i64 (pk7 aU aY ar ax aB aF aJ aa), .int .i64 (pk7 aV aZ au ay aC aG aK aa), .bool (pk7 aW ap av az aD aH aL aa), .int .i64 (pk7 aX aq aw aA aE aI aM aa)]) ?hg ?ho ?hp ?hl Try.underlying24 ?hd ?hi ?_; (case ho => rfl); (case hg => first | rfl | (go_simp; done) | (simp [Region.wanted, yielded, *]; done)); (case hp => rfl); (case hl => exact cells6 b5 b6 b7 b8 b9 ca); (case hd => rfl); (case hi => kernel_rfl)) | ((with_reducible refine gate_dst (N := 45) rfl ?_); refine seg_load_cells (t := 24) (p := 44) (g := aP) (off := aa.toNat * 6) (vs := [.bool (pk7 bp bu bA bF bK bP bU aa), .int .i64 (pk7 bi bj bk bl bm bn bo aa), .int .i64 (pk7 bq bv bB bG bL bQ bV aa), .int .i64 (pk7 br bw bC bH bM bR bW aa), .bool (pk7 bs bx bD bI bN bS bX aa), .int .i64 (pk7 bt bz bE bJ bO bT bY aa)]) ?hg ?ho ?hp ?hl Try.underlying24 ?hd ?hi ?_; (case ho => rfl); (case hg => first | rfl | (go_simp; done) | (simp [Region.wanted, yielded, *]; done)); (case hp => rfl); (case hl => exact cells6 cb cc cd ce cf cg); (case hd => rfl); (case hi => kernel_rfl)))
             repeat (go_quiet (first | ((with_reducible refine gate_dst (N := 41) rfl ?_); refine seg_load_cells (t := 24) (p := 40) (g := ad) (off := aa.toNat * 6) (vs := [.bool (pk7 aS aT ak al am an ao aa), .int .i64 (pk7 aQ aR af ag ah ai aj aa), .int .i64 (pk7 aU aY ar ax aB aF aJ aa), .int .i64 (pk7 aV aZ au ay aC aG aK aa), .bool (pk7 aW ap av az aD aH aL aa), .int .i64 (pk7 aX aq aw aA aE aI aM aa)]) ?hg ?ho ?hp ?hl Try.underlying24 ?hd ?hi ?_; (case ho => rfl); (case hg => first | rfl | (go_simp; done) | (simp [Region.wanted, yielded, *]; done)); (case hp => rfl); (case hl => exact cells6 b5 b6 b7 b8 b9 ca); (case hd => rfl); (case hi => kernel_rfl)) | ((with_reducible refine gate_dst (N := 45) rfl ?_); refine seg_load_cells (t := 24) (p := 44) (g := aP) (off := aa.toNat * 6) (vs := [.bool (pk7 bp bu bA bF bK bP bU aa), .int .i64 (pk7 bi bj bk bl bm bn bo aa), .int .i64 (pk7 bq bv bB bG bL bQ bV aa), .int .i64 (pk7 br bw bC bH bM bR bW aa), .bool (pk7 bs bx bD bI bN bS bX aa), .int .i64 (pk7 bt bz bE bJ bO bT bY aa)]) ?hg ?ho ?hp ?hl Try.underlying24 ?hd ?hi ?_; (case ho => rfl); (case hg => first | rfl | (go_simp; done) | (simp [Region.wanted, yielded, *]; done)); (case hp => rfl); (case hl => exact cells6 cb cc cd ce cf cg); (case hd => rfl); (case hi => kernel_rfl))); try go_wp2_with (first | ((with_reducible refine gate_dst (N := 41) rfl ?_); refine seg_load_cells (t := 24) (p := 40) (g := ad) (off := aa.toNat * 6) (vs := [.bool (pk7 aS aT ak al am an ao aa), .int .i64 (pk7 aQ aR af ag ah ai aj aa), .int .i64 (pk7 aU aY ar ax aB aF aJ aa), .int .i64 (pk7 aV aZ au ay aC aG aK aa), .bool (pk7 aW ap av az aD aH aL aa), .int .i64 (pk7 aX aq aw aA aE aI aM aa)]) ?hg ?ho ?hp ?hl Try.underlying24 ?hd ?hi ?_; (case ho => rfl); (case hg => first | rfl | (go_simp; done) | (simp [Region.wanted, yielded, *]; done)); (case hp => rfl); (case hl => exact cells6 b5 b6 b7 b8 b9 ca); (case hd => rfl); (case hi => kernel_rfl)) | ((with_reducible refine gate_dst (N := 45) rfl ?_); refine seg_load_cells (t := 24) (p := 44) (g := aP) (off := aa.toNat * 6) (vs := [.bool (pk7 bp bu bA bF bK bP bU aa), .int .i64 (pk7 bi bj bk bl bm bn bo aa), .int .i64 (pk7 bq bv bB bG bL bQ bV aa), .int .i64 (pk7 br bw bC bH bM bR bW aa), .bool (pk7 bs bx bD bI bN bS bX aa), .int .i64 (pk7 bt bz bE bJ bO bT bY aa)]) ?hg ?ho ?hp ?hl Try.underlying24 ?hd ?hi ?_; (case ho => rfl); (case hg => first | rfl | (go_simp; done) | (simp [Region.wanted, yielded, *]; done)); (case hp => rfl); (case hl => exact cells6 cb cc cd ce cf cg); (case hd => rfl); (case hi => kernel_rfl))))
             go_roundg k2
             case measure => have := HJ2.out; have := HK2.out; omega
             case rel => exact ⟨(wrap64 (dl + 1)), (wrap64 (aa + 1)), (by first | rfl | (simp; done) | (simp [*]; done)), (by first | rfl | (simp; done) | (simp [*]; done)), H', ⟨by have := HJ2.out; have := HK2.out; omega⟩, ⟨by (with_reducible repeat (first | refine blk_drewN ?_ _ | refine blk_drew ?_ | refine blk_alloc ?_ _)); exact ab.out⟩, ⟨by (with_reducible repeat (first | refine blk_drewN ?_ _ | refine blk_drew ?_ | refine blk_alloc ?_ _)); exact ac.out⟩, ⟨by (with_reducible repeat (first | refine blk_drewN ?_ _ | refine blk_drew ?_ | refine blk_alloc ?_ _)); exact ae.out⟩, ⟨zho HB⟩⟩
            ·rw [if_neg c31] at H
             have c31b0 : ((pk7 bi bj bk bl bm bn bo aa) == c6) = false := beq_eq_false_iff_ne.mpr c31
             have c31b1 : ((pk7 bi bj bk bl bm bn bo aa) != c6) = true := bne_iff_ne.mpr c31
             exact absurd (Option.some.inj H) (by rw [hT_.out]; decide)
          ·rw [if_neg c29] at H
           have c29b0 : (ba == 0) = false := beq_eq_false_iff_ne.mpr c29
           have c29b1 : (ba != 0) = true := bne_iff_ne.mpr c29
           by_cases c35 : (pk7 aQ aR af ag ah ai aj aa) = bc
           ·rw [if_pos c35] at H
            have c35b0 : ((pk7 aQ aR af ag ah ai aj aa) == bc) = true := beq_iff_eq.mpr c35
            have c35b1 : ((pk7 aQ aR af ag ah ai aj aa) != bc) = false := bne_eq_false_iff_eq.mpr c35
            clear c35
            have H' := Aside0.mk H
            clear H
            have vp880 : (0 ≤ (aa : Int)) = True := eq_true (of_decide_eq_true (by first | (with_reducible assumption) | assumption))
            have vq880 : ((aa : Int) < (7 : Int)) = True := eq_true (of_decide_eq_true (by first | (with_reducible assumption) | assumption))
            have b5 : wr.cell? ⟨ad, aa.toNat * 6, none⟩ = some (.bool (pk7 aS aT ak al am an ao aa)) := cellA27_0_0 (aa) (of_decide_eq_true (by first | (with_reducible assumption) | assumption)) (of_decide_eq_true (by first | (with_reducible assumption) | assumption)) ab.out
            have b6 : wr.cell? ⟨ad, aa.toNat * 6 + 1, none⟩ = some (.int .i64 (pk7 aQ aR af ag ah ai aj aa)) := cellA27_0_1 (aa) (of_decide_eq_true (by first | (with_reducible assumption) | assumption)) (of_decide_eq_true (by first | (with_reducible assumption) | assumption)) ab.out
            have b7 : wr.cell? ⟨ad, aa.toNat * 6 + 2, none⟩ = some (.int .i64 (pk7 aU aY ar ax aB aF aJ aa)) := cellA27_0_2 (aa) (of_decide_eq_true (by first | (with_reducible assumption) | assumption)) (of_decide_eq_true (by first | (with_reducible assumption) | assumption)) ab.out
            have b8 : wr.cell? ⟨ad, aa.toNat * 6 + 3, none⟩ = some (.int .i64 (pk7 aV aZ au ay aC aG aK aa)) := cellA27_0_3 (aa) (of_decide_eq_true (by first | (with_reducible assumption) | assumption)) (of_decide_eq_true (by first | (with_reducible assumption) | assumption)) ab.out
            have b9 : wr.cell? ⟨ad, aa.toNat * 6 + 4, none⟩ = some (.bool (pk7 aW ap av az aD aH aL aa)) := cellA27_0_4 (aa) (of_decide_eq_true (by first | (with_reducible assumption) | assumption)) (of_decide_eq_true (by first | (with_reducible assumption) | assumption)) ab.out
            have ca : wr.cell? ⟨ad, aa.toNat * 6 + 5, none⟩ = some (.int .i64 (pk7 aX aq aw aA aE aI aM aa)) := cellA27_0_5 (aa) (of_decide_eq_true (by first | (with_reducible assumption) | assumption)) (of_decide_eq_true (by first | (with_reducible assumption) | assumption)) ab.out
            have vp882 : (0 ≤ (aa : Int)) = True := eq_true (of_decide_eq_true (by first | (with_reducible assumption) | assumption))
            have vq882 : ((aa : Int) < (7 : Int)) = True := eq_true (of_decide_eq_true (by first | (with_reducible assumption) | assumption))
            have cb : wr.cell? ⟨aP, aa.toNat * 6, none⟩ = some (.bool (pk7 bp bu bA bF bK bP bU aa)) := cellA27_0_0 (aa) (of_decide_eq_true (by first | (with_reducible assumption) | assumption)) (of_decide_eq_true (by first | (with_reducible assumption) | assumption)) ae.out
            have cc : wr.cell? ⟨aP, aa.toNat * 6 + 1, none⟩ = some (.int .i64 (pk7 bi bj bk bl bm bn bo aa)) := cellA27_0_1 (aa) (of_decide_eq_true (by first | (with_reducible assumption) | assumption)) (of_decide_eq_true (by first | (with_reducible assumption) | assumption)) ae.out
            have cd : wr.cell? ⟨aP, aa.toNat * 6 + 2, none⟩ = some (.int .i64 (pk7 bq bv bB bG bL bQ bV aa)) := cellA27_0_2 (aa) (of_decide_eq_true (by first | (with_reducible assumption) | assumption)) (of_decide_eq_true (by first | (with_reducible assumption) | assumption)) ae.out
            have ce : wr.cell? ⟨aP, aa.toNat * 6 + 3, none⟩ = some (.int .i64 (pk7 br bw bC bH bM bR bW aa)) := cellA27_0_3 (aa) (of_decide_eq_true (by first | (with_reducible assumption) | assumption)) (of_decide_eq_true (by first | (with_reducible assumption) | assumption)) ae.out
            have cf : wr.cell? ⟨aP, aa.toNat * 6 + 4, none⟩ = some (.bool (pk7 bs bx bD bI bN bS bX aa)) := cellA27_0_4 (aa) (of_decide_eq_true (by first | (with_reducible assumption) | assumption)) (of_decide_eq_true (by first | (with_reducible assumption) | assumption)) ae.out
            have cg : wr.cell? ⟨aP, aa.toNat * 6 + 5, none⟩ = some (.int .i64 (pk7 bt bz bE bJ bO bT bY aa)) := cellA27_0_5 (aa) (of_decide_eq_true (by first | (with_reducible assumption) | assumption)) (of_decide_eq_true (by first | (with_reducible assumption) | assumption)) ae.out
            have hnb36 := b2.out
            have hnc36 := b1.out
            have hnb37 := b3.out
            have hnc37 := ch.out
            have hcz38_0 : wr.cell? ⟨aN, 0, none⟩ = some (.int .i64 ba) := (blk_cell ac.out 0).trans rfl
            have hcz38_1 : wr.cell? ⟨aN, 1, none⟩ = some (.int .i64 bc) := (blk_cell ac.out 1).trans rfl
            have hcz38_2 : wr.cell? ⟨aN, 2, none⟩ = some (.int .i64 bd) := (blk_cell ac.out 2).trans rfl
            have hcz38_3 : wr.cell? ⟨aN, 3, none⟩ = some (.int .i64 be) := (blk_cell ac.out 3).trans rfl
            have hcz38_4 : wr.cell? ⟨aN, 4, none⟩ = some (.int .i64 bf) := (blk_cell ac.out 4).trans rfl
            have hfz38_0 := blk_frozen ac.out 0
            have hfz38_1 := blk_frozen ac.out 1
            have hfz38_2 := blk_frozen ac.out 2
            have hfz38_3 := blk_frozen ac.out 3
            have hfz38_4 := blk_frozen ac.out 4
            have vp888 : (0 ≤ (aa : Int)) = True := eq_true (of_decide_eq_true (by first | (with_reducible assumption) | assumption))
            have vq888 : ((aa : Int) < (7 : Int)) = True := eq_true (of_decide_eq_true (by first | (with_reducible assumption) | assumption))
            have hv889_0 : wr.cell? ⟨ad, aa.toNat * 6 + 1, none⟩ = some (.int .i64 (pk7 aQ aR af ag ah ai aj aa)) := cellA27_0_1 (aa) (of_decide_eq_true (by first | (with_reducible assumption) | assumption)) (of_decide_eq_true (by first | (with_reducible assumption) | assumption)) ab.out
            go_wp2_with (first | ((with_reducible refine gate_dst (N := 41) rfl ?_); refine seg_load_cells (t := 24) (p := 40) (g := ad) (off := aa.toNat * 6) (vs := [.bool (pk7 aS aT ak al am an ao aa), .int .i64 (pk7 aQ aR af ag ah ai aj aa), .int .i64 (pk7 aU aY ar ax aB aF aJ aa), .int .i64 (pk7 aV aZ au ay aC aG aK aa), .bool (pk7 aW ap av az aD aH aL aa), .int .i64 (pk7 aX aq aw aA aE aI aM aa)]) ?hg ?ho ?hp ?hl Try.underlying24 ?hd ?hi ?_; (case ho => rfl); (case hg => first | rfl | (go_simp; done) | (simp [Region.wanted, yielded, *]; done)); (case hp => rfl); (case hl => exact cells6 b5 b6 b7 b8 b9 ca); (case hd => rfl); (case hi => kernel_rfl)) | ((with_reducible refine gate_dst (N := 45) rfl ?_); refine seg_load_cells (t := 24) (p := 44) (g := aP) (off := aa.toNat * 6) (vs := [.bool (pk7 bp bu bA bF bK bP bU aa), .int .i64 (pk7 bi bj bk bl bm bn bo aa), .int .i64 (pk7 bq bv bB bG bL bQ bV aa), .int .i64 (pk7 br bw bC bH bM bR bW aa), .bool (pk7 bs bx bD bI bN bS bX aa), .int .i64 (pk7 bt bz bE bJ bO bT bY aa)]) ?hg ?ho ?hp ?hl Try.underlying24 ?hd ?hi ?_; (case ho => rfl); (case hg => first | rfl | (go_simp; done) | (simp [Region.wanted, yielded, *]; done)); (case hp => rfl); (case hl => exact cells6 cb cc cd ce cf cg); (case hd => rfl); (case hi => kernel_rfl)))
            repeat (go_quiet (first | ((with_reducible refine gate_dst (N := 41) rfl ?_); refine seg_load_cells (t := 24) (p := 40) (g := ad) (off := aa.toNat * 6) (vs := [.bool (pk7 aS aT ak al am an ao aa), .int .i64 (pk7 aQ aR af ag ah ai aj aa), .int .i64 (pk7 aU aY ar ax aB aF aJ aa), .int .i64 (pk7 aV aZ au ay aC aG aK aa), .bool (pk7 aW ap av az aD aH aL aa), .int .i64 (pk7 aX aq aw aA aE aI aM aa)]) ?hg ?ho ?hp ?hl Try.underlying24 ?hd ?hi ?_; (case ho => rfl); (case hg => first | rfl | (go_simp; done) | (simp [Region.wanted, yielded, *]; done)); (case hp => rfl); (case hl => exact cells6 b5 b6 b7 b8 b9 ca); (case hd => rfl); (case hi => kernel_rfl)) | ((with_reducible refine gate_dst (N := 45) rfl ?_); refine seg_load_cells (t := 24) (p := 44) (g := aP) (off := aa.toNat * 6) (vs := [.bool (pk7 bp bu bA bF bK bP bU aa), .int .i64 (pk7 bi bj bk bl bm bn bo aa), .int .i64 (pk7 bq bv bB bG bL bQ bV aa), .int .i64 (pk7 br bw bC bH bM bR bW aa), .bool (pk7 bs bx bD bI bN bS bX aa), .int .i64 (pk7 bt bz bE bJ bO bT bY aa)]) ?hg ?ho ?hp ?hl Try.underlying24 ?hd ?hi ?_; (case ho => rfl); (case hg => first | rfl | (go_simp; done) | (simp [Region.wanted, yielded, *]; done)); (case hp => rfl); (case hl => exact cells6 cb cc cd ce cf cg); (case hd => rfl); (case hi => kernel_rfl))); try go_wp2_with (first | ((with_reducible refine gate_dst (N := 41) rfl ?_); refine seg_load_cells (t := 24) (p := 40) (g := ad) (off := aa.toNat * 6) (vs := [.bool (pk7 aS aT ak al am an ao aa), .int .i64 (pk7 aQ aR af ag ah ai aj aa), .int .i64 (pk7 aU aY ar ax aB aF aJ aa), .int .i64 (pk7 aV aZ au ay aC aG aK aa), .bool (pk7 aW ap av az aD aH aL aa), .int .i64 (pk7 aX aq aw aA aE aI aM aa)]) ?hg ?ho ?hp ?hl Try.underlying24 ?hd ?hi ?_; (case ho => rfl); (case hg => first | rfl | (go_simp; done) | (simp [Region.wanted, yielded, *]; done)); (case hp => rfl); (case hl => exact cells6 b5 b6 b7 b8 b9 ca); (case hd => rfl); (case hi => kernel_rfl)) | ((with_reducible refine gate_dst (N := 45) rfl ?_); refine seg_load_cells (t := 24) (p := 44) (g := aP) (off := aa.toNat * 6) (vs := [.bool (pk7 bp bu bA bF bK bP bU aa), .int .i64 (pk7 bi bj bk bl bm bn bo aa), .int .i64 (pk7 bq bv bB bG bL bQ bV aa), .int .i64 (pk7 br bw bC bH bM bR bW aa), .bool (pk7 bs bx bD bI bN bS bX aa), .int .i64 (pk7 bt bz bE bJ bO bT bY aa)]) ?hg ?ho ?hp ?hl Try.underlying24 ?hd ?hi ?_; (case ho => rfl); (case hg => first | rfl | (go_simp; done) | (simp [Region.wanted, yielded, *]; done)); (case hp => rfl); (case hl => exact cells6 cb cc cd ce cf cg); (case hd => rfl); (case hi => kernel_rfl))))
            go_roundg k2
            case measure => have := HJ2.out; have := HK2.out; omega
            case rel => exact ⟨(wrap64 (dl + 1)), (wrap64 (aa + 1)), (by first | rfl | (simp; done) | (simp [*]; done)), (by first | rfl | (simp; done) | (simp [*]; done)), H', ⟨by have := HJ2.out; have := HK2.out; omega⟩, ⟨by (with_reducible repeat (first | refine blk_drewN ?_ _ | refine blk_drew ?_ | refine blk_alloc ?_ _)); exact ab.out⟩, ⟨by (with_reducible repeat (first | refine blk_drewN ?_ _ | refine blk_drew ?_ | refine blk_alloc ?_ _)); exact ac.out⟩, ⟨by (with_reducible repeat (first | refine blk_drewN ?_ _ | refine blk_drew ?_ | refine blk_alloc ?_ _)); exact ae.out⟩, ⟨zho HB⟩⟩
           ·rw [if_neg c35] at H
            have c35b0 : ((pk7 aQ aR af ag ah ai aj aa) == bc) = false := beq_eq_false_iff_ne.mpr c35
            have c35b1 : ((pk7 aQ aR af ag ah ai aj aa) != bc) = true := bne_iff_ne.mpr c35
            exact absurd (Option.some.inj H) (by rw [hT_.out]; decide)
        ·rw [if_neg c27] at H
         exact absurd H (by simp)
       ·rw [if_neg c26] at H
        have c26b0 : decide (aa < 7) = false := decide_eq_false c26
        clear c26
        by_cases c39 : dl ≤ 1
        ·rw [if_pos c39] at H
         have c39b0 : decide (dl ≤ 1) = true := decide_eq_true c39
         clear c39
         by_cases c40 : ((ba == 0) == (b0 != aO)) = true
         ·rw [if_pos c40] at H
          have c40b0 : ((ba == 0) == (b0 != aO)) = true := c40
          (try (have c40b1 : decide ((ba == 0) = (b0 != aO)) = true := by simpa using c40))
          (try (have c40b2 : ((ba == 0) == (b0 != aO)) = true := by simpa using c40))
          clear c40
          replace H := Option.bind_eq_some_iff.mp H
          obtain ⟨ej, A410, H⟩ := H
          try dsimp only at H
          have A41 := Aside0.mk A410
          clear A410
          obtain rfl := Option.some.inj H
          have hnb42 := b2.out
          have hnc42 := b1.out
          have hnb43 := b3.out
          have hnc43 := ch.out
          have hcz44_0 : wr.cell? ⟨aN, 0, none⟩ = some (.int .i64 ba) := (blk_cell ac.out 0).trans rfl
          have hcz44_1 : wr.cell? ⟨aN, 1, none⟩ = some (.int .i64 bc) := (blk_cell ac.out 1).trans rfl
          have hcz44_2 : wr.cell? ⟨aN, 2, none⟩ = some (.int .i64 bd) := (blk_cell ac.out 2).trans rfl
          have hcz44_3 : wr.cell? ⟨aN, 3, none⟩ = some (.int .i64 be) := (blk_cell ac.out 3).trans rfl
          have hcz44_4 : wr.cell? ⟨aN, 4, none⟩ = some (.int .i64 bf) := (blk_cell ac.out 4).trans rfl
          have hfz44_0 := blk_frozen ac.out 0
          have hfz44_1 := blk_frozen ac.out 1
          have hfz44_2 := blk_frozen ac.out 2
          have hfz44_3 := blk_frozen ac.out 3
          have hfz44_4 := blk_frozen ac.out 4
          have hnb45 := cy.out
          have hnc45 := b4.out
          have hcz46_0 : wr.cell? ⟨aP, 0, none⟩ = some (.bool bp) := (blk_cell ae.out 0).trans rfl
          have hcz46_1 : wr.cell? ⟨aP, 1, none⟩ = some (.int .i64 bi) := (blk_cell ae.out 1).trans rfl
          have hcz46_2 : wr.cell? ⟨aP, 2, none⟩ = some (.int .i64 bq) := (blk_cell ae.out 2).trans rfl
          have hcz46_3 : wr.cell? ⟨aP, 3, none⟩ = some (.int .i64 br) := (blk_cell ae.out 3).trans rfl
          have hcz46_4 : wr.cell? ⟨aP, 4, none⟩ = some (.bool bs) := (blk_cell ae.out 4).trans rfl
          have hcz46_5 : wr.cell? ⟨aP, 5, none⟩ = some (.int .i64 bt) := (blk_cell ae.out 5).trans rfl
          have hcz46_6 : wr.cell? ⟨aP, 6, none⟩ = some (.bool bu) := (blk_cell ae.out 6).trans rfl
          have hcz46_7 : wr.cell? ⟨aP, 7, none⟩ = some (.int .i64 bj) := (blk_cell ae.out 7).trans rfl
          have hcz46_8 : wr.cell? ⟨aP, 8, none⟩ = some (.int .i64 bv) := (blk_cell ae.out 8).trans rfl
          have hcz46_9 : wr.cell? ⟨aP, 9, none⟩ = some (.int .i64 bw) := (blk_cell ae.out 9).trans rfl
          have hcz46_10 : wr.cell? ⟨aP, 10, none⟩ = some (.bool bx) := (blk_cell ae.out 10).trans rfl
          have hcz46_11 : wr.cell? ⟨aP, 11, none⟩ = some (.int .i64 bz) := (blk_cell ae.out 11).trans rfl
          have hcz46_12 : wr.cell? ⟨aP, 12, none⟩ = some (.bool bA) := (blk_cell ae.out 12).trans rfl
          have hcz46_13 : wr.cell? ⟨aP, 13, none⟩ = some (.int .i64 bk) := (blk_cell ae.out 13).trans rfl
          have hcz46_14 : wr.cell? ⟨aP, 14, none⟩ = some (.int .i64 bB) := (blk_cell ae.out 14).trans rfl
          have hcz46_15 : wr.cell? ⟨aP, 15, none⟩ = some (.int .i64 bC) := (blk_cell ae.out 15).trans rfl
          have hcz46_16 : wr.cell? ⟨aP, 16, none⟩ = some (.bool bD) := (blk_cell ae.out 16).trans rfl
          have hcz46_17 : wr.cell? ⟨aP, 17, none⟩ = some (.int .i64 bE) := (blk_cell ae.out 17).trans rfl
          have hcz46_18 : wr.cell? ⟨aP, 18, none⟩ = some (.bool bF) := (blk_cell ae.out 18).trans rfl
          have hcz46_19 : wr.cell? ⟨aP, 19, none⟩ = some (.int .i64 bl) := (blk_cell ae.out 19).trans rfl
          have hcz46_20 : wr.cell? ⟨aP, 20, none⟩ = some (.int .i64 bG) := (blk_cell ae.out 20).trans rfl
          have hcz46_21 : wr.cell? ⟨aP, 21, none⟩ = some (.int .i64 bH) := (blk_cell ae.out 21).trans rfl
          have hcz46_22 : wr.cell? ⟨aP, 22, none⟩ = some (.bool bI) := (blk_cell ae.out 22).trans rfl
          have hcz46_23 : wr.cell? ⟨aP, 23, none⟩ = some (.int .i64 bJ) := (blk_cell ae.out 23).trans rfl
          have hcz46_24 : wr.cell? ⟨aP, 24, none⟩ = some (.bool bK) := (blk_cell ae.out 24).trans rfl
          have hcz46_25 : wr.cell? ⟨aP, 25, none⟩ = some (.int .i64 bm) := (blk_cell ae.out 25).trans rfl
          have hcz46_26 : wr.cell? ⟨aP, 26, none⟩ = some (.int .i64 bL) := (blk_cell ae.out 26).trans rfl
          have hcz46_27 : wr.cell? ⟨aP, 27, none⟩ = some (.int .i64 bM) := (blk_cell ae.out 27).trans rfl
          have hcz46_28 : wr.cell? ⟨aP, 28, none⟩ = some (.bool bN) := (blk_cell ae.out 28).trans rfl
          have hcz46_29 : wr.cell? ⟨aP, 29, none⟩ = some (.int .i64 bO) := (blk_cell ae.out 29).trans rfl
          have hcz46_30 : wr.cell? ⟨aP, 30, none⟩ = some (.bool bP) := (blk_cell ae.out 30).trans rfl
          have hcz46_31 : wr.cell? ⟨aP, 31, none⟩ = some (.int .i64 bn) := (blk_cell ae.out 31).trans rfl
          have hcz46_32 : wr.cell? ⟨aP, 32, none⟩ = some (.int .i64 bQ) := (blk_cell ae.out 32).trans rfl
          have hcz46_33 : wr.cell? ⟨aP, 33, none⟩ = some (.int .i64 bR) := (blk_cell ae.out 33).trans rfl
          have hcz46_34 : wr.cell? ⟨aP, 34, none⟩ = some (.bool bS) := (blk_cell ae.out 34).trans rfl
          have hcz46_35 : wr.cell? ⟨aP, 35, none⟩ = some (.int .i64 bT) := (blk_cell ae.out 35).trans rfl
          have hcz46_36 : wr.cell? ⟨aP, 36, none⟩ = some (.bool bU) := (blk_cell ae.out 36).trans rfl
          have hcz46_37 : wr.cell? ⟨aP, 37, none⟩ = some (.int .i64 bo) := (blk_cell ae.out 37).trans rfl
          have hcz46_38 : wr.cell? ⟨aP, 38, none⟩ = some (.int .i64 bV) := (blk_cell ae.out 38).trans rfl
          have hcz46_39 : wr.cell? ⟨aP, 39, none⟩ = some (.int .i64 bW) := (blk_cell ae.out 39).trans rfl
          have hcz46_40 : wr.cell? ⟨aP, 40, none⟩ = some (.bool bX) := (blk_cell ae.out 40).trans rfl
          have hcz46_41 : wr.cell? ⟨aP, 41, none⟩ = some (.int .i64 bY) := (blk_cell ae.out 41).trans rfl
          have hcz46_42 : wr.cell? ⟨aP, 42, none⟩ = some (.int .i64 b0) := (blk_cell ae.out 42).trans rfl
          have hfz46_0 := blk_frozen ae.out 0
          have hfz46_1 := blk_frozen ae.out 1
          have hfz46_2 := blk_frozen ae.out 2
          have hfz46_3 := blk_frozen ae.out 3
          have hfz46_4 := blk_frozen ae.out 4
          have hfz46_5 := blk_frozen ae.out 5
          have hfz46_6 := blk_frozen ae.out 6
          have hfz46_7 := blk_frozen ae.out 7
          have hfz46_8 := blk_frozen ae.out 8
          have hfz46_9 := blk_frozen ae.out 9
          have hfz46_10 := blk_frozen ae.out 10
          have hfz46_11 := blk_frozen ae.out 11
          have hfz46_12 := blk_frozen ae.out 12
          have hfz46_13 := blk_frozen ae.out 13
          have hfz46_14 := blk_frozen ae.out 14
          have hfz46_15 := blk_frozen ae.out 15
          have hfz46_16 := blk_frozen ae.out 16
          have hfz46_17 := blk_frozen ae.out 17
          have hfz46_18 := blk_frozen ae.out 18
          have hfz46_19 := blk_frozen ae.out 19
          have hfz46_20 := blk_frozen ae.out 20
          have hfz46_21 := blk_frozen ae.out 21
          have hfz46_22 := blk_frozen ae.out 22
          have hfz46_23 := blk_frozen ae.out 23
          have hfz46_24 := blk_frozen ae.out 24
          have hfz46_25 := blk_frozen ae.out 25
          have hfz46_26 := blk_frozen ae.out 26
          have hfz46_27 := blk_frozen ae.out 27
          have hfz46_28 := blk_frozen ae.out 28
          have hfz46_29 := blk_frozen ae.out 29
          have hfz46_30 := blk_frozen ae.out 30
          have hfz46_31 := blk_frozen ae.out 31
          have hfz46_32 := blk_frozen ae.out 32
          have hfz46_33 := blk_frozen ae.out 33
          have hfz46_34 := blk_frozen ae.out 34
          have hfz46_35 := blk_frozen ae.out 35
          have hfz46_36 := blk_frozen ae.out 36
          have hfz46_37 := blk_frozen ae.out 37
          have hfz46_38 := blk_frozen ae.out 38
          have hfz46_39 := blk_frozen ae.out 39
          have hfz46_40 := blk_frozen ae.out 40
          have hfz46_41 := blk_frozen ae.out 41
          have hfz46_42 := blk_frozen ae.out 42
          have hcz47_0 : wr.cell? ⟨ad, 0, none⟩ = some (.bool aS) := (blk_cell ab.out 0).trans rfl
          have hcz47_1 : wr.cell? ⟨ad, 1, none⟩ = some (.int .i64 aQ) := (blk_cell ab.out 1).trans rfl
          have hcz47_2 : wr.cell? ⟨ad, 2, none⟩ = some (.int .i64 aU) := (blk_cell ab.out 2).trans rfl
          have hcz47_3 : wr.cell? ⟨ad, 3, none⟩ = some (.int .i64 aV) := (blk_cell ab.out 3).trans rfl
          have hcz47_4 : wr.cell? ⟨ad, 4, none⟩ = some (.bool aW) := (blk_cell ab.out 4).trans rfl
          have hcz47_5 : wr.cell? ⟨ad, 5, none⟩ = some (.int .i64 aX) := (blk_cell ab.out 5).trans rfl
          have hcz47_6 : wr.cell? ⟨ad, 6, none⟩ = some (.bool aT) := (blk_cell ab.out 6).trans rfl
          have hcz47_7 : wr.cell? ⟨ad, 7, none⟩ = some (.int .i64 aR) := (blk_cell ab.out 7).trans rfl
          have hcz47_8 : wr.cell? ⟨ad, 8, none⟩ = some (.int .i64 aY) := (blk_cell ab.out 8).trans rfl
          have hcz47_9 : wr.cell? ⟨ad, 9, none⟩ = some (.int .i64 aZ) := (blk_cell ab.out 9).trans rfl
          have hcz47_10 : wr.cell? ⟨ad, 10, none⟩ = some (.bool ap) := (blk_cell ab.out 10).trans rfl
          have hcz47_11 : wr.cell? ⟨ad, 11, none⟩ = some (.int .i64 aq) := (blk_cell ab.out 11).trans rfl
          have hcz47_12 : wr.cell? ⟨ad, 12, none⟩ = some (.bool ak) := (blk_cell ab.out 12).trans rfl
          have hcz47_13 : wr.cell? ⟨ad, 13, none⟩ = some (.int .i64 af) := (blk_cell ab.out 13).trans rfl
          have hcz47_14 : wr.cell? ⟨ad, 14, none⟩ = some (.int .i64 ar) := (blk_cell ab.out 14).trans rfl
          have hcz47_15 : wr.cell? ⟨ad, 15, none⟩ = some (.int .i64 au) := (blk_cell ab.out 15).trans rfl
          have hcz47_16 : wr.cell? ⟨ad, 16, none⟩ = some (.bool av) := (blk_cell ab.out 16).trans rfl
          have hcz47_17 : wr.cell? ⟨ad, 17, none⟩ = some (.int .i64 aw) := (blk_cell ab.out 17).trans rfl
          have hcz47_18 : wr.cell? ⟨ad, 18, none⟩ = some (.bool al) := (blk_cell ab.out 18).trans rfl
          have hcz47_19 : wr.cell? ⟨ad, 19, none⟩ = some (.int .i64 ag) := (blk_cell ab.out 19).trans rfl
          have hcz47_20 : wr.cell? ⟨ad, 20, none⟩ = some (.int .i64 ax) := (blk_cell ab.out 20).trans rfl
          have hcz47_21 : wr.cell? ⟨ad, 21, none⟩ = some (.int .i64 ay) := (blk_cell ab.out 21).trans rfl
          have hcz47_22 : wr.cell? ⟨ad, 22, none⟩ = some (.bool az) := (blk_cell ab.out 22).trans rfl
          have hcz47_23 : wr.cell? ⟨ad, 23, none⟩ = some (.int .i64 aA) := (blk_cell ab.out 23).trans rfl
          have hcz47_24 : wr.cell? ⟨ad, 24, none⟩ = some (.bool am) := (blk_cell ab.out 24).trans rfl
          have hcz47_25 : wr.cell? ⟨ad, 25, none⟩ = some (.int .i64 ah) := (blk_cell ab.out 25).trans rfl
          have hcz47_26 : wr.cell? ⟨ad, 26, none⟩ = some (.int .i64 aB) := (blk_cell ab.out 26).trans rfl
          have hcz47_27 : wr.cell? ⟨ad, 27, none⟩ = some (.int .i64 aC) := (blk_cell ab.out 27).trans rfl
          have hcz47_28 : wr.cell? ⟨ad, 28, none⟩ = some (.bool aD) := (blk_cell ab.out 28).trans rfl
          have hcz47_29 : wr.cell? ⟨ad, 29, none⟩ = some (.int .i64 aE) := (blk_cell ab.out 29).trans rfl
          have hcz47_30 : wr.cell? ⟨ad, 30, none⟩ = some (.bool an) := (blk_cell ab.out 30).trans rfl
          have hcz47_31 : wr.cell? ⟨ad, 31, none⟩ = some (.int .i64 ai) := (blk_cell ab.out 31).trans rfl
          have hcz47_32 : wr.cell? ⟨ad, 32, none⟩ = some (.int .i64 aF) := (blk_cell ab.out 32).trans rfl
          have hcz47_33 : wr.cell? ⟨ad, 33, none⟩ = some (.int .i64 aG) := (blk_cell ab.out 33).trans rfl
          have hcz47_34 : wr.cell? ⟨ad, 34, none⟩ = some (.bool aH) := (blk_cell ab.out 34).trans rfl
          have hcz47_35 : wr.cell? ⟨ad, 35, none⟩ = some (.int .i64 aI) := (blk_cell ab.out 35).trans rfl
          have hcz47_36 : wr.cell? ⟨ad, 36, none⟩ = some (.bool ao) := (blk_cell ab.out 36).trans rfl
          have hcz47_37 : wr.cell? ⟨ad, 37, none⟩ = some (.int .i64 aj) := (blk_cell ab.out 37).trans rfl
          have hcz47_38 : wr.cell? ⟨ad, 38, none⟩ = some (.int .i64 aJ) := (blk_cell ab.out 38).trans rfl
          have hcz47_39 : wr.cell? ⟨ad, 39, none⟩ = some (.int .i64 aK) := (blk_cell ab.out 39).trans rfl
          have hcz47_40 : wr.cell? ⟨ad, 40, none⟩ = some (.bool aL) := (blk_cell ab.out 40).trans rfl
          have hcz47_41 : wr.cell? ⟨ad, 41, none⟩ = some (.int .i64 aM) := (blk_cell ab.out 41).trans rfl
          have hcz47_42 : wr.cell? ⟨ad, 42, none⟩ = some (.int .i64 aO) := (blk_cell ab.out 42).trans rfl
          have hfz47_0 := blk_frozen ab.out 0
          have hfz47_1 := blk_frozen ab.out 1
          have hfz47_2 := blk_frozen ab.out 2
          have hfz47_3 := blk_frozen ab.out 3
          have hfz47_4 := blk_frozen ab.out 4
          have hfz47_5 := blk_frozen ab.out 5
          have hfz47_6 := blk_frozen ab.out 6
          have hfz47_7 := blk_frozen ab.out 7
          have hfz47_8 := blk_frozen ab.out 8
          have hfz47_9 := blk_frozen ab.out 9
          have hfz47_10 := blk_frozen ab.out 10
          have hfz47_11 := blk_frozen ab.out 11
          have hfz47_12 := blk_frozen ab.out 12
          have hfz47_13 := blk_frozen ab.out 13
          have hfz47_14 := blk_frozen ab.out 14
          have hfz47_15 := blk_frozen ab.out 15
          have hfz47_16 := blk_frozen ab.out 16
          have hfz47_17 := blk_frozen ab.out 17
          have hfz47_18 := blk_frozen ab.out 18
          have hfz47_19 := blk_frozen ab.out 19
          have hfz47_20 := blk_frozen ab.out 20
          have hfz47_21 := blk_frozen ab.out 21
          have hfz47_22 := blk_frozen ab.out 22
          have hfz47_23 := blk_frozen ab.out 23
          have hfz47_24 := blk_frozen ab.out 24
          have hfz47_25 := blk_frozen ab.out 25
          have hfz47_26 := blk_frozen ab.out 26
          have hfz47_27 := blk_frozen ab.out 27
          have hfz47_28 := blk_frozen ab.out 28
          have hfz47_29 := blk_frozen ab.out 29
          have hfz47_30 := blk_frozen ab.out 30
          have hfz47_31 := blk_frozen ab.out 31
          have hfz47_32 := blk_frozen ab.out 32
          have hfz47_33 := blk_frozen ab.out 33
          have hfz47_34 := blk_frozen ab.out 34
          have hfz47_35 := blk_frozen ab.out 35
          have hfz47_36 := blk_frozen ab.out 36
          have hfz47_37 := blk_frozen ab.out 37
          have hfz47_38 := blk_frozen ab.out 38
          have hfz47_39 := blk_frozen ab.out 39
          have hfz47_40 := blk_frozen ab.out 40
          have hfz47_41 := blk_frozen ab.out 41
          have hfz47_42 := blk_frozen ab.out 42
          go_wp2_with (first | (go_at_call 15; (with_reducible refine (perilunelaw23_live.calls k2  ej _ A41.out).mono ?_); rintro e w48 ⟨rfl, hb⟩; replace ab := zbB ab hb; replace ac := zbB ac hb; replace ae := zbB ae hb; replace HB := zhB HB hb; (try clear hb); (try clear hb2); (try clear hk); (try clear hi)))
          repeat (go_quiet (first | (go_at_call 15; (with_reducible refine (perilunelaw23_live.calls k2  ej _ A41.out).mono ?_); rintro e w48 ⟨rfl, hb⟩; replace ab := zbB ab hb; replace ac := zbB ac hb; replace ae := zbB ae hb; replace HB := zhB HB hb; (try clear hb); (try clear hb2); (try clear hk); (try clear hi))); try go_wp2_with (first | (go_at_call 15; (with_reducible refine (perilunelaw23_live.calls k2  ej _ A41.out).mono ?_); rintro e w48 ⟨rfl, hb⟩; replace ab := zbB ab hb; replace ac := zbB ac hb; replace ae := zbB ae hb; replace HB := zhB HB hb; (try clear hb); (try clear hb2); (try clear hk); (try clear hi))))
          go_ret
          exact ⟨by first | rfl | (simp [errW_none, errW_some] <;> rfl) | (simp [*, errW_none, errW_some] <;> rfl), zho HB⟩
         ·rw [if_neg c40] at H
          have c40b0 : ((ba == 0) == (b0 != aO)) = false := by simpa using c40
          (try (have c40b1 : decide ((ba == 0) = (b0 != aO)) = false := by simpa using c40))
          (try (have c40b2 : ((ba == 0) == (b0 != aO)) = false := by simpa using c40))
          (try (have c40b3 : ¬ ((ba == 0) = (b0 != aO)) := by simpa using c40))
          clear c40
          exact absurd (Option.some.inj H) (by rw [hT_.out]; decide)
        ·rw [if_neg c39] at H
         have c39b0 : decide (dl ≤ 1) = false := decide_eq_false c39
         clear c39
         exact absurd (Option.some.inj H) (by rw [hT_.out]; decide)
    ·rw [if_neg c20] at H
     have c20b0 : (c9 == 0) = false := beq_eq_false_iff_ne.mpr c20
     have c20b1 : (c9 != 0) = true := bne_iff_ne.mpr c20
     replace H := Option.bind_eq_some_iff.mp H
     obtain ⟨dd, A490, H⟩ := H
     try dsimp only at H
     have A49 := Aside0.mk A490
     clear A490
     obtain rfl := Option.some.inj H
     have hnb50 := b2.out
     have hnc50 := b1.out
     have ez : wc.cell? ⟨aN, 0, none⟩ = some (.int .i64 ba) := (blk_cell ac.out 0).trans rfl
     have eA : wc.cell? ⟨aN, 1, none⟩ = some (.int .i64 bc) := (blk_cell ac.out 1).trans rfl
     have eB : wc.cell? ⟨aN, 2, none⟩ = some (.int .i64 bd) := (blk_cell ac.out 2).trans rfl
     have eC : wc.cell? ⟨aN, 3, none⟩ = some (.int .i64 be) := (blk_cell ac.out 3).trans rfl
     have eD : wc.cell? ⟨aN, 4, none⟩ = some (.int .i64 bf) := (blk_cell ac.out 4).trans rfl
     have eE := blk_frozen ac.out 0
     have eF := blk_frozen ac.out 1
     have eG := blk_frozen ac.out 2
     have eH := blk_frozen ac.out 3
     have eI := blk_frozen ac.out 4
     go_wp2_with (first | ((with_reducible refine gate_dst (N := 25) rfl ?_); refine seg_load_on (t := 27) (p := 2) (g := ad) (off := 0) (T := 27) (cur := Jt aS aQ aU aV aW aX aT aR aY aZ ap aq ak af ar au av aw al ag ax ay az aA am ah aB aC aD aE an ai aF aG aH aI ao aj aJ aK aL aM aO) (vs := Vt aS aQ aU aV aW aX aT aR aY aZ ap aq ak af ar au av aw al ag ax ay az aA am ah aB aC aD aE an ai aF aG aH aI ao aj aJ aK aL aM aO) ?hg ?ho ?hp ?hb Try.underlying27 ?hd ?hi ?hw ?_; (case ho => rfl); (case hg => first | rfl | (go_simp; done) | (simp [Region.wanted, yielded, *]; done)); (case hp => rfl); (case hb => exact (zbo ab)); (case hd => rfl); (case hi => kernel_rfl); (case hw => rfl)) | ((with_reducible refine gate_dst (N := 26) rfl ?_); refine seg_load_on (t := 33) (p := 3) (g := aN) (off := 0) (T := 33) (cur := #[.int .i64 ba, .int .i64 bc, .int .i64 bd, .int .i64 be, .int .i64 bf]) (vs := [.int .i64 ba, .int .i64 bc, .int .i64 bd, .int .i64 be, .int .i64 bf]) ?hg ?ho ?hp ?hb Try.underlying33 ?hd ?hi ?hw ?_; (case ho => rfl); (case hg => first | rfl | (go_simp; done) | (simp [Region.wanted, yielded, *]; done)); (case hp => rfl); (case hb => exact (zbo ac)); (case hd => rfl); (case hi => kernel_rfl); (case hw => rfl)) | (go_at_call 13; (with_reducible refine (perilunelaw23_step.calls kj2 aS aQ aU aV aW aX aT aR aY aZ ap aq ak af ar au av aw al ag ax ay az aA am ah aB aC aD aE an ai aF aG aH aI ao aj aJ aK aL aM aO ba bc bd be bf bp bi bq br bs bt bu bj bv bw bx bz bA bk bB bC bD bE bF bl bG bH bI bJ bK bm bL bM bN bO bP bn bQ bR bS bT bU bo bV bW bX bY b0 c6 c9 _ A19.out).mono ?_); rintro e w52 ⟨rfl, hb⟩; replace ab := zbB ab hb; replace ac := zbB ac hb; replace HB := zhB HB hb; (try clear hb); (try clear hb2); (try clear hk); (try clear hi)) | ((with_reducible refine gate_dst (N := 5) rfl ?_); refine box_event ?hg (N := 5) ?hd (cs := Jt false 0 0 0 false 0 false 0 0 0 false 0 false 0 0 0 false 0 false 0 0 0 false 0 false 0 0 0 false 0 false 0 0 0 false 0 false 0 0 0 false 0 0) (t := 27) ?hr ?_; (case hd => rfl); (case hg => rfl); (case hr => first | (go_simp; done) | (go_simp; rfl)); intro aP hg w53 hbox hb; have ae := Aside0.mk hbox; have ei := zhs HB hg; have bZ := zhs HB hg; have b4 := znl ab hg; have cy := zng ab hg; have b3 := znl ac hg; have ch := zng ac hg; replace ab := zbB ab hb; replace ac := zbB ac hb; replace HB := zhB HB hb; clear hb hbox hg) | ((with_reducible refine gate_store (t := 27) (p := 5) rfl ?_); (try (rw [drewN_self w53]; generalize hq_ : World.drewN w53 _ = w53; have n0_ := Aside0.mk (blk_at hq_ ab.out); have n1_ := Aside0.mk (blk_at hq_ ac.out); have n2_ := Aside0.mk (blk_at hq_ ae.out); have n3_ := Aside0.mk (below_at hq_ HB.out); clear hq_ ab ac ae HB; have ab := n0_; have ac := n1_; have ae := n2_; have HB := n3_; clear n0_ n1_ n2_ n3_)); refine seg_event (t := 27) (p := 5) (x := ?xo_w54) (g := aP) (off := 0) (T := 27) (cur := Jt false 0 0 0 false 0 false 0 0 0 false 0 false 0 0 0 false 0 false 0 0 0 false 0 false 0 0 0 false 0 false 0 0 0 false 0 false 0 0 0 false 0 0) (vs := Vt bp bi bq br bs bt bu bj bv bw bx bz bA bk bB bC bD bE bF bl bG bH bI bJ bK bm bL bM bN bO bP bn bQ bR bS bT bU bo bV bW bX bY b0) (new := Jt bp bi bq br bs bt bu bj bv bw bx bz bA bk bB bC bD bE bF bl bG bH bI bJ bK bm bL bM bN bO bP bn bQ bR bS bT bU bo bV bW bX bY b0) ?hg ?ho ?hn ?hp ?hv ?hb ?hi ?hf ?h1 ?hw ?_; (case ho => rfl); (case hg => rfl); (case hn => rfl); (case hp => rfl); (case hv => first | rfl | (go_simp; done) | (simp [*]; done)); (case hb => exact (zbo ae)); (case hi => kernel_rfl); (case hf => exact Nat.le_of_ble_eq_true rfl); (case h1 => rfl); (case hw => rfl); intro w54 hbox hg hbl; replace ab := zbG ab hg b4; replace ac := zbG ac hg b3; replace ae := Aside0.mk hbox; replace HB := zhL hbl HB bZ; clear hbox hg hbl) | (go_at_call 15; (with_reducible refine (perilunelaw23_live.calls kj2  dd _ A49.out).mono ?_); rintro e w55 ⟨rfl, hb⟩; replace ab := zbB ab hb; replace ac := zbB ac hb; replace ae := zbB ae hb; replace HB := zhB HB hb; (try clear hb); (try clear hb2); (try clear hk); (try clear hi)))
     repeat (go_quiet (first | ((with_reducible refine gate_dst (N := 25) rfl ?_); refine seg_load_on (t := 27) (p := 2) (g := ad) (off := 0) (T := 27) (cur := Jt aS aQ aU aV aW aX aT aR aY aZ ap aq ak af ar au av aw al ag ax ay az aA am ah aB aC aD aE an ai aF aG aH aI ao aj aJ aK aL aM aO) (vs := Vt aS aQ aU aV aW aX aT aR aY aZ ap aq ak af ar au av aw al ag ax ay az aA am ah aB aC aD aE an ai aF aG aH aI ao aj aJ aK aL aM aO) ?hg ?ho ?hp ?hb Try.underlying27 ?hd ?hi ?hw ?_; (case ho => rfl); (case hg => first | rfl | (go_simp; done) | (simp [Region.wanted, yielded, *]; done)); (case hp => rfl); (case hb => exact (zbo ab)); (case hd => rfl); (case hi => kernel_rfl); (case hw => rfl)) | ((with_reducible refine gate_dst (N := 26) rfl ?_); refine seg_load_on (t := 33) (p := 3) (g := aN) (off := 0) (T := 33) (cur := #[.int .i64 ba, .int .i64 bc, .int .i64 bd, .int .i64 be, .int .i64 bf]) (vs := [.int .i64 ba, .int .i64 bc, .int .i64 bd, .int .i64 be, .int .i64 bf]) ?hg ?ho ?hp ?hb Try.underlying33 ?hd ?hi ?hw ?_; (case ho => rfl); (case hg => first | rfl | (go_simp; done) | (simp [Region.wanted, yielded, *]; done)); (case hp => rfl); (case hb => exact (zbo ac)); (case hd => rfl); (case hi => kernel_rfl); (case hw => rfl)) | (go_at_call 13; (with_reducible refine (perilunelaw23_step.calls kj2 aS aQ aU aV aW aX aT aR aY aZ ap aq ak af ar au av aw al ag ax ay az aA am ah aB aC aD aE an ai aF aG aH aI ao aj aJ aK aL aM aO ba bc bd be bf bp bi bq br bs bt bu bj bv bw bx bz bA bk bB bC bD bE bF bl bG bH bI bJ bK bm bL bM bN bO bP bn bQ bR bS bT bU bo bV bW bX bY b0 c6 c9 _ A19.out).mono ?_); rintro e w52 ⟨rfl, hb⟩; replace ab := zbB ab hb; replace ac := zbB ac hb; replace HB := zhB HB hb; (try clear hb); (try clear hb2); (try clear hk); (try clear hi)) | ((with_reducible refine gate_dst (N := 5) rfl ?_); refine box_event ?hg (N := 5) ?hd (cs := Jt false 0 0 0 false 0 false 0 0 0 false 0 false 0 0 0 false 0 false 0 0 0 false 0 false 0 0 0 false 0 false 0 0 0 false 0 false 0 0 0 false 0 0) (t := 27) ?hr ?_; (case hd => rfl); (case hg => rfl); (case hr => first | (go_simp; done) | (go_simp; rfl)); intro aP hg w53 hbox hb; have ae := Aside0.mk hbox; have ei := zhs HB hg; have bZ := zhs HB hg; have b4 := znl ab hg; have cy := zng ab hg; have b3 := znl ac hg; have ch := zng ac hg; replace ab := zbB ab hb; replace ac := zbB ac hb; replace HB := zhB HB hb; clear hb hbox hg) | ((with_reducible refine gate_store (t := 27) (p := 5) rfl ?_); (try (rw [drewN_self w53]; generalize hq_ : World.drewN w53 _ = w53; have n0_ := Aside0.mk (blk_at hq_ ab.out); have n1_ := Aside0.mk (blk_at hq_ ac.out); have n2_ := Aside0.mk (blk_at hq_ ae.out); have n3_ := Aside0.mk (below_at hq_ HB.out); clear hq_ ab ac ae HB; have ab := n0_; have ac := n1_; have ae := n2_; have HB := n3_; clear n0_ n1_ n2_ n3_)); refine seg_event (t := 27) (p := 5) (x := ?xo_w54) (g := aP) (off := 0) (T := 27) (cur := Jt false 0 0 0 false 0 false 0 0 0 false 0 false 0 0 0 false 0 false 0 0 0 false 0 false 0 0 0 false 0 false 0 0 0 false 0 false 0 0 0 false 0 0) (vs := Vt bp bi bq br bs bt bu bj bv bw bx bz bA bk bB bC bD bE bF bl bG bH bI bJ bK bm bL bM bN bO bP bn bQ bR bS bT bU bo bV bW bX bY b0) (new := Jt bp bi bq br bs bt bu bj bv bw bx bz bA bk bB bC bD bE bF bl bG bH bI bJ bK bm bL bM bN bO bP bn bQ bR bS bT bU bo bV bW bX bY b0) ?hg ?ho ?hn ?hp ?hv ?hb ?hi ?hf ?h1 ?hw ?_; (case ho => rfl); (case hg => rfl); (case hn => rfl); (case hp => rfl); (case hv => first | rfl | (go_simp; done) | (simp [*]; done)); (case hb => exact (zbo ae)); (case hi => kernel_rfl); (case hf => exact Nat.le_of_ble_eq_true rfl); (case h1 => rfl); (case hw => rfl); intro w54 hbox hg hbl; replace ab := zbG ab hg b4; replace ac := zbG ac hg b3; replace ae := Aside0.mk hbox; replace HB := zhL hbl HB bZ; clear hbox hg hbl) | (go_at_call 15; (with_reducible refine (perilunelaw23_live.calls kj2  dd _ A49.out).mono ?_); rintro e w55 ⟨rfl, hb⟩; replace ab := zbB ab hb; replace ac := zbB ac hb; replace ae := zbB ae hb; replace HB := zhB HB hb; (try clear hb); (try clear hb2); (try clear hk); (try clear hi))); try go_wp2_with (first | ((with_reducible refine gate_dst (N := 25) rfl ?_); refine seg_load_on (t := 27) (p := 2) (g := ad) (off := 0) (T := 27) (cur := Jt aS aQ aU aV aW aX aT aR aY aZ ap aq ak af ar au av aw al ag ax ay az aA am ah aB aC aD aE an ai aF aG aH aI ao aj aJ aK aL aM aO) (vs := Vt aS aQ aU aV aW aX aT aR aY aZ ap aq ak af ar au av aw al ag ax ay az aA am ah aB aC aD aE an ai aF aG aH aI ao aj aJ aK aL aM aO) ?hg ?ho ?hp ?hb Try.underlying27 ?hd ?hi ?hw ?_; (case ho => rfl); (case hg => first | rfl | (go_simp; done) | (simp [Region.wanted, yielded, *]; done)); (case hp => rfl); (case hb => exact (zbo ab)); (case hd => rfl); (case hi => kernel_rfl); (case hw => rfl)) | ((with_reducible refine gate_dst (N := 26) rfl ?_); refine seg_load_on (t := 33) (p := 3) (g := aN) (off := 0) (T := 33) (cur := #[.int .i64 ba, .int .i64 bc, .int .i64 bd, .int .i64 be, .int .i64 bf]) (vs := [.int .i64 ba, .int .i64 bc, .int .i64 bd, .int .i64 be, .int .i64 bf]) ?hg ?ho ?hp ?hb Try.underlying33 ?hd ?hi ?hw ?_; (case ho => rfl); (case hg => first | rfl | (go_simp; done) | (simp [Region.wanted, yielded, *]; done)); (case hp => rfl); (case hb => exact (zbo ac)); (case hd => rfl); (case hi => kernel_rfl); (case hw => rfl); have hnb50 := b2.out; have hnc50 := b1.out; have ez : wc.cell? ⟨aN, 0, none⟩ = some (.int .i64 ba) := (blk_cell ac.out 0).trans rfl; have eA : wc.cell? ⟨aN, 1, none⟩ = some (.int .i64 bc) := (blk_cell ac.out 1).trans rfl; have eB : wc.cell? ⟨aN, 2, none⟩ = some (.int .i64 bd) := (blk_cell ac.out 2).trans rfl; have eC : wc.cell? ⟨aN, 3, none⟩ = some (.int .i64 be) := (blk_cell ac.out 3).trans rfl; have eD : wc.cell? ⟨aN, 4, none⟩ = some (.int .i64 bf) := (blk_cell ac.out 4).trans rfl; have eE := blk_frozen ac.out 0; have eF := blk_frozen ac.out 1; have eG := blk_frozen ac.out 2; have eH := blk_frozen ac.out 3; have eI := blk_frozen ac.out 4) | (go_at_call 13; (with_reducible refine (perilunelaw23_step.calls kj2 aS aQ aU aV aW aX aT aR aY aZ ap aq ak af ar au av aw al ag ax ay az aA am ah aB aC aD aE an ai aF aG aH aI ao aj aJ aK aL aM aO ba bc bd be bf bp bi bq br bs bt bu bj bv bw bx bz bA bk bB bC bD bE bF bl bG bH bI bJ bK bm bL bM bN bO bP bn bQ bR bS bT bU bo bV bW bX bY b0 c6 c9 _ A19.out).mono ?_); rintro e w52 ⟨rfl, hb⟩; replace ab := zbB ab hb; replace ac := zbB ac hb; replace HB := zhB HB hb; (try clear hb); (try clear hb2); (try clear hk); (try clear hi)) | ((with_reducible refine gate_dst (N := 5) rfl ?_); refine box_event ?hg (N := 5) ?hd (cs := Jt false 0 0 0 false 0 false 0 0 0 false 0 false 0 0 0 false 0 false 0 0 0 false 0 false 0 0 0 false 0 false 0 0 0 false 0 false 0 0 0 false 0 0) (t := 27) ?hr ?_; (case hd => rfl); (case hg => rfl); (case hr => first | (go_simp; done) | (go_simp; rfl)); intro aP hg w53 hbox hb; have ae := Aside0.mk hbox; have ei := zhs HB hg; have bZ := zhs HB hg; have b4 := znl ab hg; have cy := zng ab hg; have b3 := znl ac hg; have ch := zng ac hg; replace ab := zbB ab hb; replace ac := zbB ac hb; replace HB := zhB HB hb; clear hb hbox hg) | ((with_reducible refine gate_store (t := 27) (p := 5) rfl ?_); (try (rw [drewN_self w53]; generalize hq_ : World.drewN w53 _ = w53; have n0_ := Aside0.mk (blk_at hq_ ab.out); have n1_ := Aside0.mk (blk_at hq_ ac.out); have n2_ := Aside0.mk (blk_at hq_ ae.out); have n3_ := Aside0.mk (below_at hq_ HB.out); clear hq_ ab ac ae HB; have ab := n0_; have ac := n1_; have ae := n2_; have HB := n3_; clear n0_ n1_ n2_ n3_)); refine seg_event (t := 27) (p := 5) (x := ?xo_w54) (g := aP) (off := 0) (T := 27) (cur := Jt false 0 0 0 false 0 false 0 0 0 false 0 false 0 0 0 false 0 false 0 0 0 false 0 false 0 0 0 false 0 false 0 0 0 false 0 false 0 0 0 false 0 0) (vs := Vt bp bi bq br bs bt bu bj bv bw bx bz bA bk bB bC bD bE bF bl bG bH bI bJ bK bm bL bM bN bO bP bn bQ bR bS bT bU bo bV bW bX bY b0) (new := Jt bp bi bq br bs bt bu bj bv bw bx bz bA bk bB bC bD bE bF bl bG bH bI bJ bK bm bL bM bN bO bP bn bQ bR bS bT bU bo bV bW bX bY b0) ?hg ?ho ?hn ?hp ?hv ?hb ?hi ?hf ?h1 ?hw ?_; (case ho => rfl); (case hg => rfl); (case hn => rfl); (case hp => rfl); (case hv => first | rfl | (go_simp; done) | (simp [*]; done)); (case hb => exact (zbo ae)); (case hi => kernel_rfl); (case hf => exact Nat.le_of_ble_eq_true rfl); (case h1 => rfl); (case hw => rfl); intro w54 hbox hg hbl; replace ab := zbG ab hg b4; replace ac := zbG ac hg b3; replace ae := Aside0.mk hbox; replace HB := zhL hbl HB bZ; clear hbox hg hbl) | (go_at_call 15; (with_reducible refine (perilunelaw23_live.calls kj2  dd _ A49.out).mono ?_); rintro e w55 ⟨rfl, hb⟩; replace ab := zbB ab hb; replace ac := zbB ac hb; replace ae := zbB ae hb; replace HB := zhB HB hb; (try clear hb); (try clear hb2); (try clear hk); (try clear hi))))
     go_ret
     exact ⟨by first | rfl | (simp [errW_none, errW_some] <;> rfl) | (simp [*, errW_none, errW_some] <;> rfl), zho HB⟩

end Go.Proofs.Ytjenkcgjpdappaa.P
