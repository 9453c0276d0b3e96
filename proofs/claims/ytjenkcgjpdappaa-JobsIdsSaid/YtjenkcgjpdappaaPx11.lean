-- Printed by a session's own program (wip/turnprint.py, wip/myprint.sh) over the translation's print. -- slim -- short -- s4
import Derived.Test.YtjenkcgjpdappaaPx0
import Derived.Test.YtjenkcgjpdappaaPx1
import Derived.Test.YtjenkcgjpdappaaPx10
namespace Go.Proofs.Ytjenkcgjpdappaa.P
open Go.RowKit Go.Proofs.YtjenkcgjpdappaaW.PrintWords Go.Proofs.YtjenkcgjpdappaaW.PrintLast Go.Proofs.YtjenkcgjpdappaaW.PrintMore
attribute [local go_sem] max2_int min2_int max_two min_two max_three min_three max_four min_four   -- for this text's walks alone
set_option linter.unusedVariables false
set_option linter.unusedSimpArgs false

attribute [local go_sem high] eqA24
/-! ### periluneref23_Valid: function 14 -/
mutual
def periluneref23_Valid.j0 : Nat → Bool → Bool → Int → Int → Int → Bool → Int → Bool → Int → Int → Int → Bool → Int → Bool → Int → Int → Int → Bool → Int → Bool → Int → Int → Int → Bool → Int → Bool → Int → Int → Int → Bool → Int → Bool → Int → Int → Int → Bool → Int → Bool → Int → Int → Int → Bool → Int → Int → Option (Bool)
 | 0, _, _, _, _, _, _, _, _, _, _, _, _, _, _, _, _, _, _, _, _, _, _, _, _, _, _, _, _, _, _, _, _, _, _, _, _, _, _, _, _, _, _, _, _ => none
 | k + 1, x14, bl, bd, bC, bm, bQ, bD, bn, be, bE, bo, bR, bF, bp, bf, bG, bq, bS, bH, br, bg, bI, bs, bT, bJ, bt, bh, bK, bu, bU, bL, bv, bi, bM, bw, bV, bN, bx, bj, bO, bz, bW, bP, bY => if x14 = true then (some false) else (periluneref23_Valid.l0 k 0 bl bd bC bm bQ bD bn be bE bo bR bF bp bf bG bq bS bH br bg bI bs bT bJ bt bh bK bu bU bL bv bi bM bw bV bN bx bj bO bz bW bP bY)
def periluneref23_Valid.l0 : Nat → Int → Bool → Int → Int → Int → Bool → Int → Bool → Int → Int → Int → Bool → Int → Bool → Int → Int → Int → Bool → Int → Bool → Int → Int → Int → Bool → Int → Bool → Int → Int → Int → Bool → Int → Bool → Int → Int → Int → Bool → Int → Bool → Int → Int → Int → Bool → Int → Int → Option (Bool)
 | 0, _, _, _, _, _, _, _, _, _, _, _, _, _, _, _, _, _, _, _, _, _, _, _, _, _, _, _, _, _, _, _, _, _, _, _, _, _, _, _, _, _, _, _, _ => none
 | k + 1, x3, bl, bd, bC, bm, bQ, bD, bn, be, bE, bo, bR, bF, bp, bf, bG, bq, bS, bH, br, bg, bI, bs, bT, bJ, bt, bh, bK, bu, bU, bL, bv, bi, bM, bw, bV, bN, bx, bj, bO, bz, bW, bP, bY => if x3 < 7 then (if 0 ≤ x3 then (if pk7 bl bn bp br bt bv bx x3 = true then (if (pk7 bd be bf bg bh bi bj x3) < 1 then (periluneref23_Valid.j2 k x3 true bl bd bC bm bQ bD bn be bE bo bR bF bp bf bG bq bS bH br bg bI bs bT bJ bt bh bK bu bU bL bv bi bM bw bV bN bx bj bO bz bW bP bY (pk7 bl bn bp br bt bv bx x3) (pk7 bd be bf bg bh bi bj x3) (pk7 bC bE bG bI bK bM bO x3) (pk7 bm bo bq bs bu bw bz x3) (pk7 bQ bR bS bT bU bV bW x3) (pk7 bD bF bH bJ bL bN bP x3)) else (if (pk7 bd be bf bg bh bi bj x3) > bY then (periluneref23_Valid.j2 k x3 true bl bd bC bm bQ bD bn be bE bo bR bF bp bf bG bq bS bH br bg bI bs bT bJ bt bh bK bu bU bL bv bi bM bw bV bN bx bj bO bz bW bP bY (pk7 bl bn bp br bt bv bx x3) (pk7 bd be bf bg bh bi bj x3) (pk7 bC bE bG bI bK bM bO x3) (pk7 bm bo bq bs bu bw bz x3) (pk7 bQ bR bS bT bU bV bW x3) (pk7 bD bF bH bJ bL bN bP x3)) else ((periluneref23_fits.f k (pk7 bC bE bG bI bK bM bO x3) (pk7 bm bo bq bs bu bw bz x3) (pk7 bD bF bH bJ bL bN bP x3)).bind fun fi => (periluneref23_Valid.j2 k x3 (!fi) bl bd bC bm bQ bD bn be bE bo bR bF bp bf bG bq bS bH br bg bI bs bT bJ bt bh bK bu bU bL bv bi bM bw bV bN bx bj bO bz bW bP bY (pk7 bl bn bp br bt bv bx x3) (pk7 bd be bf bg bh bi bj x3) (pk7 bC bE bG bI bK bM bO x3) (pk7 bm bo bq bs bu bw bz x3) (pk7 bQ bR bS bT bU bV bW x3) (pk7 bD bF bH bJ bL bN bP x3))))) else (if ((pk7 bl bn bp br bt bv bx x3) || (!((pk7 bd be bf bg bh bi bj x3) == 0) || (!((pk7 bC bE bG bI bK bM bO x3) == 0) || (!((pk7 bm bo bq bs bu bw bz x3) == 0) || ((pk7 bQ bR bS bT bU bV bW x3) || (!((pk7 bD bF bH bJ bL bN bP x3) == 0))))))) = true then (some false) else (periluneref23_Valid.l0 k (wrap64 (x3 + 1)) bl bd bC bm bQ bD bn be bE bo bR bF bp bf bG bq bS bH br bg bI bs bT bJ bt bh bK bu bU bL bv bi bM bw bV bN bx bj bO bz bW bP bY))) else (none)) else (some true)
def periluneref23_Valid.j2 : Nat → Int → Bool → Bool → Int → Int → Int → Bool → Int → Bool → Int → Int → Int → Bool → Int → Bool → Int → Int → Int → Bool → Int → Bool → Int → Int → Int → Bool → Int → Bool → Int → Int → Int → Bool → Int → Bool → Int → Int → Int → Bool → Int → Bool → Int → Int → Int → Bool → Int → Int → Bool → Int → Int → Int → Bool → Int → Option (Bool)
 | 0, _, _, _, _, _, _, _, _, _, _, _, _, _, _, _, _, _, _, _, _, _, _, _, _, _, _, _, _, _, _, _, _, _, _, _, _, _, _, _, _, _, _, _, _, _, _, _, _, _, _, _ => none
 | k + 1, x3, x48, bl, bd, bC, bm, bQ, bD, bn, be, bE, bo, bR, bF, bp, bf, bG, bq, bS, bH, br, bg, bI, bs, bT, bJ, bt, bh, bK, bu, bU, bL, bv, bi, bM, bw, bV, bN, bx, bj, bO, bz, bW, bP, bY, ca, b9, cb, b8, cc, cd => if x48 = true then (some false) else (periluneref23_Valid.l1 k x3 0 bl bd bC bm bQ bD bn be bE bo bR bF bp bf bG bq bS bH br bg bI bs bT bJ bt bh bK bu bU bL bv bi bM bw bV bN bx bj bO bz bW bP bY ca b9 cb b8 cc cd)
def periluneref23_Valid.l1 : Nat → Int → Int → Bool → Int → Int → Int → Bool → Int → Bool → Int → Int → Int → Bool → Int → Bool → Int → Int → Int → Bool → Int → Bool → Int → Int → Int → Bool → Int → Bool → Int → Int → Int → Bool → Int → Bool → Int → Int → Int → Bool → Int → Bool → Int → Int → Int → Bool → Int → Int → Bool → Int → Int → Int → Bool → Int → Option (Bool)
 | 0, _, _, _, _, _, _, _, _, _, _, _, _, _, _, _, _, _, _, _, _, _, _, _, _, _, _, _, _, _, _, _, _, _, _, _, _, _, _, _, _, _, _, _, _, _, _, _, _, _, _, _ => none
 | k + 1, x3, x5, bl, bd, bC, bm, bQ, bD, bn, be, bE, bo, bR, bF, bp, bf, bG, bq, bS, bH, br, bg, bI, bs, bT, bJ, bt, bh, bK, bu, bU, bL, bv, bi, bM, bw, bV, bN, bx, bj, bO, bz, bW, bP, bY, ca, b9, cb, b8, cc, cd => if x5 < x3 then (if 0 ≤ x5 then (if x5 < 7 then (if pk7 bl bn bp br bt bv bx x5 = true then (if (pk7 bd be bf bg bh bi bj x5) = b9 then (some false) else (if (pk7 bm bo bq bs bu bw bz x5) = b8 then (if b8 = 0 then (periluneref23_Valid.l1 k x3 (wrap64 (x5 + 1)) bl bd bC bm bQ bD bn be bE bo bR bF bp bf bG bq bS bH br bg bI bs bT bJ bt bh bK bu bU bL bv bi bM bw bV bN bx bj bO bz bW bP bY ca b9 cb b8 cc cd) else (some false)) else (periluneref23_Valid.l1 k x3 (wrap64 (x5 + 1)) bl bd bC bm bQ bD bn be bE bo bR bF bp bf bG bq bS bH br bg bI bs bT bJ bt bh bK bu bU bL bv bi bM bw bV bN bx bj bO bz bW bP bY ca b9 cb b8 cc cd))) else (periluneref23_Valid.l1 k x3 (wrap64 (x5 + 1)) bl bd bC bm bQ bD bn be bE bo bR bF bp bf bG bq bS bH br bg bI bs bT bJ bt bh bK bu bU bL bv bi bM bw bV bN bx bj bO bz bW bP bY ca b9 cb b8 cc cd)) else (none)) else (none)) else (periluneref23_Valid.l0 k (wrap64 (x3 + 1)) bl bd bC bm bQ bD bn be bE bo bR bF bp bf bG bq bS bH br bg bI bs bT bJ bt bh bK bu bU bL bv bi bM bw bV bN bx bj bO bz bW bP bY)
end
def periluneref23_Valid.f (k : Nat) (aR : Bool) (aN : Int) (aU : Int) (aO : Int) (aX : Bool) (aV : Int) (aS : Bool) (aP : Int) (aW : Int) (aQ : Int) (aH : Bool) (aw : Int) (ap : Bool) (af : Int) (ax : Int) (ag : Int) (aI : Bool) (ay : Int) (aq : Bool) (ah : Int) (az : Int) (ai : Int) (aJ : Bool) (aA : Int) (ar : Bool) (aj : Int) (aB : Int) (ak : Int) (aK : Bool) (aC : Int) (au : Bool) (al : Int) (aD : Int) (am : Int) (aL : Bool) (aE : Int) (av : Bool) (an : Int) (aF : Int) (ao : Int) (aM : Bool) (aG : Int) (ba : Int) : Option (Bool) := if ba < 0 then (periluneref23_Valid.j0 k true aR aN aU aO aX aV aS aP aW aQ aH aw ap af ax ag aI ay aq ah az ai aJ aA ar aj aB ak aK aC au al aD am aL aE av an aF ao aM aG ba) else (periluneref23_Valid.j0 k (decide (ba > 1073741824)) aR aN aU aO aX aV aS aP aW aQ aH aw ap af ax ag aI ay aq ah az ai aJ aA ar aj aB ak aK aC au al aD am aL aE av an aF ao aM aG ba)
theorem periluneref23_Valid.mono_l : ∀ k, (∀ y0 y1 y2 y3 y4 y5 y6 y7 y8 y9 y10 y11 y12 y13 y14 y15 y16 y17 y18 y19 y20 y21 y22 y23 y24 y25 y26 y27 y28 y29 y30 y31 y32 y33 y34 y35 y36 y37 y38 y39 y40 y41 y42 y43, LeO (periluneref23_Valid.j0 k y0 y1 y2 y3 y4 y5 y6 y7 y8 y9 y10 y11 y12 y13 y14 y15 y16 y17 y18 y19 y20 y21 y22 y23 y24 y25 y26 y27 y28 y29 y30 y31 y32 y33 y34 y35 y36 y37 y38 y39 y40 y41 y42 y43) (periluneref23_Valid.j0 (k + 1) y0 y1 y2 y3 y4 y5 y6 y7 y8 y9 y10 y11 y12 y13 y14 y15 y16 y17 y18 y19 y20 y21 y22 y23 y24 y25 y26 y27 y28 y29 y30 y31 y32 y33 y34 y35 y36 y37 y38 y39 y40 y41 y42 y43)) ∧ (∀ y0 y1 y2 y3 y4 y5 y6 y7 y8 y9 y10 y11 y12 y13 y14 y15 y16 y17 y18 y19 y20 y21 y22 y23 y24 y25 y26 y27 y28 y29 y30 y31 y32 y33 y34 y35 y36 y37 y38 y39 y40 y41 y42 y43, LeO (periluneref23_Valid.l0 k y0 y1 y2 y3 y4 y5 y6 y7 y8 y9 y10 y11 y12 y13 y14 y15 y16 y17 y18 y19 y20 y21 y22 y23 y24 y25 y26 y27 y28 y29 y30 y31 y32 y33 y34 y35 y36 y37 y38 y39 y40 y41 y42 y43) (periluneref23_Valid.l0 (k + 1) y0 y1 y2 y3 y4 y5 y6 y7 y8 y9 y10 y11 y12 y13 y14 y15 y16 y17 y18 y19 y20 y21 y22 y23 y24 y25 y26 y27 y28 y29 y30 y31 y32 y33 y34 y35 y36 y37 y38 y39 y40 y41 y42 y43)) ∧ (∀ y0 y1 y2 y3 y4 y5 y6 y7 y8 y9 y10 y11 y12 y13 y14 y15 y16 y17 y18 y19 y20 y21 y22 y23 y24 y25 y26 y27 y28 y29 y30 y31 y32 y33 y34 y35 y36 y37 y38 y39 y40 y41 y42 y43 y44 y45 y46 y47 y48 y49 y50, LeO (periluneref23_Valid.j2 k y0 y1 y2 y3 y4 y5 y6 y7 y8 y9 y10 y11 y12 y13 y14 y15 y16 y17 y18 y19 y20 y21 y22 y23 y24 y25 y26 y27 y28 y29 y30 y31 y32 y33 y34 y35 y36 y37 y38 y39 y40 y41 y42 y43 y44 y45 y46 y47 y48 y49 y50) (periluneref23_Valid.j2 (k + 1) y0 y1 y2 y3 y4 y5 y6 y7 y8 y9 y10 y11 y12 y13 y14 y15 y16 y17 y18 y19 y20 y21 y22 y23 y24 y25 y26 y27 y28 y29 y30 y31 y32 y33 y34 y35 y36 y37 y38 y39 y40 y41 y42 y43 y44 y45 y46 y47 y48 y49 y50)) ∧ (∀ y0 y1 y2 y3 y4 y5 y6 y7 y8 y9 y10 y11 y12 y13 y14 y15 y16 y17 y18 y19 y20 y21 y22 y23 y24 y25 y26 y27 y28 y29 y30 y31 y32 y33 y34 y35 y36 y37 y38 y39 y40 y41 y42 y43 y44 y45 y46 y47 y48 y49 y50, LeO (periluneref23_Valid.l1 k y0 y1 y2 y3 y4 y5 y6 y7 y8 y9 y10 y11 y12 y13 y14 y15 y16 y17 y18 y19 y20 y21 y22 y23 y24 y25 y26 y27 y28 y29 y30 y31 y32 y33 y34 y35 y36 y37 y38 y39 y40 y41 y42 y43 y44 y45 y46 y47 y48 y49 y50) (periluneref23_Valid.l1 (k + 1) y0 y1 y2 y3 y4 y5 y6 y7 y8 y9 y10 y11 y12 y13 y14 y15 y16 y17 y18 y19 y20 y21 y22 y23 y24 y25 y26 y27 y28 y29 y30 y31 y32 y33 y34 y35 y36 y37 y38 y39 y40 y41 y42 y43 y44 y45 y46 y47 y48 y49 y50))
 | 0 => ⟨fun _ _ _ _ _ _ _ _ _ _ _ _ _ _ _ _ _ _ _ _ _ _ _ _ _ _ _ _ _ _ _ _ _ _ _ _ _ _ _ _ _ _ _ _ r h => by simp [periluneref23_Valid.j0] at h, fun _ _ _ _ _ _ _ _ _ _ _ _ _ _ _ _ _ _ _ _ _ _ _ _ _ _ _ _ _ _ _ _ _ _ _ _ _ _ _ _ _ _ _ _ r h => by simp [periluneref23_Valid.l0] at h, fun _ _ _ _ _ _ _ _ _ _ _ _ _ _ _ _ _ _ _ _ _ _ _ _ _ _ _ _ _ _ _ _ _ _ _ _ _ _ _ _ _ _ _ _ _ _ _ _ _ _ _ r h => by simp [periluneref23_Valid.j2] at h, fun _ _ _ _ _ _ _ _ _ _ _ _ _ _ _ _ _ _ _ _ _ _ _ _ _ _ _ _ _ _ _ _ _ _ _ _ _ _ _ _ _ _ _ _ _ _ _ _ _ _ _ r h => by simp [periluneref23_Valid.l1] at h⟩
 | k + 1 => by
  obtain ⟨ih0, ih1, ih2, ih3⟩ := periluneref23_Valid.mono_l k
  refine ⟨?_, ?_, ?_, ?_⟩
  ·intro y0 y1 y2 y3 y4 y5 y6 y7 y8 y9 y10 y11 y12 y13 y14 y15 y16 y17 y18 y19 y20 y21 y22 y23 y24 y25 y26 y27 y28 y29 y30 y31 y32 y33 y34 y35 y36 y37 y38 y39 y40 y41 y42 y43
   unfold periluneref23_Valid.j0
   repeat' first
   | (with_reducible exact ih0 _ _ _ _ _ _ _ _ _ _ _ _ _ _ _ _ _ _ _ _ _ _ _ _ _ _ _ _ _ _ _ _ _ _ _ _ _ _ _ _ _ _ _ _)
   | (with_reducible exact ih1 _ _ _ _ _ _ _ _ _ _ _ _ _ _ _ _ _ _ _ _ _ _ _ _ _ _ _ _ _ _ _ _ _ _ _ _ _ _ _ _ _ _ _ _)
   | (with_reducible exact ih2 _ _ _ _ _ _ _ _ _ _ _ _ _ _ _ _ _ _ _ _ _ _ _ _ _ _ _ _ _ _ _ _ _ _ _ _ _ _ _ _ _ _ _ _ _ _ _ _ _ _ _)
   | (with_reducible exact ih3 _ _ _ _ _ _ _ _ _ _ _ _ _ _ _ _ _ _ _ _ _ _ _ _ _ _ _ _ _ _ _ _ _ _ _ _ _ _ _ _ _ _ _ _ _ _ _ _ _ _ _)
   | (with_reducible apply periluneref23_fits.mono)
   | (with_reducible exact LeO.refl _)
   | (with_reducible exact LeO.none _)
   | (with_reducible refine LeO.ite ?_ ?_)
   | (with_reducible refine LeO.bind ?_ (fun _ => ?_))
   | exact ih0 _ _ _ _ _ _ _ _ _ _ _ _ _ _ _ _ _ _ _ _ _ _ _ _ _ _ _ _ _ _ _ _ _ _ _ _ _ _ _ _ _ _ _ _
   | exact ih1 _ _ _ _ _ _ _ _ _ _ _ _ _ _ _ _ _ _ _ _ _ _ _ _ _ _ _ _ _ _ _ _ _ _ _ _ _ _ _ _ _ _ _ _
   | exact ih2 _ _ _ _ _ _ _ _ _ _ _ _ _ _ _ _ _ _ _ _ _ _ _ _ _ _ _ _ _ _ _ _ _ _ _ _ _ _ _ _ _ _ _ _ _ _ _ _ _ _ _
   | exact ih3 _ _ _ _ _ _ _ _ _ _ _ _ _ _ _ _ _ _ _ _ _ _ _ _ _ _ _ _ _ _ _ _ _ _ _ _ _ _ _ _ _ _ _ _ _ _ _ _ _ _ _
   | apply periluneref23_fits.mono
   | exact LeO.none _
   | refine LeO.ite ?_ ?_
   | refine LeO.bind ?_ (fun _ => ?_)
  ·intro y0 y1 y2 y3 y4 y5 y6 y7 y8 y9 y10 y11 y12 y13 y14 y15 y16 y17 y18 y19 y20 y21 y22 y23 y24 y25 y26 y27 y28 y29 y30 y31 y32 y33 y34 y35 y36 y37 y38 y39 y40 y41 y42 y43
   unfold periluneref23_Valid.l0
   repeat' first
   | (with_reducible exact ih0 _ _ _ _ _ _ _ _ _ _ _ _ _ _ _ _ _ _ _ _ _ _ _ _ _ _ _ _ _ _ _ _ _ _ _ _ _ _ _ _ _ _ _ _)
   | (with_reducible exact ih1 _ _ _ _ _ _ _ _ _ _ _ _ _ _ _ _ _ _ _ _ _ _ _ _ _ _ _ _ _ _ _ _ _ _ _ _ _ _ _ _ _ _ _ _)
   | (with_reducible exact ih2 _ _ _ _ _ _ _ _ _ _ _ _ _ _ _ _ _ _ _ _ _ _ _ _ _ _ _ _ _ _ _ _ _ _ _ _ _ _ _ _ _ _ _ _ _ _ _ _ _ _ _)
   | (with_reducible exact ih3 _ _ _ _ _ _ _ _ _ _ _ _ _ _ _ _ _ _ _ _ _ _ _ _ _ _ _ _ _ _ _ _ _ _ _ _ _ _ _ _ _ _ _ _ _ _ _ _ _ _ _)
   | (with_reducible apply periluneref23_fits.mono)
   | (with_reducible exact LeO.refl _)
   | (with_reducible exact LeO.none _)
   | (with_reducible refine LeO.ite ?_ ?_)
   | (with_reducible refine LeO.bind ?_ (fun _ => ?_))
   | exact ih0 _ _ _ _ _ _ _ _ _ _ _ _ _ _ _ _ _ _ _ _ _ _ _ _ _ _ _ _ _ _ _ _ _ _ _ _ _ _ _ _ _ _ _ _
   | exact ih1 _ _ _ _ _ _ _ _ _ _ _ _ _ _ _ _ _ _ _ _ _ _ _ _ _ _ _ _ _ _ _ _ _ _ _ _ _ _ _ _ _ _ _ _
   | exact ih2 _ _ _ _ _ _ _ _ _ _ _ _ _ _ _ _ _ _ _ _ _ _ _ _ _ _ _ _ _ _ _ _ _ _ _ _ _ _ _ _ _ _ _ _ _ _ _ _ _ _ _
   | exact ih3 _ _ _ _ _ _ _ _ _ _ _ _ _ _ _ _ _ _ _ _ _ _ _ _ _ _ _ _ _ _ _ _ _ _ _ _ _ _ _ _ _ _ _ _ _ _ _ _ _ _ _
   | apply periluneref23_fits.mono
   | exact LeO.none _
   | refine LeO.ite ?_ ?_
   | refine LeO.bind ?_ (fun _ => ?_)
  ·intro y0 y1 y2 y3 y4 y5 y6 y7 y8 y9 y10 y11 y12 y13 y14 y15 y16 y17 y18 y19 y20 y21 y22 y23 y24 y25 y26 y27 y28 y29 y30 y31 y32 y33 y34 y35 y36 y37 y38 y39 y40 y41 y42 y43 y44 y45 y46 y47 y48 y49 y50
   unfold periluneref23_Valid.j2
   repeat' first
   | (with_reducible exact ih0 _ _ _ _ _ _ _ _ _ _ _ _ _ _ _ _ _ _ _ _ _ _ _ _ _ _ _ _ _ _ _ _ _ _ _ _ _ _ _ _ _ _ _ _)
   | (with_reducible exact ih1 _ _ _ _ _ _ _ _ _ _ _ _ _ _ _ _ _ _ _ _ _ _ _ _ _ _ _ _ _ _ _ _ _ _ _ _ _ _ _ _ _ _ _ _)
   | (with_reducible exact ih2 _ _ _ _ _ _ _ _ _ _ _ _ _ _ _ _ _ _ _ _ _ _ _ _ _ _ _ _ _ _ _ _ _ _ _ _ _ _ _ _ _ _ _ _ _ _ _ _ _ _ _)
   | (with_reducible exact ih3 _ _ _ _ _ _ _ _ _ _ _ _ _ _ _ _ _ _ _ _ _ _ _ _ _ _ _ _ _ _ _ _ _ _ _ _ _ _ _ _ _ _ _ _ _ _ _ _ _ _ _)
   | (with_reducible apply periluneref23_fits.mono)
   | (with_reducible exact LeO.refl _)
   | (with_reducible exact LeO.none _)
   | (with_reducible refine LeO.ite ?_ ?_)
   | (with_reducible refine LeO.bind ?_ (fun _ => ?_))
   | exact ih0 _ _ _ _ _ _ _ _ _ _ _ _ _ _ _ _ _ _ _ _ _ _ _ _ _ _ _ _ _ _ _ _ _ _ _ _ _ _ _ _ _ _ _ _
   | exact ih1 _ _ _ _ _ _ _ _ _ _ _ _ _ _ _ _ _ _ _ _ _ _ _ _ _ _ _ _ _ _ _ _ _ _ _ _ _ _ _ _ _ _ _ _
   | exact ih2 _ _ _ _ _ _ _ _ _ _ _ _ _ _ _ _ _ _ _ _ _ _ _ _ _ _ _ _ _ _ _ _ _ _ _ _ _ _ _ _ _ _ _ _ _ _ _ _ _ _ _
   | exact ih3 _ _ _ _ _ _ _ _ _ _ _ _ _ _ _ _ _ _ _ _ _ _ _ _ _ _ _ _ _ _ _ _ _ _ _ _ _ _ _ _ _ _ _ _ _ _ _ _ _ _ _
   | apply periluneref23_fits.mono
   | exact LeO.none _
   | refine LeO.ite ?_ ?_
   | refine LeO.bind ?_ (fun _ => ?_)
  ·intro y0 y1 y2 y3 y4 y5 y6 y7 y8 y9 y10 y11 y12 y13 y14 y15 y16 y17 y18 y19 y20 y21 y22 y23 y24 y25 y26 y27 y28 y29 y30 y31 y32 y33 y34 y35 y36 y37 y38 y39 y40 y41 y42 y43 y44 y45 y46 y47 y48 y49 y50
   unfold periluneref23_Valid.l1
   repeat' first
   | (with_reducible exact ih0 _ _ _ _ _ _ _ _ _ _ _ _ _ _ _ _ _ _ _ _ _ _ _ _ _ _ _ _ _ _ _ _ _ _ _ _ _ _ _ _ _ _ _ _)
   | (with_reducible exact ih1 _ _ _ _ _ _ _ _ _ _ _ _ _ _ _ _ _ _ _ _ _ _ _ _ _ _ _ _ _ _ _ _ _ _ _ _ _ _ _ _ _ _ _ _)
   | (with_reducible exact ih2 _ _ _ _ _ _ _ _ _ _ _ _ _ _ _ _ _ _ _ _ _ _ _ _ _ _ _ _ _ _ _ _ _ _ _ _ _ _ _ _ _ _ _ _ _ _ _ _ _ _ _)
   | (with_reducible exact ih3 _ _ _ _ _ _ _ _ _ _ _ _ _ _ _ _ _ _ _ _ _ _ _ _ _ _ _ _ _ _ _ _ _ _ _ _ _ _ _ _ _ _ _ _ _ _ _ _ _ _ _)
   | (with_reducible apply periluneref23_fits.mono)
   | (with_reducible exact LeO.refl _)
   | (with_reducible exact LeO.none _)
   | (with_reducible refine LeO.ite ?_ ?_)
   | (with_reducible refine LeO.bind ?_ (fun _ => ?_))
   | exact ih0 _ _ _ _ _ _ _ _ _ _ _ _ _ _ _ _ _ _ _ _ _ _ _ _ _ _ _ _ _ _ _ _ _ _ _ _ _ _ _ _ _ _ _ _
   | exact ih1 _ _ _ _ _ _ _ _ _ _ _ _ _ _ _ _ _ _ _ _ _ _ _ _ _ _ _ _ _ _ _ _ _ _ _ _ _ _ _ _ _ _ _ _
   | exact ih2 _ _ _ _ _ _ _ _ _ _ _ _ _ _ _ _ _ _ _ _ _ _ _ _ _ _ _ _ _ _ _ _ _ _ _ _ _ _ _ _ _ _ _ _ _ _ _ _ _ _ _
   | exact ih3 _ _ _ _ _ _ _ _ _ _ _ _ _ _ _ _ _ _ _ _ _ _ _ _ _ _ _ _ _ _ _ _ _ _ _ _ _ _ _ _ _ _ _ _ _ _ _ _ _ _ _
   | apply periluneref23_fits.mono
   | exact LeO.none _
   | refine LeO.ite ?_ ?_
   | refine LeO.bind ?_ (fun _ => ?_)
theorem periluneref23_Valid.mono : ∀ a0 a1 a2 a3 a4 a5 a6 a7 a8 a9 a10 a11 a12 a13 a14 a15 a16 a17 a18 a19 a20 a21 a22 a23 a24 a25 a26 a27 a28 a29 a30 a31 a32 a33 a34 a35 a36 a37 a38 a39 a40 a41 a42 k, LeO (periluneref23_Valid.f k a0 a1 a2 a3 a4 a5 a6 a7 a8 a9 a10 a11 a12 a13 a14 a15 a16 a17 a18 a19 a20 a21 a22 a23 a24 a25 a26 a27 a28 a29 a30 a31 a32 a33 a34 a35 a36 a37 a38 a39 a40 a41 a42) (periluneref23_Valid.f (k + 1) a0 a1 a2 a3 a4 a5 a6 a7 a8 a9 a10 a11 a12 a13 a14 a15 a16 a17 a18 a19 a20 a21 a22 a23 a24 a25 a26 a27 a28 a29 a30 a31 a32 a33 a34 a35 a36 a37 a38 a39 a40 a41 a42) := by
 intro a0 a1 a2 a3 a4 a5 a6 a7 a8 a9 a10 a11 a12 a13 a14 a15 a16 a17 a18 a19 a20 a21 a22 a23 a24 a25 a26 a27 a28 a29 a30 a31 a32 a33 a34 a35 a36 a37 a38 a39 a40 a41 a42 k
 obtain ⟨ih0, ih1, ih2, ih3⟩ := periluneref23_Valid.mono_l k
 unfold periluneref23_Valid.f
 repeat' first
   | (with_reducible exact ih0 _ _ _ _ _ _ _ _ _ _ _ _ _ _ _ _ _ _ _ _ _ _ _ _ _ _ _ _ _ _ _ _ _ _ _ _ _ _ _ _ _ _ _ _)
   | (with_reducible exact ih1 _ _ _ _ _ _ _ _ _ _ _ _ _ _ _ _ _ _ _ _ _ _ _ _ _ _ _ _ _ _ _ _ _ _ _ _ _ _ _ _ _ _ _ _)
   | (with_reducible exact ih2 _ _ _ _ _ _ _ _ _ _ _ _ _ _ _ _ _ _ _ _ _ _ _ _ _ _ _ _ _ _ _ _ _ _ _ _ _ _ _ _ _ _ _ _ _ _ _ _ _ _ _)
   | (with_reducible exact ih3 _ _ _ _ _ _ _ _ _ _ _ _ _ _ _ _ _ _ _ _ _ _ _ _ _ _ _ _ _ _ _ _ _ _ _ _ _ _ _ _ _ _ _ _ _ _ _ _ _ _ _)
   | (with_reducible apply periluneref23_fits.mono)
   | (with_reducible exact LeO.refl _)
   | (with_reducible exact LeO.none _)
   | (with_reducible refine LeO.ite ?_ ?_)
   | (with_reducible refine LeO.bind ?_ (fun _ => ?_))
   | exact ih0 _ _ _ _ _ _ _ _ _ _ _ _ _ _ _ _ _ _ _ _ _ _ _ _ _ _ _ _ _ _ _ _ _ _ _ _ _ _ _ _ _ _ _ _
   | exact ih1 _ _ _ _ _ _ _ _ _ _ _ _ _ _ _ _ _ _ _ _ _ _ _ _ _ _ _ _ _ _ _ _ _ _ _ _ _ _ _ _ _ _ _ _
   | exact ih2 _ _ _ _ _ _ _ _ _ _ _ _ _ _ _ _ _ _ _ _ _ _ _ _ _ _ _ _ _ _ _ _ _ _ _ _ _ _ _ _ _ _ _ _ _ _ _ _ _ _ _
   | exact ih3 _ _ _ _ _ _ _ _ _ _ _ _ _ _ _ _ _ _ _ _ _ _ _ _ _ _ _ _ _ _ _ _ _ _ _ _ _ _ _ _ _ _ _ _ _ _ _ _ _ _ _
   | apply periluneref23_fits.mono
   | exact LeO.none _
   | refine LeO.ite ?_ ?_
   | refine LeO.bind ?_ (fun _ => ?_)
set_option maxHeartbeats 8000000 in
set_option maxRecDepth 100000 in
theorem periluneref23_Valid.calls (k : Nat) (aR : Bool) (aN : Int) (aU : Int) (aO : Int) (aX : Bool) (aV : Int) (aS : Bool) (aP : Int) (aW : Int) (aQ : Int) (aH : Bool) (aw : Int) (ap : Bool) (af : Int) (ax : Int) (ag : Int) (aI : Bool) (ay : Int) (aq : Bool) (ah : Int) (az : Int) (ai : Int) (aJ : Bool) (aA : Int) (ar : Bool) (aj : Int) (aB : Int) (ak : Int) (aK : Bool) (aC : Int) (au : Bool) (al : Int) (aD : Int) (am : Int) (aL : Bool) (aE : Int) (av : Bool) (an : Int) (aF : Int) (ao : Int) (aM : Bool) (aG : Int) (ba : Int) (r : Bool) (w : World) (h : periluneref23_Valid.f k aR aN aU aO aX aV aS aP aW aQ aH aw ap af ax ag aI ay aq ah az ai aJ aA ar aj aB ak aK aC au al aD am aL aE av an aF ao aM aG ba = some r) :
  Calls Try.prog 14 #[.agg #[.bool aR, .int .i64 aN, .int .i64 aU, .int .i64 aO, .bool aX, .int .i64 aV, .bool aS, .int .i64 aP, .int .i64 aW, .int .i64 aQ, .bool aH, .int .i64 aw, .bool ap, .int .i64 af, .int .i64 ax, .int .i64 ag, .bool aI, .int .i64 ay, .bool aq, .int .i64 ah, .int .i64 az, .int .i64 ai, .bool aJ, .int .i64 aA, .bool ar, .int .i64 aj, .int .i64 aB, .int .i64 ak, .bool aK, .int .i64 aC, .bool au, .int .i64 al, .int .i64 aD, .int .i64 am, .bool aL, .int .i64 aE, .bool av, .int .i64 an, .int .i64 aF, .int .i64 ao, .bool aM, .int .i64 aG, .int .i64 ba]] w fun e w' => e = .returned (.bool r) ∧ Below w.heap.size w w' := by
 have hu27 := Try.underlying27
 have hu25 := Try.underlying25
 have hu24 := Try.underlying24
 have HB := Aside0.mk (Below.refl w.heap.size w)
 have H := h
 unfold periluneref23_Valid.f at H
 clear h
 have HC2 := Aside0.mk H
 clear H
 go_enter Try.func14, Try.ntmps14
 go_upto_region 1 with (first | ((with_reducible refine gate_dst (N := 1) rfl ?_); refine box_event ?hg (N := 1) ?hd (cs := Jt aR aN aU aO aX aV aS aP aW aQ aH aw ap af ax ag aI ay aq ah az ai aJ aA ar aj aB ak aK aC au al aD am aL aE av an aF ao aM aG ba) (t := 27) ?hr ?_; (case hd => rfl); (case hg => rfl); (case hr => first | (go_simp; done) | (go_simp; rfl)); intro ac hg w3 hbox hb; have aa := Aside0.mk hbox; have GW285 := zhs HB hg; have bb := zhs HB hg; replace HB := zhB HB hb; clear hb hbox hg))
 (try simp only [Act.put, List.setIfInBounds_toArray, List.set_cons_zero, List.set_cons_succ])
 go_cut [14] (fun v14 wc => ∃ (kq : Nat) (fg : Bool), v14 = .bool fg ∧ Aside0 (periluneref23_Valid.j0 kq fg aR aN aU aO aX aV aS aP aW aQ aH aw ap af ax ag aI ay aq ah az ai aJ aA ar aj aB ak aK aC au al aD am aL aE av an aF ao aM aG ba = some r) ∧ Aside0 (kq ≤ k) ∧ Aside0 (wc.heap[ac]? = some (.cells (Jt aR aN aU aO aX aV aS aP aW aQ aH aw ap af ax ag aI ay aq ah az ai aJ aA ar aj aB ak aK aC au al aD am aL aE av an aF ao aM aG ba) 27 (0, 0))) ∧ Aside0 (Below w.heap.size w wc))
 case first =>
  have H := HC2.out
  clear HC2
  by_cases c4 : ba < 0
  ·rw [if_pos c4] at H
   have c4b0 : decide (ba < 0) = true := decide_eq_true c4
   clear c4
   (first | rw [c4b0] | (simp only [i64_w, i32_w]; rw [c4b0]) | rw [c4b1] | skip)
   have H' := Aside0.mk H
   clear H
   have eB : w3.cell? ⟨ac, 0, none⟩ = some (.bool aR) := (blk_cell aa.out 0).trans rfl
   have eC : w3.cell? ⟨ac, 1, none⟩ = some (.int .i64 aN) := (blk_cell aa.out 1).trans rfl
   have eD : w3.cell? ⟨ac, 2, none⟩ = some (.int .i64 aU) := (blk_cell aa.out 2).trans rfl
   have eE : w3.cell? ⟨ac, 3, none⟩ = some (.int .i64 aO) := (blk_cell aa.out 3).trans rfl
   have eF : w3.cell? ⟨ac, 4, none⟩ = some (.bool aX) := (blk_cell aa.out 4).trans rfl
   have eG : w3.cell? ⟨ac, 5, none⟩ = some (.int .i64 aV) := (blk_cell aa.out 5).trans rfl
   have eH : w3.cell? ⟨ac, 6, none⟩ = some (.bool aS) := (blk_cell aa.out 6).trans rfl
   have eI : w3.cell? ⟨ac, 7, none⟩ = some (.int .i64 aP) := (blk_cell aa.out 7).trans rfl
   have eJ : w3.cell? ⟨ac, 8, none⟩ = some (.int .i64 aW) := (blk_cell aa.out 8).trans rfl
   have eK : w3.cell? ⟨ac, 9, none⟩ = some (.int .i64 aQ) := (blk_cell aa.out 9).trans rfl
   have ck : w3.cell? ⟨ac, 10, none⟩ = some (.bool aH) := (blk_cell aa.out 10).trans rfl
   have cl : w3.cell? ⟨ac, 11, none⟩ = some (.int .i64 aw) := (blk_cell aa.out 11).trans rfl
   have cm : w3.cell? ⟨ac, 12, none⟩ = some (.bool ap) := (blk_cell aa.out 12).trans rfl
   have cn : w3.cell? ⟨ac, 13, none⟩ = some (.int .i64 af) := (blk_cell aa.out 13).trans rfl
   have co : w3.cell? ⟨ac, 14, none⟩ = some (.int .i64 ax) := (blk_cell aa.out 14).trans rfl
   have cp : w3.cell? ⟨ac, 15, none⟩ = some (.int .i64 ag) := (blk_cell aa.out 15).trans rfl
   have cq : w3.cell? ⟨ac, 16, none⟩ = some (.bool aI) := (blk_cell aa.out 16).trans rfl
   have cr : w3.cell? ⟨ac, 17, none⟩ = some (.int .i64 ay) := (blk_cell aa.out 17).trans rfl
   have ct : w3.cell? ⟨ac, 18, none⟩ = some (.bool aq) := (blk_cell aa.out 18).trans rfl
   have cu : w3.cell? ⟨ac, 19, none⟩ = some (.int .i64 ah) := (blk_cell aa.out 19).trans rfl
   have cv : w3.cell? ⟨ac, 20, none⟩ = some (.int .i64 az) := (blk_cell aa.out 20).trans rfl
   have cw : w3.cell? ⟨ac, 21, none⟩ = some (.int .i64 ai) := (blk_cell aa.out 21).trans rfl
   have cx : w3.cell? ⟨ac, 22, none⟩ = some (.bool aJ) := (blk_cell aa.out 22).trans rfl
   have cy : w3.cell? ⟨ac, 23, none⟩ = some (.int .i64 aA) := (blk_cell aa.out 23).trans rfl
   have cz : w3.cell? ⟨ac, 24, none⟩ = some (.bool ar) := (blk_cell aa.out 24).trans rfl
   have cA : w3.cell? ⟨ac, 25, none⟩ = some (.int .i64 aj) := (blk_cell aa.out 25).trans rfl
   have cB : w3.cell? ⟨ac, 26, none⟩ = some (.int .i64 aB) := (blk_cell aa.out 26).trans rfl
   have cC : w3.cell? ⟨ac, 27, none⟩ = some (.int .i64 ak) := (blk_cell aa.out 27).trans rfl
   have cD : w3.cell? ⟨ac, 28, none⟩ = some (.bool aK) := (blk_cell aa.out 28).trans rfl
   have cE : w3.cell? ⟨ac, 29, none⟩ = some (.int .i64 aC) := (blk_cell aa.out 29).trans rfl
   have cF : w3.cell? ⟨ac, 30, none⟩ = some (.bool au) := (blk_cell aa.out 30).trans rfl
   have cG : w3.cell? ⟨ac, 31, none⟩ = some (.int .i64 al) := (blk_cell aa.out 31).trans rfl
   have cH : w3.cell? ⟨ac, 32, none⟩ = some (.int .i64 aD) := (blk_cell aa.out 32).trans rfl
   have cI : w3.cell? ⟨ac, 33, none⟩ = some (.int .i64 am) := (blk_cell aa.out 33).trans rfl
   have cJ : w3.cell? ⟨ac, 34, none⟩ = some (.bool aL) := (blk_cell aa.out 34).trans rfl
   have cK : w3.cell? ⟨ac, 35, none⟩ = some (.int .i64 aE) := (blk_cell aa.out 35).trans rfl
   have cL : w3.cell? ⟨ac, 36, none⟩ = some (.bool av) := (blk_cell aa.out 36).trans rfl
   have cM : w3.cell? ⟨ac, 37, none⟩ = some (.int .i64 an) := (blk_cell aa.out 37).trans rfl
   have cN : w3.cell? ⟨ac, 38, none⟩ = some (.int .i64 aF) := (blk_cell aa.out 38).trans rfl
   have cO : w3.cell? ⟨ac, 39, none⟩ = some (.int .i64 ao) := (blk_cell aa.out 39).trans rfl
   have cP : w3.cell? ⟨ac, 40, none⟩ = some (.bool aM) := (blk_cell aa.out 40).trans rfl
   have cQ : w3.cell? ⟨ac, 41, none⟩ = some (.int .i64 aG) := (blk_cell aa.out 41).trans rfl
   have cR : w3.cell? ⟨ac, 42, none⟩ = some (.int .i64 ba) := (blk_cell aa.out 42).trans rfl
   have eL := blk_frozen aa.out 0
   have eM := blk_frozen aa.out 1
   have eN := blk_frozen aa.out 2
   have eO := blk_frozen aa.out 3
   have eP := blk_frozen aa.out 4
   have eQ := blk_frozen aa.out 5
   have eR := blk_frozen aa.out 6
   have eS := blk_frozen aa.out 7
   have eT := blk_frozen aa.out 8
   have eU := blk_frozen aa.out 9
   have cS := blk_frozen aa.out 10
   have cT := blk_frozen aa.out 11
   have cU := blk_frozen aa.out 12
   have cV := blk_frozen aa.out 13
   have cW := blk_frozen aa.out 14
   have cX := blk_frozen aa.out 15
   have cY := blk_frozen aa.out 16
   have cZ := blk_frozen aa.out 17
   have c0 := blk_frozen aa.out 18
   have c3 := blk_frozen aa.out 19
   have c5 := blk_frozen aa.out 20
   have c6 := blk_frozen aa.out 21
   have da := blk_frozen aa.out 22
   have db := blk_frozen aa.out 23
   have dc := blk_frozen aa.out 24
   have dd := blk_frozen aa.out 25
   have de := blk_frozen aa.out 26
   have df := blk_frozen aa.out 27
   have dg := blk_frozen aa.out 28
   have dh := blk_frozen aa.out 29
   have di := blk_frozen aa.out 30
   have dj := blk_frozen aa.out 31
   have dk := blk_frozen aa.out 32
   have dl := blk_frozen aa.out 33
   have dm := blk_frozen aa.out 34
   have dn := blk_frozen aa.out 35
   have dp := blk_frozen aa.out 36
   have dq := blk_frozen aa.out 37
   have dr := blk_frozen aa.out 38
   have ds := blk_frozen aa.out 39
   have dt := blk_frozen aa.out 40
   have du := blk_frozen aa.out 41
   have dv := blk_frozen aa.out 42
   go_wp2
   go_meet
   case rel => exact ⟨_, (true), (by first | rfl | (simp; done) | (simp [*]; done)), H', ⟨by first | omega | exact Nat.le_refl _⟩, ⟨by (with_reducible repeat (first | refine blk_drewN ?_ _ | refine blk_drew ?_ | refine blk_alloc ?_ _)); exact aa.out⟩, ⟨zho HB⟩⟩
  ·rw [if_neg c4] at H
   have c4b0 : decide (ba < 0) = false := decide_eq_false c4
   clear c4
   (first | rw [c4b0] | (simp only [i64_w, i32_w]; rw [c4b0]) | rw [c4b1] | skip)
   have H' := Aside0.mk H
   clear H
   have eV : w3.cell? ⟨ac, 0, none⟩ = some (.bool aR) := (blk_cell aa.out 0).trans rfl
   have eW : w3.cell? ⟨ac, 1, none⟩ = some (.int .i64 aN) := (blk_cell aa.out 1).trans rfl
   have eX : w3.cell? ⟨ac, 2, none⟩ = some (.int .i64 aU) := (blk_cell aa.out 2).trans rfl
   have eY : w3.cell? ⟨ac, 3, none⟩ = some (.int .i64 aO) := (blk_cell aa.out 3).trans rfl
   have eZ : w3.cell? ⟨ac, 4, none⟩ = some (.bool aX) := (blk_cell aa.out 4).trans rfl
   have e0 : w3.cell? ⟨ac, 5, none⟩ = some (.int .i64 aV) := (blk_cell aa.out 5).trans rfl
   have e1 : w3.cell? ⟨ac, 6, none⟩ = some (.bool aS) := (blk_cell aa.out 6).trans rfl
   have e2 : w3.cell? ⟨ac, 7, none⟩ = some (.int .i64 aP) := (blk_cell aa.out 7).trans rfl
   have e3 : w3.cell? ⟨ac, 8, none⟩ = some (.int .i64 aW) := (blk_cell aa.out 8).trans rfl
   have e4 : w3.cell? ⟨ac, 9, none⟩ = some (.int .i64 aQ) := (blk_cell aa.out 9).trans rfl
   have dw : w3.cell? ⟨ac, 10, none⟩ = some (.bool aH) := (blk_cell aa.out 10).trans rfl
   have dx : w3.cell? ⟨ac, 11, none⟩ = some (.int .i64 aw) := (blk_cell aa.out 11).trans rfl
   have dy : w3.cell? ⟨ac, 12, none⟩ = some (.bool ap) := (blk_cell aa.out 12).trans rfl
   have dz : w3.cell? ⟨ac, 13, none⟩ = some (.int .i64 af) := (blk_cell aa.out 13).trans rfl
   have dA : w3.cell? ⟨ac, 14, none⟩ = some (.int .i64 ax) := (blk_cell aa.out 14).trans rfl
   have dB : w3.cell? ⟨ac, 15, none⟩ = some (.int .i64 ag) := (blk_cell aa.out 15).trans rfl
   have dC : w3.cell? ⟨ac, 16, none⟩ = some (.bool aI) := (blk_cell aa.out 16).trans rfl
   have dD : w3.cell? ⟨ac, 17, none⟩ = some (.int .i64 ay) := (blk_cell aa.out 17).trans rfl
   have dE : w3.cell? ⟨ac, 18, none⟩ = some (.bool aq) := (blk_cell aa.out 18).trans rfl
   have dF : w3.cell? ⟨ac, 19, none⟩ = some (.int .i64 ah) := (blk_cell aa.out 19).trans rfl
   have dG : w3.cell? ⟨ac, 20, none⟩ = some (.int .i64 az) := (blk_cell aa.out 20).trans rfl
   have dH : w3.cell? ⟨ac, 21, none⟩ = some (.int .i64 ai) := (blk_cell aa.out 21).trans rfl
   have dI : w3.cell? ⟨ac, 22, none⟩ = some (.bool aJ) := (blk_cell aa.out 22).trans rfl
   have dJ : w3.cell? ⟨ac, 23, none⟩ = some (.int .i64 aA) := (blk_cell aa.out 23).trans rfl
   have dK : w3.cell? ⟨ac, 24, none⟩ = some (.bool ar) := (blk_cell aa.out 24).trans rfl
   have dL : w3.cell? ⟨ac, 25, none⟩ = some (.int .i64 aj) := (blk_cell aa.out 25).trans rfl
   have dM : w3.cell? ⟨ac, 26, none⟩ = some (.int .i64 aB) := (blk_cell aa.out 26).trans rfl
   have dN : w3.cell? ⟨ac, 27, none⟩ = some (.int .i64 ak) := (blk_cell aa.out 27).trans rfl
   have dO : w3.cell? ⟨ac, 28, none⟩ = some (.bool aK) := (blk_cell aa.out 28).trans rfl
   have dP : w3.cell? ⟨ac, 29, none⟩ = some (.int .i64 aC) := (blk_cell aa.out 29).trans rfl
   have dQ : w3.cell? ⟨ac, 30, none⟩ = some (.bool au) := (blk_cell aa.out 30).trans rfl
   have dR : w3.cell? ⟨ac, 31, none⟩ = some (.int .i64 al) := (blk_cell aa.out 31).trans rfl
   have dS : w3.cell? ⟨ac, 32, none⟩ = some (.int .i64 aD) := (blk_cell aa.out 32).trans rfl
   have dT : w3.cell? ⟨ac, 33, none⟩ = some (.int .i64 am) := (blk_cell aa.out 33).trans rfl
   have dU : w3.cell? ⟨ac, 34, none⟩ = some (.bool aL) := (blk_cell aa.out 34).trans rfl
   have dV : w3.cell? ⟨ac, 35, none⟩ = some (.int .i64 aE) := (blk_cell aa.out 35).trans rfl
   have dW : w3.cell? ⟨ac, 36, none⟩ = some (.bool av) := (blk_cell aa.out 36).trans rfl
   have dX : w3.cell? ⟨ac, 37, none⟩ = some (.int .i64 an) := (blk_cell aa.out 37).trans rfl
   have dY : w3.cell? ⟨ac, 38, none⟩ = some (.int .i64 aF) := (blk_cell aa.out 38).trans rfl
   have dZ : w3.cell? ⟨ac, 39, none⟩ = some (.int .i64 ao) := (blk_cell aa.out 39).trans rfl
   have d0 : w3.cell? ⟨ac, 40, none⟩ = some (.bool aM) := (blk_cell aa.out 40).trans rfl
   have d1 : w3.cell? ⟨ac, 41, none⟩ = some (.int .i64 aG) := (blk_cell aa.out 41).trans rfl
   have d2 : w3.cell? ⟨ac, 42, none⟩ = some (.int .i64 ba) := (blk_cell aa.out 42).trans rfl
   have e5 := blk_frozen aa.out 0
   have e6 := blk_frozen aa.out 1
   have e7 := blk_frozen aa.out 2
   have e8 := blk_frozen aa.out 3
   have e9 := blk_frozen aa.out 4
   have fa := blk_frozen aa.out 5
   have fb := blk_frozen aa.out 6
   have fc := blk_frozen aa.out 7
   have fd := blk_frozen aa.out 8
   have fe := blk_frozen aa.out 9
   have d3 := blk_frozen aa.out 10
   have d4 := blk_frozen aa.out 11
   have d5 := blk_frozen aa.out 12
   have d6 := blk_frozen aa.out 13
   have d7 := blk_frozen aa.out 14
   have d8 := blk_frozen aa.out 15
   have d9 := blk_frozen aa.out 16
   have ea := blk_frozen aa.out 17
   have eb := blk_frozen aa.out 18
   have ec := blk_frozen aa.out 19
   have ed := blk_frozen aa.out 20
   have ee := blk_frozen aa.out 21
   have ef := blk_frozen aa.out 22
   have eg := blk_frozen aa.out 23
   have eh := blk_frozen aa.out 24
   have ei := blk_frozen aa.out 25
   have ej := blk_frozen aa.out 26
   have ek := blk_frozen aa.out 27
   have el := blk_frozen aa.out 28
   have em := blk_frozen aa.out 29
   have en := blk_frozen aa.out 30
   have eo := blk_frozen aa.out 31
   have ep := blk_frozen aa.out 32
   have er := blk_frozen aa.out 33
   have es := blk_frozen aa.out 34
   have et := blk_frozen aa.out 35
   have eu := blk_frozen aa.out 36
   have ev := blk_frozen aa.out 37
   have ew := blk_frozen aa.out 38
   have ex := blk_frozen aa.out 39
   have ey := blk_frozen aa.out 40
   have ez := blk_frozen aa.out 41
   have eA := blk_frozen aa.out 42
   go_wp2
   go_meet
   case rel => exact ⟨_, (decide (ba > 1073741824)), (by first | rfl | (simp; done) | (simp [*]; done)), H', ⟨by first | omega | exact Nat.le_refl _⟩, ⟨by (with_reducible repeat (first | refine blk_drewN ?_ _ | refine blk_drew ?_ | refine blk_alloc ?_ _)); exact aa.out⟩, ⟨zho HB⟩⟩
 case rest =>
  clear HC2
  try clear c1 p2 c4 c4b0 c4b1 eB eC ck cl cm cn co cp cq cr ct cu eD cv cw cx cy cz cA cB cC cD cE eE cF cG cH cI cJ cK cL cM cN cO eF cP cQ cR eG eH eI eJ eK eV eW dw dx dy dz dA dB dC dD dE dF eX dG dH dI dJ dK dL dM dN dO dP eY dQ dR dS dT dU dV dW dX dY dZ eZ d0 d1 d2 e0 e1 e2 e3 e4 eL eM cS cT cU cV cW cX cY cZ c0 c3 eN c5 c6 da db dc dd de df dg dh eO di dj dk dl dm dn dp dq dr ds eP dt du dv eQ eR eS eT eU e5 e6 d3 d4 d5 d6 d7 d8 d9 ea eb ec e7 ed ee ef eg eh ei ej ek el em e8 en eo ep er es et eu ev ew ex e9 ey ez eA fa fb fc fd fe
  obtain ⟨kq, fg, rfl, HA, HJ1, aa, HB⟩ := hcut
  cases kq with
  | zero => exact absurd HA.out (by simp [periluneref23_Valid.j0])
  | succ kj1 =>
   have H := HA.out
   clear HA
   simp only [periluneref23_Valid.j0] at H
   by_cases c7 : fg = true
   ·subst c7
    have H1 : (some false) = some r := by rw [if_pos rfl] at H; exact H
    clear H
    have H := H1
    clear H1
    obtain rfl := Option.some.inj H
    go_wp2
    go_ret
    exact ⟨by first | rfl | (simp [errW_none, errW_some] <;> rfl) | (simp [*, errW_none, errW_some] <;> rfl), zho HB⟩
   ·replace c7 := Bool.eq_false_iff.mpr c7
    subst c7
    have H1 : (periluneref23_Valid.l0 kj1 0 aR aN aU aO aX aV aS aP aW aQ aH aw ap af ax ag aI ay aq ah az ai aJ aA ar aj aB ak aK aC au al aD am aL aE av an aF ao aM aG ba) = some r := by rw [if_neg (show ¬ (false = true) by decide)] at H; exact H
    clear H
    have H := H1
    clear H1
    have H' := Aside0.mk H
    clear H
    go_wp2
    go_loopg [3] kj1 (fun kq v3 w' => ∃ (ab : Int), v3 = .int .i64 ab ∧ Aside0 (periluneref23_Valid.l0 kq ab aR aN aU aO aX aV aS aP aW aQ aH aw ap af ax ag aI ay aq ah az ai aJ aA ar aj aB ak aK aC au al aD am aL aE av an aF ao aM aG ba = some r) ∧ Aside0 (kq ≤ kj1) ∧ Aside0 (w'.heap[ac]? = some (.cells (Jt aR aN aU aO aX aV aS aP aW aQ aH aw ap af ax ag aI ay aq ah az ai aJ aA ar aj aB ak aK aC au al aD am aL aE av an aF ao aM aG ba) 27 (0, 0))) ∧ Aside0 (Below w.heap.size w w'))
    case atStart => exact ⟨(0), (by first | rfl | (simp; done) | (simp [*]; done)), H', ⟨Nat.le_refl _⟩, ⟨by (with_reducible repeat (first | refine blk_drewN ?_ _ | refine blk_drew ?_ | refine blk_alloc ?_ _)); exact aa.out⟩, ⟨zho HB⟩⟩
    case round =>
     clear H'
     try clear c1 p2 c4 c4b0 c4b1 c7 eB eC ck cl cm cn co cp cq cr ct cu eD cv cw cx cy cz cA cB cC cD cE eE cF cG cH cI cJ cK cL cM cN cO eF cP cQ cR eG eH eI eJ eK eV eW dw dx dy dz dA dB dC dD dE dF eX dG dH dI dJ dK dL dM dN dO dP eY dQ dR dS dT dU dV dW dX dY dZ eZ d0 d1 d2 e0 e1 e2 e3 e4 eL eM cS cT cU cV cW cX cY cZ c0 c3 eN c5 c6 da db dc dd de df dg dh eO di dj dk dl dm dn dp dq dr ds eP dt du dv eQ eR eS eT eU e5 e6 d3 d4 d5 d6 d7 d8 d9 ea eb ec e7 ed ee ef eg eh ei ej ek el em e8 en eo ep er es et eu ev ew ex e9 ey ez eA fa fb fc fd fe p2
     obtain ⟨ab, rfl, HA, HK2, aa, HB⟩ := hrel
     cases gk with
     | zero => exact absurd HA.out (by simp [periluneref23_Valid.l0])
     | succ k2 =>
      have H := HA.out
      clear HA
      simp only [periluneref23_Valid.l0] at H
      by_cases c8 : ab < 7
      ·rw [if_pos c8] at H
       have c8b0 : decide (ab < 7) = true := decide_eq_true c8
       clear c8
       by_cases c9 : 0 ≤ ab
       ·rw [if_pos c9] at H
        have c9b0 : decide (0 ≤ ab) = true := decide_eq_true c9
        clear c9
        by_cases c10 : pk7 aR aS ap aq ar au av ab = true
        ·rw [if_pos c10] at H
         have c10b0 : pk7 aR aS ap aq ar au av ab = true := c10
         clear c10
         have HC11 := Aside0.mk H
         clear H
         have vp286 : (0 ≤ (ab : Int)) = True := eq_true (of_decide_eq_true (by first | (with_reducible assumption) | assumption))
         have vq286 : ((ab : Int) < (7 : Int)) = True := eq_true (of_decide_eq_true (by first | (with_reducible assumption) | assumption))
         have ce : wr.cell? ⟨ac, ab.toNat * 6, none⟩ = some (.bool (pk7 aR aS ap aq ar au av ab)) := cellA27_0_0 (ab) (of_decide_eq_true (by first | (with_reducible assumption) | assumption)) (of_decide_eq_true (by first | (with_reducible assumption) | assumption)) aa.out
         have cf : wr.cell? ⟨ac, ab.toNat * 6 + 1, none⟩ = some (.int .i64 (pk7 aN aP af ah aj al an ab)) := cellA27_0_1 (ab) (of_decide_eq_true (by first | (with_reducible assumption) | assumption)) (of_decide_eq_true (by first | (with_reducible assumption) | assumption)) aa.out
         have cg : wr.cell? ⟨ac, ab.toNat * 6 + 2, none⟩ = some (.int .i64 (pk7 aU aW ax az aB aD aF ab)) := cellA27_0_2 (ab) (of_decide_eq_true (by first | (with_reducible assumption) | assumption)) (of_decide_eq_true (by first | (with_reducible assumption) | assumption)) aa.out
         have ch : wr.cell? ⟨ac, ab.toNat * 6 + 3, none⟩ = some (.int .i64 (pk7 aO aQ ag ai ak am ao ab)) := cellA27_0_3 (ab) (of_decide_eq_true (by first | (with_reducible assumption) | assumption)) (of_decide_eq_true (by first | (with_reducible assumption) | assumption)) aa.out
         have ci : wr.cell? ⟨ac, ab.toNat * 6 + 4, none⟩ = some (.bool (pk7 aX aH aI aJ aK aL aM ab)) := cellA27_0_4 (ab) (of_decide_eq_true (by first | (with_reducible assumption) | assumption)) (of_decide_eq_true (by first | (with_reducible assumption) | assumption)) aa.out
         have cj : wr.cell? ⟨ac, ab.toNat * 6 + 5, none⟩ = some (.int .i64 (pk7 aV aw ay aA aC aE aG ab)) := cellA27_0_5 (ab) (of_decide_eq_true (by first | (with_reducible assumption) | assumption)) (of_decide_eq_true (by first | (with_reducible assumption) | assumption)) aa.out
         go_upto_region 10 with (first | ((with_reducible refine gate_dst (N := 22) rfl ?_); refine seg_load_cells (t := 24) (p := 21) (g := ac) (off := ab.toNat * 6) (vs := [.bool (pk7 aR aS ap aq ar au av ab), .int .i64 (pk7 aN aP af ah aj al an ab), .int .i64 (pk7 aU aW ax az aB aD aF ab), .int .i64 (pk7 aO aQ ag ai ak am ao ab), .bool (pk7 aX aH aI aJ aK aL aM ab), .int .i64 (pk7 aV aw ay aA aC aE aG ab)]) ?hg ?ho ?hp ?hl Try.underlying24 ?hd ?hi ?_; (case ho => rfl); (case hg => first | rfl | (go_simp; done) | (simp [Region.wanted, yielded, *]; done)); (case hp => rfl); (case hl => exact cells6 ce cf cg ch ci cj); (case hd => rfl); (case hi => kernel_rfl)) | ((with_reducible refine gate_dst (N := 4) rfl ?_); refine box_event ?hg (N := 4) ?hd (cs := #[.bool false, .int .i64 0, .int .i64 0, .int .i64 0, .bool false, .int .i64 0]) (t := 24) ?hr ?_; (case hd => rfl); (case hg => rfl); (case hr => first | (go_simp; done) | (go_simp; rfl)); intro aT hg w12 hbox hb; have ae := Aside0.mk hbox; have i9 := zhs HB hg; have bc := zhs HB hg; have bk := znl aa hg; have bX := zng aa hg; replace aa := zbB aa hb; replace HB := zhB HB hb; clear hb hbox hg) | ((with_reducible refine gate_store (t := 24) (p := 4) rfl ?_); refine seg_event (t := 24) (p := 4) (x := ?xo_w13) (g := aT) (off := 0) (T := 24) (cur := #[.bool false, .int .i64 0, .int .i64 0, .int .i64 0, .bool false, .int .i64 0]) (vs := [.bool (pk7 aR aS ap aq ar au av ab), .int .i64 (pk7 aN aP af ah aj al an ab), .int .i64 (pk7 aU aW ax az aB aD aF ab), .int .i64 (pk7 aO aQ ag ai ak am ao ab), .bool (pk7 aX aH aI aJ aK aL aM ab), .int .i64 (pk7 aV aw ay aA aC aE aG ab)]) (new := #[.bool (pk7 aR aS ap aq ar au av ab), .int .i64 (pk7 aN aP af ah aj al an ab), .int .i64 (pk7 aU aW ax az aB aD aF ab), .int .i64 (pk7 aO aQ ag ai ak am ao ab), .bool (pk7 aX aH aI aJ aK aL aM ab), .int .i64 (pk7 aV aw ay aA aC aE aG ab)]) ?hg ?ho ?hn ?hp ?hv ?hb ?hi ?hf ?h1 ?hw ?_; (case ho => rfl); (case hg => rfl); (case hn => rfl); (case hp => rfl); (case hv => first | rfl | (go_simp; done) | (simp [*]; done)); (case hb => exact ae.out); (case hi => kernel_rfl); (case hf => exact Nat.le_of_ble_eq_true rfl); (case h1 => rfl); (case hw => rfl); intro w13 hbox hg hbl; replace aa := zbG aa hg bk; replace ae := Aside0.mk hbox; replace HB := zhL hbl HB bc; clear hbox hg hbl; have hnb14 := bX.out; have hnc14 := bk.out; have hF : w13.cell? ⟨aT, 0, none⟩ = some (.bool (pk7 aR aS ap aq ar au av ab)) := (blk_cell ae.out 0).trans rfl; have hG : w13.cell? ⟨aT, 1, none⟩ = some (.int .i64 (pk7 aN aP af ah aj al an ab)) := (blk_cell ae.out 1).trans rfl; have hH : w13.cell? ⟨aT, 2, none⟩ = some (.int .i64 (pk7 aU aW ax az aB aD aF ab)) := (blk_cell ae.out 2).trans rfl; have hI : w13.cell? ⟨aT, 3, none⟩ = some (.int .i64 (pk7 aO aQ ag ai ak am ao ab)) := (blk_cell ae.out 3).trans rfl; have hJ : w13.cell? ⟨aT, 4, none⟩ = some (.bool (pk7 aX aH aI aJ aK aL aM ab)) := (blk_cell ae.out 4).trans rfl; have hK : w13.cell? ⟨aT, 5, none⟩ = some (.int .i64 (pk7 aV aw ay aA aC aE aG ab)) := (blk_cell ae.out 5).trans rfl; have hL := blk_frozen ae.out 0; have hM := blk_frozen ae.out 1; have hN := blk_frozen ae.out 2; have hO := blk_frozen ae.out 3; have hP := blk_frozen ae.out 4; have hQ := blk_frozen ae.out 5))
         (try simp only [Act.put, List.setIfInBounds_toArray, List.set_cons_zero, List.set_cons_succ])
         go_cut [48] (fun v48 wc => ∃ (kq : Nat) (ff : Bool), v48 = .bool ff ∧ Aside0 (periluneref23_Valid.j2 kq ab ff aR aN aU aO aX aV aS aP aW aQ aH aw ap af ax ag aI ay aq ah az ai aJ aA ar aj aB ak aK aC au al aD am aL aE av an aF ao aM aG ba (pk7 aR aS ap aq ar au av ab) (pk7 aN aP af ah aj al an ab) (pk7 aU aW ax az aB aD aF ab) (pk7 aO aQ ag ai ak am ao ab) (pk7 aX aH aI aJ aK aL aM ab) (pk7 aV aw ay aA aC aE aG ab) = some r) ∧ Aside0 (kq ≤ k2) ∧ Aside0 (wc.heap[ac]? = some (.cells (Jt aR aN aU aO aX aV aS aP aW aQ aH aw ap af ax ag aI ay aq ah az ai aJ aA ar aj aB ak aK aC au al aD am aL aE av an aF ao aM aG ba) 27 (0, 0))) ∧ Aside0 (wc.heap[aT]? = some (.cells #[.bool (pk7 aR aS ap aq ar au av ab), .int .i64 (pk7 aN aP af ah aj al an ab), .int .i64 (pk7 aU aW ax az aB aD aF ab), .int .i64 (pk7 aO aQ ag ai ak am ao ab), .bool (pk7 aX aH aI aJ aK aL aM ab), .int .i64 (pk7 aV aw ay aA aC aE aG ab)] 24 (0, 0))) ∧ Aside0 (Below w.heap.size w wc))
         case first =>
          have H := HC11.out
          clear HC11
          by_cases c16 : (pk7 aN aP af ah aj al an ab) < 1
          ·rw [if_pos c16] at H
           have c16b0 : decide ((pk7 aN aP af ah aj al an ab) < 1) = true := decide_eq_true c16
           clear c16
           (first | rw [c16b0] | (simp only [i64_w, i32_w]; rw [c16b0]) | rw [c16b1] | skip)
           have H' := Aside0.mk H
           clear H
           have hnb17 := bX.out
           have hnc17 := bk.out
           have hR : w13.cell? ⟨aT, 0, none⟩ = some (.bool (pk7 aR aS ap aq ar au av ab)) := (blk_cell ae.out 0).trans rfl
           have hS : w13.cell? ⟨aT, 1, none⟩ = some (.int .i64 (pk7 aN aP af ah aj al an ab)) := (blk_cell ae.out 1).trans rfl
           have hT : w13.cell? ⟨aT, 2, none⟩ = some (.int .i64 (pk7 aU aW ax az aB aD aF ab)) := (blk_cell ae.out 2).trans rfl
           have hU : w13.cell? ⟨aT, 3, none⟩ = some (.int .i64 (pk7 aO aQ ag ai ak am ao ab)) := (blk_cell ae.out 3).trans rfl
           have hV : w13.cell? ⟨aT, 4, none⟩ = some (.bool (pk7 aX aH aI aJ aK aL aM ab)) := (blk_cell ae.out 4).trans rfl
           have hW : w13.cell? ⟨aT, 5, none⟩ = some (.int .i64 (pk7 aV aw ay aA aC aE aG ab)) := (blk_cell ae.out 5).trans rfl
           have hX := blk_frozen ae.out 0
           have hY := blk_frozen ae.out 1
           have hZ := blk_frozen ae.out 2
           have h0 := blk_frozen ae.out 3
           have h2 := blk_frozen ae.out 4
           have h3 := blk_frozen ae.out 5
           go_wp2
           go_meet
           case rel => exact ⟨_, (true), (by first | rfl | (simp; done) | (simp [*]; done)), H', ⟨by have := HJ1.out; have := HK2.out; first | omega | exact Nat.le_refl _⟩, ⟨by (with_reducible repeat (first | refine blk_drewN ?_ _ | refine blk_drew ?_ | refine blk_alloc ?_ _)); exact aa.out⟩, ⟨by (with_reducible repeat (first | refine blk_drewN ?_ _ | refine blk_drew ?_ | refine blk_alloc ?_ _)); exact ae.out⟩, ⟨zho HB⟩⟩
          ·rw [if_neg c16] at H
           have c16b0 : decide ((pk7 aN aP af ah aj al an ab) < 1) = false := decide_eq_false c16
           clear c16
           (first | rw [c16b0] | (simp only [i64_w, i32_w]; rw [c16b0]) | rw [c16b1] | skip)
           by_cases c19 : (pk7 aN aP af ah aj al an ab) > ba
           ·rw [if_pos c19] at H
            have c19b0 : decide (ba < (pk7 aN aP af ah aj al an ab)) = true := decide_eq_true c19
            clear c19
            have H' := Aside0.mk H
            clear H
            have hnb20 := bX.out
            have hnc20 := bk.out
            have h4 : w13.cell? ⟨aT, 0, none⟩ = some (.bool (pk7 aR aS ap aq ar au av ab)) := (blk_cell ae.out 0).trans rfl
            have h5 : w13.cell? ⟨aT, 1, none⟩ = some (.int .i64 (pk7 aN aP af ah aj al an ab)) := (blk_cell ae.out 1).trans rfl
            have h6 : w13.cell? ⟨aT, 2, none⟩ = some (.int .i64 (pk7 aU aW ax az aB aD aF ab)) := (blk_cell ae.out 2).trans rfl
            have h7 : w13.cell? ⟨aT, 3, none⟩ = some (.int .i64 (pk7 aO aQ ag ai ak am ao ab)) := (blk_cell ae.out 3).trans rfl
            have h8 : w13.cell? ⟨aT, 4, none⟩ = some (.bool (pk7 aX aH aI aJ aK aL aM ab)) := (blk_cell ae.out 4).trans rfl
            have h9 : w13.cell? ⟨aT, 5, none⟩ = some (.int .i64 (pk7 aV aw ay aA aC aE aG ab)) := (blk_cell ae.out 5).trans rfl
            have ia := blk_frozen ae.out 0
            have ib := blk_frozen ae.out 1
            have ic := blk_frozen ae.out 2
            have id := blk_frozen ae.out 3
            have ie := blk_frozen ae.out 4
            have ig := blk_frozen ae.out 5
            have ih : w13.cell? ⟨ac, 0, none⟩ = some (.bool aR) := (blk_cell aa.out 0).trans rfl
            have ii : w13.cell? ⟨ac, 1, none⟩ = some (.int .i64 aN) := (blk_cell aa.out 1).trans rfl
            have ij : w13.cell? ⟨ac, 2, none⟩ = some (.int .i64 aU) := (blk_cell aa.out 2).trans rfl
            have ik : w13.cell? ⟨ac, 3, none⟩ = some (.int .i64 aO) := (blk_cell aa.out 3).trans rfl
            have il : w13.cell? ⟨ac, 4, none⟩ = some (.bool aX) := (blk_cell aa.out 4).trans rfl
            have im : w13.cell? ⟨ac, 5, none⟩ = some (.int .i64 aV) := (blk_cell aa.out 5).trans rfl
            have io : w13.cell? ⟨ac, 6, none⟩ = some (.bool aS) := (blk_cell aa.out 6).trans rfl
            have ip : w13.cell? ⟨ac, 7, none⟩ = some (.int .i64 aP) := (blk_cell aa.out 7).trans rfl
            have iq : w13.cell? ⟨ac, 8, none⟩ = some (.int .i64 aW) := (blk_cell aa.out 8).trans rfl
            have ir : w13.cell? ⟨ac, 9, none⟩ = some (.int .i64 aQ) := (blk_cell aa.out 9).trans rfl
            have fj : w13.cell? ⟨ac, 10, none⟩ = some (.bool aH) := (blk_cell aa.out 10).trans rfl
            have fk : w13.cell? ⟨ac, 11, none⟩ = some (.int .i64 aw) := (blk_cell aa.out 11).trans rfl
            have fl : w13.cell? ⟨ac, 12, none⟩ = some (.bool ap) := (blk_cell aa.out 12).trans rfl
            have fm : w13.cell? ⟨ac, 13, none⟩ = some (.int .i64 af) := (blk_cell aa.out 13).trans rfl
            have fn : w13.cell? ⟨ac, 14, none⟩ = some (.int .i64 ax) := (blk_cell aa.out 14).trans rfl
            have fo : w13.cell? ⟨ac, 15, none⟩ = some (.int .i64 ag) := (blk_cell aa.out 15).trans rfl
            have fp : w13.cell? ⟨ac, 16, none⟩ = some (.bool aI) := (blk_cell aa.out 16).trans rfl
            have fq : w13.cell? ⟨ac, 17, none⟩ = some (.int .i64 ay) := (blk_cell aa.out 17).trans rfl
            have fr : w13.cell? ⟨ac, 18, none⟩ = some (.bool aq) := (blk_cell aa.out 18).trans rfl
            have fs : w13.cell? ⟨ac, 19, none⟩ = some (.int .i64 ah) := (blk_cell aa.out 19).trans rfl
            have ft : w13.cell? ⟨ac, 20, none⟩ = some (.int .i64 az) := (blk_cell aa.out 20).trans rfl
            have fu : w13.cell? ⟨ac, 21, none⟩ = some (.int .i64 ai) := (blk_cell aa.out 21).trans rfl
            have fv : w13.cell? ⟨ac, 22, none⟩ = some (.bool aJ) := (blk_cell aa.out 22).trans rfl
            have fw : w13.cell? ⟨ac, 23, none⟩ = some (.int .i64 aA) := (blk_cell aa.out 23).trans rfl
            have fx : w13.cell? ⟨ac, 24, none⟩ = some (.bool ar) := (blk_cell aa.out 24).trans rfl
            have fy : w13.cell? ⟨ac, 25, none⟩ = some (.int .i64 aj) := (blk_cell aa.out 25).trans rfl
            have fz : w13.cell? ⟨ac, 26, none⟩ = some (.int .i64 aB) := (blk_cell aa.out 26).trans rfl
            have fA : w13.cell? ⟨ac, 27, none⟩ = some (.int .i64 ak) := (blk_cell aa.out 27).trans rfl
            have fB : w13.cell? ⟨ac, 28, none⟩ = some (.bool aK) := (blk_cell aa.out 28).trans rfl
            have fC : w13.cell? ⟨ac, 29, none⟩ = some (.int .i64 aC) := (blk_cell aa.out 29).trans rfl
            have fD : w13.cell? ⟨ac, 30, none⟩ = some (.bool au) := (blk_cell aa.out 30).trans rfl
            have fE : w13.cell? ⟨ac, 31, none⟩ = some (.int .i64 al) := (blk_cell aa.out 31).trans rfl
            have fF : w13.cell? ⟨ac, 32, none⟩ = some (.int .i64 aD) := (blk_cell aa.out 32).trans rfl
            have fG : w13.cell? ⟨ac, 33, none⟩ = some (.int .i64 am) := (blk_cell aa.out 33).trans rfl
            have fH : w13.cell? ⟨ac, 34, none⟩ = some (.bool aL) := (blk_cell aa.out 34).trans rfl
            have fI : w13.cell? ⟨ac, 35, none⟩ = some (.int .i64 aE) := (blk_cell aa.out 35).trans rfl
            have fJ : w13.cell? ⟨ac, 36, none⟩ = some (.bool av) := (blk_cell aa.out 36).trans rfl
            have fK : w13.cell? ⟨ac, 37, none⟩ = some (.int .i64 an) := (blk_cell aa.out 37).trans rfl
            have fL : w13.cell? ⟨ac, 38, none⟩ = some (.int .i64 aF) := (blk_cell aa.out 38).trans rfl
            have fM : w13.cell? ⟨ac, 39, none⟩ = some (.int .i64 ao) := (blk_cell aa.out 39).trans rfl
            have fN : w13.cell? ⟨ac, 40, none⟩ = some (.bool aM) := (blk_cell aa.out 40).trans rfl
            have fO : w13.cell? ⟨ac, 41, none⟩ = some (.int .i64 aG) := (blk_cell aa.out 41).trans rfl
            have fP : w13.cell? ⟨ac, 42, none⟩ = some (.int .i64 ba) := (blk_cell aa.out 42).trans rfl
            have it := blk_frozen aa.out 0
            have iu := blk_frozen aa.out 1
            have iv := blk_frozen aa.out 2
            have iw := blk_frozen aa.out 3
            have ix := blk_frozen aa.out 4
            have iy := blk_frozen aa.out 5
            have iz := blk_frozen aa.out 6
            have iA := blk_frozen aa.out 7
            have iB := blk_frozen aa.out 8
            have iC := blk_frozen aa.out 9
            have fQ := blk_frozen aa.out 10
            have fR := blk_frozen aa.out 11
            have fS := blk_frozen aa.out 12
            have fT := blk_frozen aa.out 13
            have fU := blk_frozen aa.out 14
            have fV := blk_frozen aa.out 15
            have fW := blk_frozen aa.out 16
            have fX := blk_frozen aa.out 17
            have fY := blk_frozen aa.out 18
            have fZ := blk_frozen aa.out 19
            have f0 := blk_frozen aa.out 20
            have f1 := blk_frozen aa.out 21
            have f2 := blk_frozen aa.out 22
            have f3 := blk_frozen aa.out 23
            have f4 := blk_frozen aa.out 24
            have f5 := blk_frozen aa.out 25
            have f6 := blk_frozen aa.out 26
            have f7 := blk_frozen aa.out 27
            have f8 := blk_frozen aa.out 28
            have f9 := blk_frozen aa.out 29
            have ga := blk_frozen aa.out 30
            have gb := blk_frozen aa.out 31
            have gc := blk_frozen aa.out 32
            have gd := blk_frozen aa.out 33
            have ge := blk_frozen aa.out 34
            have gf := blk_frozen aa.out 35
            have gg := blk_frozen aa.out 36
            have gh := blk_frozen aa.out 37
            have gi := blk_frozen aa.out 38
            have gj := blk_frozen aa.out 39
            have gl := blk_frozen aa.out 40
            have gm := blk_frozen aa.out 41
            have gn := blk_frozen aa.out 42
            go_wp2
            go_meet
            case rel => exact ⟨_, (true), (by first | rfl | (simp; done) | (simp [*]; done)), H', ⟨by have := HJ1.out; have := HK2.out; first | omega | exact Nat.le_refl _⟩, ⟨by (with_reducible repeat (first | refine blk_drewN ?_ _ | refine blk_drew ?_ | refine blk_alloc ?_ _)); exact aa.out⟩, ⟨by (with_reducible repeat (first | refine blk_drewN ?_ _ | refine blk_drew ?_ | refine blk_alloc ?_ _)); exact ae.out⟩, ⟨zho HB⟩⟩
           ·rw [if_neg c19] at H
            have c19b0 : decide (ba < (pk7 aN aP af ah aj al an ab)) = false := decide_eq_false c19
            clear c19
            replace H := Option.bind_eq_some_iff.mp H
            obtain ⟨fi, A230, H⟩ := H
            try dsimp only at H
            have A23 := Aside0.mk A230
            clear A230
            have H' := Aside0.mk H
            clear H
            have hnb24 := bX.out
            have hnc24 := bk.out
            have iD : w13.cell? ⟨aT, 0, none⟩ = some (.bool (pk7 aR aS ap aq ar au av ab)) := (blk_cell ae.out 0).trans rfl
            have iE : w13.cell? ⟨aT, 1, none⟩ = some (.int .i64 (pk7 aN aP af ah aj al an ab)) := (blk_cell ae.out 1).trans rfl
            have iF : w13.cell? ⟨aT, 2, none⟩ = some (.int .i64 (pk7 aU aW ax az aB aD aF ab)) := (blk_cell ae.out 2).trans rfl
            have iG : w13.cell? ⟨aT, 3, none⟩ = some (.int .i64 (pk7 aO aQ ag ai ak am ao ab)) := (blk_cell ae.out 3).trans rfl
            have iH : w13.cell? ⟨aT, 4, none⟩ = some (.bool (pk7 aX aH aI aJ aK aL aM ab)) := (blk_cell ae.out 4).trans rfl
            have iI : w13.cell? ⟨aT, 5, none⟩ = some (.int .i64 (pk7 aV aw ay aA aC aE aG ab)) := (blk_cell ae.out 5).trans rfl
            have iJ := blk_frozen ae.out 0
            have iK := blk_frozen ae.out 1
            have iL := blk_frozen ae.out 2
            have iM := blk_frozen ae.out 3
            have iN := blk_frozen ae.out 4
            have iO := blk_frozen ae.out 5
            have iP : w13.cell? ⟨ac, 0, none⟩ = some (.bool aR) := (blk_cell aa.out 0).trans rfl
            have iQ : w13.cell? ⟨ac, 1, none⟩ = some (.int .i64 aN) := (blk_cell aa.out 1).trans rfl
            have iR : w13.cell? ⟨ac, 2, none⟩ = some (.int .i64 aU) := (blk_cell aa.out 2).trans rfl
            have iS : w13.cell? ⟨ac, 3, none⟩ = some (.int .i64 aO) := (blk_cell aa.out 3).trans rfl
            have iT : w13.cell? ⟨ac, 4, none⟩ = some (.bool aX) := (blk_cell aa.out 4).trans rfl
            have iU : w13.cell? ⟨ac, 5, none⟩ = some (.int .i64 aV) := (blk_cell aa.out 5).trans rfl
            have iV : w13.cell? ⟨ac, 6, none⟩ = some (.bool aS) := (blk_cell aa.out 6).trans rfl
            have iW : w13.cell? ⟨ac, 7, none⟩ = some (.int .i64 aP) := (blk_cell aa.out 7).trans rfl
            have iX : w13.cell? ⟨ac, 8, none⟩ = some (.int .i64 aW) := (blk_cell aa.out 8).trans rfl
            have iY : w13.cell? ⟨ac, 9, none⟩ = some (.int .i64 aQ) := (blk_cell aa.out 9).trans rfl
            have gp : w13.cell? ⟨ac, 10, none⟩ = some (.bool aH) := (blk_cell aa.out 10).trans rfl
            have gq : w13.cell? ⟨ac, 11, none⟩ = some (.int .i64 aw) := (blk_cell aa.out 11).trans rfl
            have gr : w13.cell? ⟨ac, 12, none⟩ = some (.bool ap) := (blk_cell aa.out 12).trans rfl
            have gs : w13.cell? ⟨ac, 13, none⟩ = some (.int .i64 af) := (blk_cell aa.out 13).trans rfl
            have gt : w13.cell? ⟨ac, 14, none⟩ = some (.int .i64 ax) := (blk_cell aa.out 14).trans rfl
            have gu : w13.cell? ⟨ac, 15, none⟩ = some (.int .i64 ag) := (blk_cell aa.out 15).trans rfl
            have gv : w13.cell? ⟨ac, 16, none⟩ = some (.bool aI) := (blk_cell aa.out 16).trans rfl
            have gw : w13.cell? ⟨ac, 17, none⟩ = some (.int .i64 ay) := (blk_cell aa.out 17).trans rfl
            have gx : w13.cell? ⟨ac, 18, none⟩ = some (.bool aq) := (blk_cell aa.out 18).trans rfl
            have gy : w13.cell? ⟨ac, 19, none⟩ = some (.int .i64 ah) := (blk_cell aa.out 19).trans rfl
            have gz : w13.cell? ⟨ac, 20, none⟩ = some (.int .i64 az) := (blk_cell aa.out 20).trans rfl
            have gA : w13.cell? ⟨ac, 21, none⟩ = some (.int .i64 ai) := (blk_cell aa.out 21).trans rfl
            have gB : w13.cell? ⟨ac, 22, none⟩ = some (.bool aJ) := (blk_cell aa.out 22).trans rfl
            have gC : w13.cell? ⟨ac, 23, none⟩ = some (.int .i64 aA) := (blk_cell aa.out 23).trans rfl
            have gD : w13.cell? ⟨ac, 24, none⟩ = some (.bool ar) := (blk_cell aa.out 24).trans rfl
            have gE : w13.cell? ⟨ac, 25, none⟩ = some (.int .i64 aj) := (blk_cell aa.out 25).trans rfl
            have gF : w13.cell? ⟨ac, 26, none⟩ = some (.int .i64 aB) := (blk_cell aa.out 26).trans rfl
            have gG : w13.cell? ⟨ac, 27, none⟩ = some (.int .i64 ak) := (blk_cell aa.out 27).trans rfl
            have gH : w13.cell? ⟨ac, 28, none⟩ = some (.bool aK) := (blk_cell aa.out 28).trans rfl
            have gI : w13.cell? ⟨ac, 29, none⟩ = some (.int .i64 aC) := (blk_cell aa.out 29).trans rfl
            have gJ : w13.cell? ⟨ac, 30, none⟩ = some (.bool au) := (blk_cell aa.out 30).trans rfl
            have gK : w13.cell? ⟨ac, 31, none⟩ = some (.int .i64 al) := (blk_cell aa.out 31).trans rfl
            have gL : w13.cell? ⟨ac, 32, none⟩ = some (.int .i64 aD) := (blk_cell aa.out 32).trans rfl
            have gM : w13.cell? ⟨ac, 33, none⟩ = some (.int .i64 am) := (blk_cell aa.out 33).trans rfl
            have gN : w13.cell? ⟨ac, 34, none⟩ = some (.bool aL) := (blk_cell aa.out 34).trans rfl
            have gO : w13.cell? ⟨ac, 35, none⟩ = some (.int .i64 aE) := (blk_cell aa.out 35).trans rfl
            have gP : w13.cell? ⟨ac, 36, none⟩ = some (.bool av) := (blk_cell aa.out 36).trans rfl
            have gQ : w13.cell? ⟨ac, 37, none⟩ = some (.int .i64 an) := (blk_cell aa.out 37).trans rfl
            have gR : w13.cell? ⟨ac, 38, none⟩ = some (.int .i64 aF) := (blk_cell aa.out 38).trans rfl
            have gS : w13.cell? ⟨ac, 39, none⟩ = some (.int .i64 ao) := (blk_cell aa.out 39).trans rfl
            have gT : w13.cell? ⟨ac, 40, none⟩ = some (.bool aM) := (blk_cell aa.out 40).trans rfl
            have gU : w13.cell? ⟨ac, 41, none⟩ = some (.int .i64 aG) := (blk_cell aa.out 41).trans rfl
            have gV : w13.cell? ⟨ac, 42, none⟩ = some (.int .i64 ba) := (blk_cell aa.out 42).trans rfl
            have iZ := blk_frozen aa.out 0
            have i0 := blk_frozen aa.out 1
            have i1 := blk_frozen aa.out 2
            have i2 := blk_frozen aa.out 3
            have i3 := blk_frozen aa.out 4
            have i4 := blk_frozen aa.out 5
            have i5 := blk_frozen aa.out 6
            have i6 := blk_frozen aa.out 7
            have i7 := blk_frozen aa.out 8
            have i8 := blk_frozen aa.out 9
            have gW := blk_frozen aa.out 10
            have gX := blk_frozen aa.out 11
            have gY := blk_frozen aa.out 12
            have gZ := blk_frozen aa.out 13
            have g0 := blk_frozen aa.out 14
            have g1 := blk_frozen aa.out 15
            have g2 := blk_frozen aa.out 16
            have g3 := blk_frozen aa.out 17
            have g4 := blk_frozen aa.out 18
            have g5 := blk_frozen aa.out 19
            have g6 := blk_frozen aa.out 20
            have g7 := blk_frozen aa.out 21
            have g8 := blk_frozen aa.out 22
            have g9 := blk_frozen aa.out 23
            have ha := blk_frozen aa.out 24
            have hc := blk_frozen aa.out 25
            have he := blk_frozen aa.out 26
            have hh := blk_frozen aa.out 27
            have hj := blk_frozen aa.out 28
            have hk := blk_frozen aa.out 29
            have hm := blk_frozen aa.out 30
            have hq := blk_frozen aa.out 31
            have hs := blk_frozen aa.out 32
            have ht := blk_frozen aa.out 33
            have hu := blk_frozen aa.out 34
            have hx := blk_frozen aa.out 35
            have hy := blk_frozen aa.out 36
            have hz := blk_frozen aa.out 37
            have hA := blk_frozen aa.out 38
            have hB := blk_frozen aa.out 39
            have hC := blk_frozen aa.out 40
            have hD := blk_frozen aa.out 41
            have hE := blk_frozen aa.out 42
            go_wp2_with (first | (go_at_call 38; (with_reducible refine (periluneref23_fits.calls k2 (pk7 aU aW ax az aB aD aF ab) (pk7 aO aQ ag ai ak am ao ab) (pk7 aV aw ay aA aC aE aG ab) fi _ A23.out).mono ?_); rintro e w' ⟨rfl, ⟨nd, rfl⟩⟩))
            go_meet
            case rel => exact ⟨_, (!fi), (by first | rfl | (simp; done) | (simp [*]; done)), H', ⟨by have := HJ1.out; have := HK2.out; first | omega | exact Nat.le_refl _⟩, ⟨by (with_reducible repeat (first | refine blk_drewN ?_ _ | refine blk_drew ?_ | refine blk_alloc ?_ _)); exact aa.out⟩, ⟨by (with_reducible repeat (first | refine blk_drewN ?_ _ | refine blk_drew ?_ | refine blk_alloc ?_ _)); exact ae.out⟩, ⟨zho HB⟩⟩
         case rest =>
          clear HC11
          try clear c1 c2 p2 q2 c4 c4b0 c4b1 c7 c8 c8b0 c9 c9b0 c10 c10b0 c14 c16 c16b0 c16b1 c17 c19 c19b0 c20 c24 hF hG hH hI hJ hK hR hS hT hU hV hW h4 h5 h6 h7 h8 h9 ih ii fj fk fl fm fn fo fp fq fr fs ij ft fu fv fw fx fy fz fA fB fC ik fD fE fF fG fH fI fJ fK fL fM il fN fO fP im io ip iq ir iD iE iF iG iH iI iP iQ gp gq gr gs gt gu gv gw gx gy iR gz gA gB gC gD gE gF gG gH gI iS gJ gK gL gM gN gO gP gQ gR gS iT gT gU gV iU iV iW iX iY eB eC ck cl cm cn co cp cq cr ct cu eD cv cw cx cy cz cA cB cC cD cE eE cF cG cH cI cJ cK cL cM cN cO eF cP cQ cR eG eH eI eJ eK eV eW dw dx dy dz dA dB dC dD dE dF eX dG dH dI dJ dK dL dM dN dO dP eY dQ dR dS dT dU dV dW dX dY dZ eZ d0 d1 d2 e0 e1 e2 e3 e4 hL hM hN hO hP hQ hX hY hZ h0 h2 h3 ia ib ic id ie ig it iu fQ fR fS fT fU fV fW fX fY fZ iv f0 f1 f2 f3 f4 f5 f6 f7 f8 f9 iw ga gb gc gd ge gf gg gh gi gj ix gl gm gn iy iz iA iB iC iJ iK iL iM iN iO iZ i0 gW gX gY gZ g0 g1 g2 g3 g4 g5 i1 g6 g7 g8 g9 ha hc he hh hj hk i2 hm hq hs ht hu hx hy hz hA hB i3 hC hD hE i4 i5 i6 i7 i8 eL eM cS cT cU cV cW cX cY cZ c0 c3 eN c5 c6 da db dc dd de df dg dh eO di dj dk dl dm dn dp dq dr ds eP dt du dv eQ eR eS eT eU e5 e6 d3 d4 d5 d6 d7 d8 d9 ea eb ec e7 ed ee ef eg eh ei ej ek el em e8 en eo ep er es et eu ev ew ex e9 ey ez eA fa fb fc fd fe p2
          obtain ⟨kq, ff, rfl, HA, HJ10, aa, ae, HB⟩ := hcut
          cases kq with
          | zero => exact absurd HA.out (by simp [periluneref23_Valid.j2])
          | succ kj10 =>
           have H := HA.out
           clear HA
           simp only [periluneref23_Valid.j2] at H
           by_cases c27 : ff = true
           ·subst c27
            have H1 : (some false) = some r := by rw [if_pos rfl] at H; exact H
            clear H
            have H := H1
            clear H1
            obtain rfl := Option.some.inj H
            go_wp2
            go_ret
            exact ⟨by first | rfl | (simp [errW_none, errW_some] <;> rfl) | (simp [*, errW_none, errW_some] <;> rfl), zho HB⟩
           ·replace c27 := Bool.eq_false_iff.mpr c27
            subst c27
            have H1 : (periluneref23_Valid.l1 kj10 ab 0 aR aN aU aO aX aV aS aP aW aQ aH aw ap af ax ag aI ay aq ah az ai aJ aA ar aj aB ak aK aC au al aD am aL aE av an aF ao aM aG ba (pk7 aR aS ap aq ar au av ab) (pk7 aN aP af ah aj al an ab) (pk7 aU aW ax az aB aD aF ab) (pk7 aO aQ ag ai ak am ao ab) (pk7 aX aH aI aJ aK aL aM ab) (pk7 aV aw ay aA aC aE aG ab)) = some r := by rw [if_neg (show ¬ (false = true) by decide)] at H; exact H
            clear H
            have H := H1
            clear H1
            have H' := Aside0.mk H
            clear H
            go_wp2
            go_loopg [5] kj10 (fun kq v5 w' => ∃ (ad : Int), v5 = .int .i64 ad ∧ Aside0 (periluneref23_Valid.l1 kq ab ad aR aN aU aO aX aV aS aP aW aQ aH aw ap af ax ag aI ay aq ah az ai aJ aA ar aj aB ak aK aC au al aD am aL aE av an aF ao aM aG ba (pk7 aR aS ap aq ar au av ab) (pk7 aN aP af ah aj al an ab) (pk7 aU aW ax az aB aD aF ab) (pk7 aO aQ ag ai ak am ao ab) (pk7 aX aH aI aJ aK aL aM ab) (pk7 aV aw ay aA aC aE aG ab) = some r) ∧ Aside0 (kq ≤ kj10) ∧ Aside0 (w'.heap[ac]? = some (.cells (Jt aR aN aU aO aX aV aS aP aW aQ aH aw ap af ax ag aI ay aq ah az ai aJ aA ar aj aB ak aK aC au al aD am aL aE av an aF ao aM aG ba) 27 (0, 0))) ∧ Aside0 (w'.heap[aT]? = some (.cells #[.bool (pk7 aR aS ap aq ar au av ab), .int .i64 (pk7 aN aP af ah aj al an ab), .int .i64 (pk7 aU aW ax az aB aD aF ab), .int .i64 (pk7 aO aQ ag ai ak am ao ab), .bool (pk7 aX aH aI aJ aK aL aM ab), .int .i64 (pk7 aV aw ay aA aC aE aG ab)] 24 (0, 0))) ∧ Aside0 (Below w.heap.size w w'))
            case atStart => exact ⟨(0), (by first | rfl | (simp; done) | (simp [*]; done)), H', ⟨Nat.le_refl _⟩, ⟨by (with_reducible repeat (first | refine blk_drewN ?_ _ | refine blk_drew ?_ | refine blk_alloc ?_ _)); exact aa.out⟩, ⟨by (with_reducible repeat (first | refine blk_drewN ?_ _ | refine blk_drew ?_ | refine blk_alloc ?_ _)); exact ae.out⟩, ⟨zho HB⟩⟩
            case round =>
             clear H'
             try clear c1 c2 p2 q2 c4 c4b0 c4b1 c7 c8 c8b0 c9 c9b0 c10 c10b0 c14 c16 c16b0 c16b1 c17 c19 c19b0 c20 c24 c27 hF hG hH hI hJ hK hR hS hT hU hV hW h4 h5 h6 h7 h8 h9 ih ii fj fk fl fm fn fo fp fq fr fs ij ft fu fv fw fx fy fz fA fB fC ik fD fE fF fG fH fI fJ fK fL fM il fN fO fP im io ip iq ir iD iE iF iG iH iI iP iQ gp gq gr gs gt gu gv gw gx gy iR gz gA gB gC gD gE gF gG gH gI iS gJ gK gL gM gN gO gP gQ gR gS iT gT gU gV iU iV iW iX iY eB eC ck cl cm cn co cp cq cr ct cu eD cv cw cx cy cz cA cB cC cD cE eE cF cG cH cI cJ cK cL cM cN cO eF cP cQ cR eG eH eI eJ eK eV eW dw dx dy dz dA dB dC dD dE dF eX dG dH dI dJ dK dL dM dN dO dP eY dQ dR dS dT dU dV dW dX dY dZ eZ d0 d1 d2 e0 e1 e2 e3 e4 hL hM hN hO hP hQ hX hY hZ h0 h2 h3 ia ib ic id ie ig it iu fQ fR fS fT fU fV fW fX fY fZ iv f0 f1 f2 f3 f4 f5 f6 f7 f8 f9 iw ga gb gc gd ge gf gg gh gi gj ix gl gm gn iy iz iA iB iC iJ iK iL iM iN iO iZ i0 gW gX gY gZ g0 g1 g2 g3 g4 g5 i1 g6 g7 g8 g9 ha hc he hh hj hk i2 hm hq hs ht hu hx hy hz hA hB i3 hC hD hE i4 i5 i6 i7 i8 eL eM cS cT cU cV cW cX cY cZ c0 c3 eN c5 c6 da db dc dd de df dg dh eO di dj dk dl dm dn dp dq dr ds eP dt du dv eQ eR eS eT eU e5 e6 d3 d4 d5 d6 d7 d8 d9 ea eb ec e7 ed ee ef eg eh ei ej ek el em e8 en eo ep er es et eu ev ew ex e9 ey ez eA fa fb fc fd fe p2 q2
             obtain ⟨ad, rfl, HA, HK4, aa, ae, HB⟩ := hrel
             cases gk with
             | zero => exact absurd HA.out (by simp [periluneref23_Valid.l1])
             | succ k4 =>
              have H := HA.out
              clear HA
              simp only [periluneref23_Valid.l1] at H
              by_cases c28 : ad < ab
              ·rw [if_pos c28] at H
               have c28b0 : decide (ad < ab) = true := decide_eq_true c28
               clear c28
               by_cases c29 : 0 ≤ ad
               ·rw [if_pos c29] at H
                have c29b0 : decide (0 ≤ ad) = true := decide_eq_true c29
                clear c29
                by_cases c30 : ad < 7
                ·rw [if_pos c30] at H
                 have c30b0 : decide (ad < 7) = true := decide_eq_true c30
                 clear c30
                 by_cases c31 : pk7 aR aS ap aq ar au av ad = true
                 ·rw [if_pos c31] at H
                  have c31b0 : pk7 aR aS ap aq ar au av ad = true := c31
                  clear c31
                  by_cases c32 : (pk7 aN aP af ah aj al an ad) = (pk7 aN aP af ah aj al an ab)
                  ·rw [if_pos c32] at H
                   have c32b0 : ((pk7 aN aP af ah aj al an ad) == (pk7 aN aP af ah aj al an ab)) = true := beq_iff_eq.mpr c32
                   have c32b1 : ((pk7 aN aP af ah aj al an ad) != (pk7 aN aP af ah aj al an ab)) = false := bne_eq_false_iff_eq.mpr c32
                   clear c32
                   obtain rfl := Option.some.inj H
                   have vp290 : (0 ≤ (ad : Int)) = True := eq_true (of_decide_eq_true (by first | (with_reducible assumption) | assumption))
                   have vq290 : ((ad : Int) < (7 : Int)) = True := eq_true (of_decide_eq_true (by first | (with_reducible assumption) | assumption))
                   have b2 : wr.cell? ⟨ac, ad.toNat * 6, none⟩ = some (.bool (pk7 aR aS ap aq ar au av ad)) := cellA27_0_0 (ad) (of_decide_eq_true (by first | (with_reducible assumption) | assumption)) (of_decide_eq_true (by first | (with_reducible assumption) | assumption)) aa.out
                   have b3 : wr.cell? ⟨ac, ad.toNat * 6 + 1, none⟩ = some (.int .i64 (pk7 aN aP af ah aj al an ad)) := cellA27_0_1 (ad) (of_decide_eq_true (by first | (with_reducible assumption) | assumption)) (of_decide_eq_true (by first | (with_reducible assumption) | assumption)) aa.out
                   have b4 : wr.cell? ⟨ac, ad.toNat * 6 + 2, none⟩ = some (.int .i64 (pk7 aU aW ax az aB aD aF ad)) := cellA27_0_2 (ad) (of_decide_eq_true (by first | (with_reducible assumption) | assumption)) (of_decide_eq_true (by first | (with_reducible assumption) | assumption)) aa.out
                   have b5 : wr.cell? ⟨ac, ad.toNat * 6 + 3, none⟩ = some (.int .i64 (pk7 aO aQ ag ai ak am ao ad)) := cellA27_0_3 (ad) (of_decide_eq_true (by first | (with_reducible assumption) | assumption)) (of_decide_eq_true (by first | (with_reducible assumption) | assumption)) aa.out
                   have b6 : wr.cell? ⟨ac, ad.toNat * 6 + 4, none⟩ = some (.bool (pk7 aX aH aI aJ aK aL aM ad)) := cellA27_0_4 (ad) (of_decide_eq_true (by first | (with_reducible assumption) | assumption)) (of_decide_eq_true (by first | (with_reducible assumption) | assumption)) aa.out
                   have b7 : wr.cell? ⟨ac, ad.toNat * 6 + 5, none⟩ = some (.int .i64 (pk7 aV aw ay aA aC aE aG ad)) := cellA27_0_5 (ad) (of_decide_eq_true (by first | (with_reducible assumption) | assumption)) (of_decide_eq_true (by first | (with_reducible assumption) | assumption)) aa.out
                   go_wp2_with (first | ((with_reducible refine gate_dst (N := 57) rfl ?_); refine seg_load_cells (t := 24) (p := 56) (g := ac) (off := ad.toNat * 6) (vs := [.bool (pk7 aR aS ap aq ar au av ad), .int .i64 (pk7 aN aP af ah aj al an ad), .int .i64 (pk7 aU aW ax az aB aD aF ad), .int .i64 (pk7 aO aQ ag ai ak am ao ad), .bool (pk7 aX aH aI aJ aK aL aM ad), .int .i64 (pk7 aV aw ay aA aC aE aG ad)]) ?hg ?ho ?hp ?hl Try.underlying24 ?hd ?hi ?_; (case ho => rfl); (case hg => first | rfl | (go_simp; done) | (simp [Region.wanted, yielded, *]; done)); (case hp => rfl); (case hl => exact cells6 b2 b3 b4 b5 b6 b7); (case hd => rfl); (case hi => kernel_rfl)) | ((with_reducible refine gate_dst (N := 6) rfl ?_); refine box_event ?hg (N := 6) ?hd (cs := #[.bool false, .int .i64 0, .int .i64 0, .int .i64 0, .bool false, .int .i64 0]) (t := 24) ?hr ?_; (case hd => rfl); (case hg => rfl); (case hr => first | (go_simp; done) | (go_simp; rfl)); intro aZ hg w33 hbox hb; have aY := Aside0.mk hbox; have fh := zhs HB hg; have bZ := zhs HB hg; have bA := znl aa hg; have b0 := zng aa hg; have bB := znl ae hg; have b1 := zng ae hg; replace aa := zbB aa hb; replace ae := zbB ae hb; replace HB := zhB HB hb; clear hb hbox hg) | ((with_reducible refine gate_store (t := 24) (p := 6) rfl ?_); refine seg_event (t := 24) (p := 6) (x := ?xo_w34) (g := aZ) (off := 0) (T := 24) (cur := #[.bool false, .int .i64 0, .int .i64 0, .int .i64 0, .bool false, .int .i64 0]) (vs := [.bool (pk7 aR aS ap aq ar au av ad), .int .i64 (pk7 aN aP af ah aj al an ad), .int .i64 (pk7 aU aW ax az aB aD aF ad), .int .i64 (pk7 aO aQ ag ai ak am ao ad), .bool (pk7 aX aH aI aJ aK aL aM ad), .int .i64 (pk7 aV aw ay aA aC aE aG ad)]) (new := #[.bool (pk7 aR aS ap aq ar au av ad), .int .i64 (pk7 aN aP af ah aj al an ad), .int .i64 (pk7 aU aW ax az aB aD aF ad), .int .i64 (pk7 aO aQ ag ai ak am ao ad), .bool (pk7 aX aH aI aJ aK aL aM ad), .int .i64 (pk7 aV aw ay aA aC aE aG ad)]) ?hg ?ho ?hn ?hp ?hv ?hb ?hi ?hf ?h1 ?hw ?_; (case ho => rfl); (case hg => rfl); (case hn => rfl); (case hp => rfl); (case hv => first | rfl | (go_simp; done) | (simp [*]; done)); (case hb => exact aY.out); (case hi => kernel_rfl); (case hf => exact Nat.le_of_ble_eq_true rfl); (case h1 => rfl); (case hw => rfl); intro w34 hbox hg hbl; replace aa := zbG aa hg bA; replace ae := zbG ae hg bB; replace aY := Aside0.mk hbox; replace HB := zhL hbl HB bZ; clear hbox hg hbl; have hnb35 := b0.out; have hnc35 := bA.out; have hnb36 := b1.out; have hnc36 := bB.out; have hcz37_0 : w34.cell? ⟨aZ, 0, none⟩ = some (.bool (pk7 aR aS ap aq ar au av ad)) := (blk_cell aY.out 0).trans rfl; have hcz37_1 : w34.cell? ⟨aZ, 1, none⟩ = some (.int .i64 (pk7 aN aP af ah aj al an ad)) := (blk_cell aY.out 1).trans rfl; have hcz37_2 : w34.cell? ⟨aZ, 2, none⟩ = some (.int .i64 (pk7 aU aW ax az aB aD aF ad)) := (blk_cell aY.out 2).trans rfl; have hcz37_3 : w34.cell? ⟨aZ, 3, none⟩ = some (.int .i64 (pk7 aO aQ ag ai ak am ao ad)) := (blk_cell aY.out 3).trans rfl; have hcz37_4 : w34.cell? ⟨aZ, 4, none⟩ = some (.bool (pk7 aX aH aI aJ aK aL aM ad)) := (blk_cell aY.out 4).trans rfl; have hcz37_5 : w34.cell? ⟨aZ, 5, none⟩ = some (.int .i64 (pk7 aV aw ay aA aC aE aG ad)) := (blk_cell aY.out 5).trans rfl; have hfz37_0 := blk_frozen aY.out 0; have hfz37_1 := blk_frozen aY.out 1; have hfz37_2 := blk_frozen aY.out 2; have hfz37_3 := blk_frozen aY.out 3; have hfz37_4 := blk_frozen aY.out 4; have hfz37_5 := blk_frozen aY.out 5; have hnb38 := bX.out; have hnc38 := bk.out; have hcz39_0 : w34.cell? ⟨aT, 0, none⟩ = some (.bool (pk7 aR aS ap aq ar au av ab)) := (blk_cell ae.out 0).trans rfl; have hcz39_1 : w34.cell? ⟨aT, 1, none⟩ = some (.int .i64 (pk7 aN aP af ah aj al an ab)) := (blk_cell ae.out 1).trans rfl; have hcz39_2 : w34.cell? ⟨aT, 2, none⟩ = some (.int .i64 (pk7 aU aW ax az aB aD aF ab)) := (blk_cell ae.out 2).trans rfl; have hcz39_3 : w34.cell? ⟨aT, 3, none⟩ = some (.int .i64 (pk7 aO aQ ag ai ak am ao ab)) := (blk_cell ae.out 3).trans rfl; have hcz39_4 : w34.cell? ⟨aT, 4, none⟩ = some (.bool (pk7 aX aH aI aJ aK aL aM ab)) := (blk_cell ae.out 4).trans rfl; have hcz39_5 : w34.cell? ⟨aT, 5, none⟩ = some (.int .i64 (pk7 aV aw ay aA aC aE aG ab)) := (blk_cell ae.out 5).trans rfl; have hfz39_0 := blk_frozen ae.out 0; have hfz39_1 := blk_frozen ae.out 1; have hfz39_2 := blk_frozen ae.out 2; have hfz39_3 := blk_frozen ae.out 3; have hfz39_4 := blk_frozen ae.out 4; have hfz39_5 := blk_frozen ae.out 5))
                   go_ret
                   exact ⟨by first | rfl | (simp [errW_none, errW_some] <;> rfl) | (simp [*, errW_none, errW_some] <;> rfl), zho HB⟩
                  ·rw [if_neg c32] at H
                   have c32b0 : ((pk7 aN aP af ah aj al an ad) == (pk7 aN aP af ah aj al an ab)) = false := beq_eq_false_iff_ne.mpr c32
                   have c32b1 : ((pk7 aN aP af ah aj al an ad) != (pk7 aN aP af ah aj al an ab)) = true := bne_iff_ne.mpr c32
                   by_cases c40 : (pk7 aO aQ ag ai ak am ao ad) = (pk7 aO aQ ag ai ak am ao ab)
                   ·rw [if_pos c40] at H
                    have c40b0 : ((pk7 aO aQ ag ai ak am ao ad) == (pk7 aO aQ ag ai ak am ao ab)) = true := beq_iff_eq.mpr c40
                    have c40b1 : ((pk7 aO aQ ag ai ak am ao ad) != (pk7 aO aQ ag ai ak am ao ab)) = false := bne_eq_false_iff_eq.mpr c40
                    clear c40
                    by_cases c41 : (pk7 aO aQ ag ai ak am ao ab) = 0
                    ·rw [if_pos c41] at H
                     have c41b0 : ((pk7 aO aQ ag ai ak am ao ab) == 0) = true := beq_iff_eq.mpr c41
                     have c41b1 : ((pk7 aO aQ ag ai ak am ao ab) != 0) = false := bne_eq_false_iff_eq.mpr c41
                     clear c41
                     have H' := Aside0.mk H
                     clear H
                     have vp290 : (0 ≤ (ad : Int)) = True := eq_true (of_decide_eq_true (by first | (with_reducible assumption) | assumption))
                     have vq290 : ((ad : Int) < (7 : Int)) = True := eq_true (of_decide_eq_true (by first | (with_reducible assumption) | assumption))
                     have b2 : wr.cell? ⟨ac, ad.toNat * 6, none⟩ = some (.bool (pk7 aR aS ap aq ar au av ad)) := cellA27_0_0 (ad) (of_decide_eq_true (by first | (with_reducible assumption) | assumption)) (of_decide_eq_true (by first | (with_reducible assumption) | assumption)) aa.out
                     have b3 : wr.cell? ⟨ac, ad.toNat * 6 + 1, none⟩ = some (.int .i64 (pk7 aN aP af ah aj al an ad)) := cellA27_0_1 (ad) (of_decide_eq_true (by first | (with_reducible assumption) | assumption)) (of_decide_eq_true (by first | (with_reducible assumption) | assumption)) aa.out
                     have b4 : wr.cell? ⟨ac, ad.toNat * 6 + 2, none⟩ = some (.int .i64 (pk7 aU aW ax az aB aD aF ad)) := cellA27_0_2 (ad) (of_decide_eq_true (by first | (with_reducible assumption) | assumption)) (of_decide_eq_true (by first | (with_reducible assumption) | assumption)) aa.out
                     have b5 : wr.cell? ⟨ac, ad.toNat * 6 + 3, none⟩ = some (.int .i64 (pk7 aO aQ ag ai ak am ao ad)) := cellA27_0_3 (ad) (of_decide_eq_true (by first | (with_reducible assumption) | assumption)) (of_decide_eq_true (by first | (with_reducible assumption) | assumption)) aa.out
                     have b6 : wr.cell? ⟨ac, ad.toNat * 6 + 4, none⟩ = some (.bool (pk7 aX aH aI aJ aK aL aM ad)) := cellA27_0_4 (ad) (of_decide_eq_true (by first | (with_reducible assumption) | assumption)) (of_decide_eq_true (by first | (with_reducible assumption) | assumption)) aa.out
                     have b7 : wr.cell? ⟨ac, ad.toNat * 6 + 5, none⟩ = some (.int .i64 (pk7 aV aw ay aA aC aE aG ad)) := cellA27_0_5 (ad) (of_decide_eq_true (by first | (with_reducible assumption) | assumption)) (of_decide_eq_true (by first | (with_reducible assumption) | assumption)) aa.out
                     go_wp2_with (first | ((with_reducible refine gate_dst (N := 57) rfl ?_); refine seg_load_cells (t := 24) (p := 56) (g := ac) (off := ad.toNat * 6) (vs := [.bool (pk7 aR aS ap aq ar au av ad), .int .i64 (pk7 aN aP af ah aj al an ad), .int .i64 (pk7 aU aW ax az aB aD aF ad), .int .i64 (pk7 aO aQ ag ai ak am ao ad), .bool (pk7 aX aH aI aJ aK aL aM ad), .int .i64 (pk7 aV aw ay aA aC aE aG ad)]) ?hg ?ho ?hp ?hl Try.underlying24 ?hd ?hi ?_; (case ho => rfl); (case hg => first | rfl | (go_simp; done) | (simp [Region.wanted, yielded, *]; done)); (case hp => rfl); (case hl => exact cells6 b2 b3 b4 b5 b6 b7); (case hd => rfl); (case hi => kernel_rfl)) | ((with_reducible refine gate_dst (N := 6) rfl ?_); refine box_event ?hg (N := 6) ?hd (cs := #[.bool false, .int .i64 0, .int .i64 0, .int .i64 0, .bool false, .int .i64 0]) (t := 24) ?hr ?_; (case hd => rfl); (case hg => rfl); (case hr => first | (go_simp; done) | (go_simp; rfl)); intro aZ hg w42 hbox hb; have aY := Aside0.mk hbox; have fh := zhs HB hg; have bZ := zhs HB hg; have bA := znl aa hg; have b0 := zng aa hg; have bB := znl ae hg; have b1 := zng ae hg; replace aa := zbB aa hb; replace ae := zbB ae hb; replace HB := zhB HB hb; clear hb hbox hg) | ((with_reducible refine gate_store (t := 24) (p := 6) rfl ?_); refine seg_event (t := 24) (p := 6) (x := ?xo_w43) (g := aZ) (off := 0) (T := 24) (cur := #[.bool false, .int .i64 0, .int .i64 0, .int .i64 0, .bool false, .int .i64 0]) (vs := [.bool (pk7 aR aS ap aq ar au av ad), .int .i64 (pk7 aN aP af ah aj al an ad), .int .i64 (pk7 aU aW ax az aB aD aF ad), .int .i64 (pk7 aO aQ ag ai ak am ao ad), .bool (pk7 aX aH aI aJ aK aL aM ad), .int .i64 (pk7 aV aw ay aA aC aE aG ad)]) (new := #[.bool (pk7 aR aS ap aq ar au av ad), .int .i64 (pk7 aN aP af ah aj al an ad), .int .i64 (pk7 aU aW ax az aB aD aF ad), .int .i64 (pk7 aO aQ ag ai ak am ao ad), .bool (pk7 aX aH aI aJ aK aL aM ad), .int .i64 (pk7 aV aw ay aA aC aE aG ad)]) ?hg ?ho ?hn ?hp ?hv ?hb ?hi ?hf ?h1 ?hw ?_; (case ho => rfl); (case hg => rfl); (case hn => rfl); (case hp => rfl); (case hv => first | rfl | (go_simp; done) | (simp [*]; done)); (case hb => exact aY.out); (case hi => kernel_rfl); (case hf => exact Nat.le_of_ble_eq_true rfl); (case h1 => rfl); (case hw => rfl); intro w43 hbox hg hbl; replace aa := zbG aa hg bA; replace ae := zbG ae hg bB; replace aY := Aside0.mk hbox; replace HB := zhL hbl HB bZ; clear hbox hg hbl; have hnb44 := b0.out; have hnc44 := bA.out; have hnb45 := b1.out; have hnc45 := bB.out; have hcz46_0 : w43.cell? ⟨aZ, 0, none⟩ = some (.bool (pk7 aR aS ap aq ar au av ad)) := (blk_cell aY.out 0).trans rfl; have hcz46_1 : w43.cell? ⟨aZ, 1, none⟩ = some (.int .i64 (pk7 aN aP af ah aj al an ad)) := (blk_cell aY.out 1).trans rfl; have hcz46_2 : w43.cell? ⟨aZ, 2, none⟩ = some (.int .i64 (pk7 aU aW ax az aB aD aF ad)) := (blk_cell aY.out 2).trans rfl; have hcz46_3 : w43.cell? ⟨aZ, 3, none⟩ = some (.int .i64 (pk7 aO aQ ag ai ak am ao ad)) := (blk_cell aY.out 3).trans rfl; have hcz46_4 : w43.cell? ⟨aZ, 4, none⟩ = some (.bool (pk7 aX aH aI aJ aK aL aM ad)) := (blk_cell aY.out 4).trans rfl; have hcz46_5 : w43.cell? ⟨aZ, 5, none⟩ = some (.int .i64 (pk7 aV aw ay aA aC aE aG ad)) := (blk_cell aY.out 5).trans rfl; have hfz46_0 := blk_frozen aY.out 0; have hfz46_1 := blk_frozen aY.out 1; have hfz46_2 := blk_frozen aY.out 2; have hfz46_3 := blk_frozen aY.out 3; have hfz46_4 := blk_frozen aY.out 4; have hfz46_5 := blk_frozen aY.out 5; have hnb47 := bX.out; have hnc47 := bk.out; have hcz48_0 : w43.cell? ⟨aT, 0, none⟩ = some (.bool (pk7 aR aS ap aq ar au av ab)) := (blk_cell ae.out 0).trans rfl; have hcz48_1 : w43.cell? ⟨aT, 1, none⟩ = some (.int .i64 (pk7 aN aP af ah aj al an ab)) := (blk_cell ae.out 1).trans rfl; have hcz48_2 : w43.cell? ⟨aT, 2, none⟩ = some (.int .i64 (pk7 aU aW ax az aB aD aF ab)) := (blk_cell ae.out 2).trans rfl; have hcz48_3 : w43.cell? ⟨aT, 3, none⟩ = some (.int .i64 (pk7 aO aQ ag ai ak am ao ab)) := (blk_cell ae.out 3).trans rfl; have hcz48_4 : w43.cell? ⟨aT, 4, none⟩ = some (.bool (pk7 aX aH aI aJ aK aL aM ab)) := (blk_cell ae.out 4).trans rfl; have hcz48_5 : w43.cell? ⟨aT, 5, none⟩ = some (.int .i64 (pk7 aV aw ay aA aC aE aG ab)) := (blk_cell ae.out 5).trans rfl; have hfz48_0 := blk_frozen ae.out 0; have hfz48_1 := blk_frozen ae.out 1; have hfz48_2 := blk_frozen ae.out 2; have hfz48_3 := blk_frozen ae.out 3; have hfz48_4 := blk_frozen ae.out 4; have hfz48_5 := blk_frozen ae.out 5))
                     go_roundg k4
                     case measure => have := HJ1.out; have := HK2.out; have := HJ10.out; have := HK4.out; omega
                     case rel => exact ⟨(wrap64 (ad + 1)), (by first | rfl | (simp; done) | (simp [*]; done)), H', ⟨by have := HJ1.out; have := HK2.out; have := HJ10.out; have := HK4.out; omega⟩, ⟨by (with_reducible repeat (first | refine blk_drewN ?_ _ | refine blk_drew ?_ | refine blk_alloc ?_ _)); exact aa.out⟩, ⟨by (with_reducible repeat (first | refine blk_drewN ?_ _ | refine blk_drew ?_ | refine blk_alloc ?_ _)); exact ae.out⟩, ⟨zho HB⟩⟩
                    ·rw [if_neg c41] at H
                     have c41b0 : ((pk7 aO aQ ag ai ak am ao ab) == 0) = false := beq_eq_false_iff_ne.mpr c41
                     have c41b1 : ((pk7 aO aQ ag ai ak am ao ab) != 0) = true := bne_iff_ne.mpr c41
                     obtain rfl := Option.some.inj H
                     have vp290 : (0 ≤ (ad : Int)) = True := eq_true (of_decide_eq_true (by first | (with_reducible assumption) | assumption))
                     have vq290 : ((ad : Int) < (7 : Int)) = True := eq_true (of_decide_eq_true (by first | (with_reducible assumption) | assumption))
                     have b2 : wr.cell? ⟨ac, ad.toNat * 6, none⟩ = some (.bool (pk7 aR aS ap aq ar au av ad)) := cellA27_0_0 (ad) (of_decide_eq_true (by first | (with_reducible assumption) | assumption)) (of_decide_eq_true (by first | (with_reducible assumption) | assumption)) aa.out
                     have b3 : wr.cell? ⟨ac, ad.toNat * 6 + 1, none⟩ = some (.int .i64 (pk7 aN aP af ah aj al an ad)) := cellA27_0_1 (ad) (of_decide_eq_true (by first | (with_reducible assumption) | assumption)) (of_decide_eq_true (by first | (with_reducible assumption) | assumption)) aa.out
                     have b4 : wr.cell? ⟨ac, ad.toNat * 6 + 2, none⟩ = some (.int .i64 (pk7 aU aW ax az aB aD aF ad)) := cellA27_0_2 (ad) (of_decide_eq_true (by first | (with_reducible assumption) | assumption)) (of_decide_eq_true (by first | (with_reducible assumption) | assumption)) aa.out
                     have b5 : wr.cell? ⟨ac, ad.toNat * 6 + 3, none⟩ = some (.int .i64 (pk7 aO aQ ag ai ak am ao ad)) := cellA27_0_3 (ad) (of_decide_eq_true (by first | (with_reducible assumption) | assumption)) (of_decide_eq_true (by first | (with_reducible assumption) | assumption)) aa.out
                     have b6 : wr.cell? ⟨ac, ad.toNat * 6 + 4, none⟩ = some (.bool (pk7 aX aH aI aJ aK aL aM ad)) := cellA27_0_4 (ad) (of_decide_eq_true (by first | (with_reducible assumption) | assumption)) (of_decide_eq_true (by first | (with_reducible assumption) | assumption)) aa.out
                     have b7 : wr.cell? ⟨ac, ad.toNat * 6 + 5, none⟩ = some (.int .i64 (pk7 aV aw ay aA aC aE aG ad)) := cellA27_0_5 (ad) (of_decide_eq_true (by first | (with_reducible assumption) | assumption)) (of_decide_eq_true (by first | (with_reducible assumption) | assumption)) aa.out
                     go_wp2_with (first | ((with_reducible refine gate_dst (N := 57) rfl ?_); refine seg_load_cells (t := 24) (p := 56) (g := ac) (off := ad.toNat * 6) (vs := [.bool (pk7 aR aS ap aq ar au av ad), .int .i64 (pk7 aN aP af ah aj al an ad), .int .i64 (pk7 aU aW ax az aB aD aF ad), .int .i64 (pk7 aO aQ ag ai ak am ao ad), .bool (pk7 aX aH aI aJ aK aL aM ad), .int .i64 (pk7 aV aw ay aA aC aE aG ad)]) ?hg ?ho ?hp ?hl Try.underlying24 ?hd ?hi ?_; (case ho => rfl); (case hg => first | rfl | (go_simp; done) | (simp [Region.wanted, yielded, *]; done)); (case hp => rfl); (case hl => exact cells6 b2 b3 b4 b5 b6 b7); (case hd => rfl); (case hi => kernel_rfl)) | ((with_reducible refine gate_dst (N := 6) rfl ?_); refine box_event ?hg (N := 6) ?hd (cs := #[.bool false, .int .i64 0, .int .i64 0, .int .i64 0, .bool false, .int .i64 0]) (t := 24) ?hr ?_; (case hd => rfl); (case hg => rfl); (case hr => first | (go_simp; done) | (go_simp; rfl)); intro aZ hg w49 hbox hb; have aY := Aside0.mk hbox; have fh := zhs HB hg; have bZ := zhs HB hg; have bA := znl aa hg; have b0 := zng aa hg; have bB := znl ae hg; have b1 := zng ae hg; replace aa := zbB aa hb; replace ae := zbB ae hb; replace HB := zhB HB hb; clear hb hbox hg) | ((with_reducible refine gate_store (t := 24) (p := 6) rfl ?_); refine seg_event (t := 24) (p := 6) (x := ?xo_w50) (g := aZ) (off := 0) (T := 24) (cur := #[.bool false, .int .i64 0, .int .i64 0, .int .i64 0, .bool false, .int .i64 0]) (vs := [.bool (pk7 aR aS ap aq ar au av ad), .int .i64 (pk7 aN aP af ah aj al an ad), .int .i64 (pk7 aU aW ax az aB aD aF ad), .int .i64 (pk7 aO aQ ag ai ak am ao ad), .bool (pk7 aX aH aI aJ aK aL aM ad), .int .i64 (pk7 aV aw ay aA aC aE aG ad)]) (new := #[.bool (pk7 aR aS ap aq ar au av ad), .int .i64 (pk7 aN aP af ah aj al an ad), .int .i64 (pk7 aU aW ax az aB aD aF ad), .int .i64 (pk7 aO aQ ag ai ak am ao ad), .bool (pk7 aX aH aI aJ aK aL aM ad), .int .i64 (pk7 aV aw ay aA aC aE aG ad)]) ?hg ?ho ?hn ?hp ?hv ?hb ?hi ?hf ?h1 ?hw ?_; (case ho => rfl); (case hg => rfl); (case hn => rfl); (case hp => rfl); (case hv => first | rfl | (go_simp; done) | (simp [*]; done)); (case hb => exact aY.out); (case hi => kernel_rfl); (case hf => exact Nat.le_of_ble_eq_true rfl); (case h1 => rfl); (case hw => rfl); intro w50 hbox hg hbl; replace aa := zbG aa hg bA; replace ae := zbG ae hg bB; replace aY := Aside0.mk hbox; replace HB := zhL hbl HB bZ; clear hbox hg hbl; have hnb51 := b0.out; have hnc51 := bA.out; have hnb52 := b1.out; have hnc52 := bB.out; have hcz53_0 : w50.cell? ⟨aZ, 0, none⟩ = some (.bool (pk7 aR aS ap aq ar au av ad)) := (blk_cell aY.out 0).trans rfl; have hcz53_1 : w50.cell? ⟨aZ, 1, none⟩ = some (.int .i64 (pk7 aN aP af ah aj al an ad)) := (blk_cell aY.out 1).trans rfl; have hcz53_2 : w50.cell? ⟨aZ, 2, none⟩ = some (.int .i64 (pk7 aU aW ax az aB aD aF ad)) := (blk_cell aY.out 2).trans rfl; have hcz53_3 : w50.cell? ⟨aZ, 3, none⟩ = some (.int .i64 (pk7 aO aQ ag ai ak am ao ad)) := (blk_cell aY.out 3).trans rfl; have hcz53_4 : w50.cell? ⟨aZ, 4, none⟩ = some (.bool (pk7 aX aH aI aJ aK aL aM ad)) := (blk_cell aY.out 4).trans rfl; have hcz53_5 : w50.cell? ⟨aZ, 5, none⟩ = some (.int .i64 (pk7 aV aw ay aA aC aE aG ad)) := (blk_cell aY.out 5).trans rfl; have hfz53_0 := blk_frozen aY.out 0; have hfz53_1 := blk_frozen aY.out 1; have hfz53_2 := blk_frozen aY.out 2; have hfz53_3 := blk_frozen aY.out 3; have hfz53_4 := blk_frozen aY.out 4; have hfz53_5 := blk_frozen aY.out 5; have hnb54 := bX.out; have hnc54 := bk.out; have hcz55_0 : w50.cell? ⟨aT, 0, none⟩ = some (.bool (pk7 aR aS ap aq ar au av ab)) := (blk_cell ae.out 0).trans rfl; have hcz55_1 : w50.cell? ⟨aT, 1, none⟩ = some (.int .i64 (pk7 aN aP af ah aj al an ab)) := (blk_cell ae.out 1).trans rfl; have hcz55_2 : w50.cell? ⟨aT, 2, none⟩ = some (.int .i64 (pk7 aU aW ax az aB aD aF ab)) := (blk_cell ae.out 2).trans rfl; have hcz55_3 : w50.cell? ⟨aT, 3, none⟩ = some (.int .i64 (pk7 aO aQ ag ai ak am ao ab)) := (blk_cell ae.out 3).trans rfl; have hcz55_4 : w50.cell? ⟨aT, 4, none⟩ = some (.bool (pk7 aX aH aI aJ aK aL aM ab)) := (blk_cell ae.out 4).trans rfl; have hcz55_5 : w50.cell? ⟨aT, 5, none⟩ = some (.int .i64 (pk7 aV aw ay aA aC aE aG ab)) := (blk_cell ae.out 5).trans rfl; have hfz55_0 := blk_frozen ae.out 0; have hfz55_1 := blk_frozen ae.out 1; have hfz55_2 := blk_frozen ae.out 2; have hfz55_3 := blk_frozen ae.out 3; have hfz55_4 := blk_frozen ae.out 4; have hfz55_5 := blk_frozen ae.out 5))
                     go_ret
                     exact ⟨by first | rfl | (simp [errW_none, errW_some] <;> rfl) | (simp [*, errW_none, errW_some] <;> rfl), zho HB⟩
                   ·rw [if_neg c40] at H
                    have c40b0 : ((pk7 aO aQ ag ai ak am ao ad) == (pk7 aO aQ ag ai ak am ao ab)) = false := beq_eq_false_iff_ne.mpr c40
                    have c40b1 : ((pk7 aO aQ ag ai ak am ao ad) != (pk7 aO aQ ag ai ak am ao ab)) = true := bne_iff_ne.mpr c40
                    have H' := Aside0.mk H
                    clear H
                    have vp290 : (0 ≤ (ad : Int)) = True := eq_true (of_decide_eq_true (by first | (with_reducible assumption) | assumption))
                    have vq290 : ((ad : Int) < (7 : Int)) = True := eq_true (of_decide_eq_true (by first | (with_reducible assumption) | assumption))
                    have b2 : wr.cell? ⟨ac, ad.toNat * 6, none⟩ = some (.bool (pk7 aR aS ap aq ar au av ad)) := cellA27_0_0 (ad) (of_decide_eq_true (by first | (with_reducible assumption) | assumption)) (of_decide_eq_true (by first | (with_reducible assumption) | assumption)) aa.out
                    have b3 : wr.cell? ⟨ac, ad.toNat * 6 + 1, none⟩ = some (.int .i64 (pk7 aN aP af ah aj al an ad)) := cellA27_0_1 (ad) (of_decide_eq_true (by first | (with_reducible assumption) | assumption)) (of_decide_eq_true (by first | (with_reducible assumption) | assumption)) aa.out
                    have b4 : wr.cell? ⟨ac, ad.toNat * 6 + 2, none⟩ = some (.int .i64 (pk7 aU aW ax az aB aD aF ad)) := cellA27_0_2 (ad) (of_decide_eq_true (by first | (with_reducible assumption) | assumption)) (of_decide_eq_true (by first | (with_reducible assumption) | assumption)) aa.out
                    have b5 : wr.cell? ⟨ac, ad.toNat * 6 + 3, none⟩ = some (.int .i64 (pk7 aO aQ ag ai ak am ao ad)) := cellA27_0_3 (ad) (of_decide_eq_true (by first | (with_reducible assumption) | assumption)) (of_decide_eq_true (by first | (with_reducible assumption) | assumption)) aa.out
                    have b6 : wr.cell? ⟨ac, ad.toNat * 6 + 4, none⟩ = some (.bool (pk7 aX aH aI aJ aK aL aM ad)) := cellA27_0_4 (ad) (of_decide_eq_true (by first | (with_reducible assumption) | assumption)) (of_decide_eq_true (by first | (with_reducible assumption) | assumption)) aa.out
                    have b7 : wr.cell? ⟨ac, ad.toNat * 6 + 5, none⟩ = some (.int .i64 (pk7 aV aw ay aA aC aE aG ad)) := cellA27_0_5 (ad) (of_decide_eq_true (by first | (with_reducible assumption) | assumption)) (of_decide_eq_true (by first | (with_reducible assumption) | assumption)) aa.out
                    go_wp2_with (first | ((with_reducible refine gate_dst (N := 57) rfl ?_); refine seg_load_cells (t := 24) (p := 56) (g := ac) (off := ad.toNat * 6) (vs := [.bool (pk7 aR aS ap aq ar au av ad), .int .i64 (pk7 aN aP af ah aj al an ad), .int .i64 (pk7 aU aW ax az aB aD aF ad), .int .i64 (pk7 aO aQ ag ai ak am ao ad), .bool (pk7 aX aH aI aJ aK aL aM ad), .int .i64 (pk7 aV aw ay aA aC aE aG ad)]) ?hg ?ho ?hp ?hl Try.underlying24 ?hd ?hi ?_; (case ho => rfl); (case hg => first | rfl | (go_simp; done) | (simp [Region.wanted, yielded, *]; done)); (case hp => rfl); (case hl => exact cells6 b2 b3 b4 b5 b6 b7); (case hd => rfl); (case hi => kernel_rfl)) | ((with_reducible refine gate_dst (N := 6) rfl ?_); refine box_event ?hg (N := 6) ?hd (cs := #[.bool false, .int .i64 0, .int .i64 0, .int .i64 0, .bool false, .int .i64 0]) (t := 24) ?hr ?_; (case hd => rfl); (case hg => rfl); (case hr => first | (go_simp; done) | (go_simp; rfl)); intro aZ hg w56 hbox hb; have aY := Aside0.mk hbox; have fh := zhs HB hg; have bZ := zhs HB hg; have bA := znl aa hg; have b0 := zng aa hg; have bB := znl ae hg; have b1 := zng ae hg; replace aa := zbB aa hb; replace ae := zbB ae hb; replace HB := zhB HB hb; clear hb hbox hg) | ((with_reducible refine gate_store (t := 24) (p := 6) rfl ?_); refine seg_event (t := 24) (p := 6) (x := ?xo_w57) (g := aZ) (off := 0) (T := 24) (cur := #[.bool false, .int .i64 0, .int .i64 0, .int .i64 0, .bool false, .int .i64 0]) (vs := [.bool (pk7 aR aS ap aq ar au av ad), .int .i64 (pk7 aN aP af ah aj al an ad), .int .i64 (pk7 aU aW ax az aB aD aF ad), .int .i64 (pk7 aO aQ ag ai ak am ao ad), .bool (pk7 aX aH aI aJ aK aL aM ad), .int .i64 (pk7 aV aw ay aA aC aE aG ad)]) (new := #[.bool (pk7 aR aS ap aq ar au av ad), .int .i64 (pk7 aN aP af ah aj al an ad), .int .i64 (pk7 aU aW ax az aB aD aF ad), .int .i64 (pk7 aO aQ ag ai ak am ao ad), .bool (pk7 aX aH aI aJ aK aL aM ad), .int .i64 (pk7 aV aw ay aA aC aE aG ad)]) ?hg ?ho ?hn ?hp ?hv ?hb ?hi ?hf ?h1 ?hw ?_; (case ho => rfl); (case hg => rfl); (case hn => rfl); (case hp => rfl); (case hv => first | rfl | (go_simp; done) | (simp [*]; done)); (case hb => exact aY.out); (case hi => kernel_rfl); (case hf => exact Nat.le_of_ble_eq_true rfl); (case h1 => rfl); (case hw => rfl); intro w57 hbox hg hbl; replace aa := zbG aa hg bA; replace ae := zbG ae hg bB; replace aY := Aside0.mk hbox; replace HB := zhL hbl HB bZ; clear hbox hg hbl; have hnb58 := b0.out; have hnc58 := bA.out; have hnb59 := b1.out; have hnc59 := bB.out; have hcz60_0 : w57.cell? ⟨aZ, 0, none⟩ = some (.bool (pk7 aR aS ap aq ar au av ad)) := (blk_cell aY.out 0).trans rfl; have hcz60_1 : w57.cell? ⟨aZ, 1, none⟩ = some (.int .i64 (pk7 aN aP af ah aj al an ad)) := (blk_cell aY.out 1).trans rfl; have hcz60_2 : w57.cell? ⟨aZ, 2, none⟩ = some (.int .i64 (pk7 aU aW ax az aB aD aF ad)) := (blk_cell aY.out 2).trans rfl; have hcz60_3 : w57.cell? ⟨aZ, 3, none⟩ = some (.int .i64 (pk7 aO aQ ag ai ak am ao ad)) := (blk_cell aY.out 3).trans rfl; have hcz60_4 : w57.cell? ⟨aZ, 4, none⟩ = some (.bool (pk7 aX aH aI aJ aK aL aM ad)) := (blk_cell aY.out 4).trans rfl; have hcz60_5 : w57.cell? ⟨aZ, 5, none⟩ = some (.int .i64 (pk7 aV aw ay aA aC aE aG ad)) := (blk_cell aY.out 5).trans rfl; have hfz60_0 := blk_frozen aY.out 0; have hfz60_1 := blk_frozen aY.out 1; have hfz60_2 := blk_frozen aY.out 2; have hfz60_3 := blk_frozen aY.out 3; have hfz60_4 := blk_frozen aY.out 4; have hfz60_5 := blk_frozen aY.out 5; have hnb61 := bX.out; have hnc61 := bk.out; have hcz62_0 : w57.cell? ⟨aT, 0, none⟩ = some (.bool (pk7 aR aS ap aq ar au av ab)) := (blk_cell ae.out 0).trans rfl; have hcz62_1 : w57.cell? ⟨aT, 1, none⟩ = some (.int .i64 (pk7 aN aP af ah aj al an ab)) := (blk_cell ae.out 1).trans rfl; have hcz62_2 : w57.cell? ⟨aT, 2, none⟩ = some (.int .i64 (pk7 aU aW ax az aB aD aF ab)) := (blk_cell ae.out 2).trans rfl; have hcz62_3 : w57.cell? ⟨aT, 3, none⟩ = some (.int .i64 (pk7 aO aQ ag ai ak am ao ab)) := (blk_cell ae.out 3).trans rfl; have hcz62_4 : w57.cell? ⟨aT, 4, none⟩ = some (.bool (pk7 aX aH aI aJ aK aL aM ab)) := (blk_cell ae.out 4).trans rfl; have hcz62_5 : w57.cell? ⟨aT, 5, none⟩ = some (.int .i64 (pk7 aV aw ay aA aC aE aG ab)) := (blk_cell ae.out 5).trans rfl; have hfz62_0 := blk_frozen ae.out 0; have hfz62_1 := blk_frozen ae.out 1; have hfz62_2 := blk_frozen ae.out 2; have hfz62_3 := blk_frozen ae.out 3; have hfz62_4 := blk_frozen ae.out 4; have hfz62_5 := blk_frozen ae.out 5))
                    go_roundg k4
                    case measure => have := HJ1.out; have := HK2.out; have := HJ10.out; have := HK4.out; omega
                    case rel => exact ⟨(wrap64 (ad + 1)), (by first | rfl | (simp; done) | (simp [*]; done)), H', ⟨by have := HJ1.out; have := HK2.out; have := HJ10.out; have := HK4.out; omega⟩, ⟨by (with_reducible repeat (first | refine blk_drewN ?_ _ | refine blk_drew ?_ | refine blk_alloc ?_ _)); exact aa.out⟩, ⟨by (with_reducible repeat (first | refine blk_drewN ?_ _ | refine blk_drew ?_ | refine blk_alloc ?_ _)); exact ae.out⟩, ⟨zho HB⟩⟩
                 ·rw [if_neg c31] at H
                  have c31b0 : pk7 aR aS ap aq ar au av ad = false := by simpa using c31
                  clear c31
                  have H' := Aside0.mk H
                  clear H
                  have vp290 : (0 ≤ (ad : Int)) = True := eq_true (of_decide_eq_true (by first | (with_reducible assumption) | assumption))
                  have vq290 : ((ad : Int) < (7 : Int)) = True := eq_true (of_decide_eq_true (by first | (with_reducible assumption) | assumption))
                  have b2 : wr.cell? ⟨ac, ad.toNat * 6, none⟩ = some (.bool (pk7 aR aS ap aq ar au av ad)) := cellA27_0_0 (ad) (of_decide_eq_true (by first | (with_reducible assumption) | assumption)) (of_decide_eq_true (by first | (with_reducible assumption) | assumption)) aa.out
                  have b3 : wr.cell? ⟨ac, ad.toNat * 6 + 1, none⟩ = some (.int .i64 (pk7 aN aP af ah aj al an ad)) := cellA27_0_1 (ad) (of_decide_eq_true (by first | (with_reducible assumption) | assumption)) (of_decide_eq_true (by first | (with_reducible assumption) | assumption)) aa.out
                  have b4 : wr.cell? ⟨ac, ad.toNat * 6 + 2, none⟩ = some (.int .i64 (pk7 aU aW ax az aB aD aF ad)) := cellA27_0_2 (ad) (of_decide_eq_true (by first | (with_reducible assumption) | assumption)) (of_decide_eq_true (by first | (with_reducible assumption) | assumption)) aa.out
                  have b5 : wr.cell? ⟨ac, ad.toNat * 6 + 3, none⟩ = some (.int .i64 (pk7 aO aQ ag ai ak am ao ad)) := cellA27_0_3 (ad) (of_decide_eq_true (by first | (with_reducible assumption) | assumption)) (of_decide_eq_true (by first | (with_reducible assumption) | assumption)) aa.out
                  have b6 : wr.cell? ⟨ac, ad.toNat * 6 + 4, none⟩ = some (.bool (pk7 aX aH aI aJ aK aL aM ad)) := cellA27_0_4 (ad) (of_decide_eq_true (by first | (with_reducible assumption) | assumption)) (of_decide_eq_true (by first | (with_reducible assumption) | assumption)) aa.out
                  have b7 : wr.cell? ⟨ac, ad.toNat * 6 + 5, none⟩ = some (.int .i64 (pk7 aV aw ay aA aC aE aG ad)) := cellA27_0_5 (ad) (of_decide_eq_true (by first | (with_reducible assumption) | assumption)) (of_decide_eq_true (by first | (with_reducible assumption) | assumption)) aa.out
                  go_wp2_with (first | ((with_reducible refine gate_dst (N := 57) rfl ?_); refine seg_load_cells (t := 24) (p := 56) (g := ac) (off := ad.toNat * 6) (vs := [.bool (pk7 aR aS ap aq ar au av ad), .int .i64 (pk7 aN aP af ah aj al an ad), .int .i64 (pk7 aU aW ax az aB aD aF ad), .int .i64 (pk7 aO aQ ag ai ak am ao ad), .bool (pk7 aX aH aI aJ aK aL aM ad), .int .i64 (pk7 aV aw ay aA aC aE aG ad)]) ?hg ?ho ?hp ?hl Try.underlying24 ?hd ?hi ?_; (case ho => rfl); (case hg => first | rfl | (go_simp; done) | (simp [Region.wanted, yielded, *]; done)); (case hp => rfl); (case hl => exact cells6 b2 b3 b4 b5 b6 b7); (case hd => rfl); (case hi => kernel_rfl)) | ((with_reducible refine gate_dst (N := 6) rfl ?_); refine box_event ?hg (N := 6) ?hd (cs := #[.bool false, .int .i64 0, .int .i64 0, .int .i64 0, .bool false, .int .i64 0]) (t := 24) ?hr ?_; (case hd => rfl); (case hg => rfl); (case hr => first | (go_simp; done) | (go_simp; rfl)); intro aZ hg w63 hbox hb; have aY := Aside0.mk hbox; have fh := zhs HB hg; have bZ := zhs HB hg; have bA := znl aa hg; have b0 := zng aa hg; have bB := znl ae hg; have b1 := zng ae hg; replace aa := zbB aa hb; replace ae := zbB ae hb; replace HB := zhB HB hb; clear hb hbox hg) | ((with_reducible refine gate_store (t := 24) (p := 6) rfl ?_); refine seg_event (t := 24) (p := 6) (x := ?xo_w64) (g := aZ) (off := 0) (T := 24) (cur := #[.bool false, .int .i64 0, .int .i64 0, .int .i64 0, .bool false, .int .i64 0]) (vs := [.bool (pk7 aR aS ap aq ar au av ad), .int .i64 (pk7 aN aP af ah aj al an ad), .int .i64 (pk7 aU aW ax az aB aD aF ad), .int .i64 (pk7 aO aQ ag ai ak am ao ad), .bool (pk7 aX aH aI aJ aK aL aM ad), .int .i64 (pk7 aV aw ay aA aC aE aG ad)]) (new := #[.bool (pk7 aR aS ap aq ar au av ad), .int .i64 (pk7 aN aP af ah aj al an ad), .int .i64 (pk7 aU aW ax az aB aD aF ad), .int .i64 (pk7 aO aQ ag ai ak am ao ad), .bool (pk7 aX aH aI aJ aK aL aM ad), .int .i64 (pk7 aV aw ay aA aC aE aG ad)]) ?hg ?ho ?hn ?hp ?hv ?hb ?hi ?hf ?h1 ?hw ?_; (case ho => rfl); (case hg => rfl); (case hn => rfl); (case hp => rfl); (case hv => first | rfl | (go_simp; done) | (simp [*]; done)); (case hb => exact aY.out); (case hi => kernel_rfl); (case hf => exact Nat.le_of_ble_eq_true rfl); (case h1 => rfl); (case hw => rfl); intro w64 hbox hg hbl; replace aa := zbG aa hg bA; replace ae := zbG ae hg bB; replace aY := Aside0.mk hbox; replace HB := zhL hbl HB bZ; clear hbox hg hbl; have hnb65 := b0.out; have hnc65 := bA.out; have hnb66 := b1.out; have hnc66 := bB.out; have hcz67_0 : w64.cell? ⟨aZ, 0, none⟩ = some (.bool (pk7 aR aS ap aq ar au av ad)) := (blk_cell aY.out 0).trans rfl; have hcz67_1 : w64.cell? ⟨aZ, 1, none⟩ = some (.int .i64 (pk7 aN aP af ah aj al an ad)) := (blk_cell aY.out 1).trans rfl; have hcz67_2 : w64.cell? ⟨aZ, 2, none⟩ = some (.int .i64 (pk7 aU aW ax az aB aD aF ad)) := (blk_cell aY.out 2).trans rfl; have hcz67_3 : w64.cell? ⟨aZ, 3, none⟩ = some (.int .i64 (pk7 aO aQ ag ai ak am ao ad)) := (blk_cell aY.out 3).trans rfl; have hcz67_4 : w64.cell? ⟨aZ, 4, none⟩ = some (.bool (pk7 aX aH aI aJ aK aL aM ad)) := (blk_cell aY.out 4).trans rfl; have hcz67_5 : w64.cell? ⟨aZ, 5, none⟩ = some (.int .i64 (pk7 aV aw ay aA aC aE aG ad)) := (blk_cell aY.out 5).trans rfl; have hfz67_0 := blk_frozen aY.out 0; have hfz67_1 := blk_frozen aY.out 1; have hfz67_2 := blk_frozen aY.out 2; have hfz67_3 := blk_frozen aY.out 3; have hfz67_4 := blk_frozen aY.out 4; have hfz67_5 := blk_frozen aY.out 5))
                  go_roundg k4
                  case measure => have := HJ1.out; have := HK2.out; have := HJ10.out; have := HK4.out; omega
                  case rel => exact ⟨(wrap64 (ad + 1)), (by first | rfl | (simp; done) | (simp [*]; done)), H', ⟨by have := HJ1.out; have := HK2.out; have := HJ10.out; have := HK4.out; omega⟩, ⟨by (with_reducible repeat (first | refine blk_drewN ?_ _ | refine blk_drew ?_ | refine blk_alloc ?_ _)); exact aa.out⟩, ⟨by (with_reducible repeat (first | refine blk_drewN ?_ _ | refine blk_drew ?_ | refine blk_alloc ?_ _)); exact ae.out⟩, ⟨zho HB⟩⟩
                ·rw [if_neg c30] at H
                 exact absurd H (by simp)
               ·rw [if_neg c29] at H
                exact absurd H (by simp)
              ·rw [if_neg c28] at H
               have c28b0 : decide (ad < ab) = false := decide_eq_false c28
               clear c28
               have H' := Aside0.mk H
               clear H
               go_wp2
               go_roundg k4
               case measure => have := HJ1.out; have := HK2.out; have := HJ10.out; have := HK4.out; omega
               case rel => exact ⟨(wrap64 (ab + 1)), (by first | rfl | (simp; done) | (simp [*]; done)), H', ⟨by have := HJ1.out; have := HK2.out; have := HJ10.out; have := HK4.out; omega⟩, ⟨by (with_reducible repeat (first | refine blk_drewN ?_ _ | refine blk_drew ?_ | refine blk_alloc ?_ _)); exact aa.out⟩, ⟨zho HB⟩⟩
        ·rw [if_neg c10] at H
         have c10b0 : pk7 aR aS ap aq ar au av ab = false := by simpa using c10
         clear c10
         by_cases c68 : ((pk7 aR aS ap aq ar au av ab) || (!((pk7 aN aP af ah aj al an ab) == 0) || (!((pk7 aU aW ax az aB aD aF ab) == 0) || (!((pk7 aO aQ ag ai ak am ao ab) == 0) || ((pk7 aX aH aI aJ aK aL aM ab) || (!((pk7 aV aw ay aA aC aE aG ab) == 0))))))) = true
         ·rw [if_pos c68] at H
          have c68b0 : ((pk7 aR aS ap aq ar au av ab) || (!((pk7 aN aP af ah aj al an ab) == 0) || (!((pk7 aU aW ax az aB aD aF ab) == 0) || (!((pk7 aO aQ ag ai ak am ao ab) == 0) || ((pk7 aX aH aI aJ aK aL aM ab) || (!((pk7 aV aw ay aA aC aE aG ab) == 0))))))) = true := c68
          (try (have c68b4 := c68b0; simp only [c10b0, Bool.false_or, Bool.true_or, Bool.false_and, Bool.true_and, Bool.not_false, Bool.not_true] at c68b4))
          clear c68
          obtain rfl := Option.some.inj H
          have vp286 : (0 ≤ (ab : Int)) = True := eq_true (of_decide_eq_true (by first | (with_reducible assumption) | assumption))
          have vq286 : ((ab : Int) < (7 : Int)) = True := eq_true (of_decide_eq_true (by first | (with_reducible assumption) | assumption))
          have ce : wr.cell? ⟨ac, ab.toNat * 6, none⟩ = some (.bool (pk7 aR aS ap aq ar au av ab)) := cellA27_0_0 (ab) (of_decide_eq_true (by first | (with_reducible assumption) | assumption)) (of_decide_eq_true (by first | (with_reducible assumption) | assumption)) aa.out
          have cf : wr.cell? ⟨ac, ab.toNat * 6 + 1, none⟩ = some (.int .i64 (pk7 aN aP af ah aj al an ab)) := cellA27_0_1 (ab) (of_decide_eq_true (by first | (with_reducible assumption) | assumption)) (of_decide_eq_true (by first | (with_reducible assumption) | assumption)) aa.out
          have cg : wr.cell? ⟨ac, ab.toNat * 6 + 2, none⟩ = some (.int .i64 (pk7 aU aW ax az aB aD aF ab)) := cellA27_0_2 (ab) (of_decide_eq_true (by first | (with_reducible assumption) | assumption)) (of_decide_eq_true (by first | (with_reducible assumption) | assumption)) aa.out
          have ch : wr.cell? ⟨ac, ab.toNat * 6 + 3, none⟩ = some (.int .i64 (pk7 aO aQ ag ai ak am ao ab)) := cellA27_0_3 (ab) (of_decide_eq_true (by first | (with_reducible assumption) | assumption)) (of_decide_eq_true (by first | (with_reducible assumption) | assumption)) aa.out
          have ci : wr.cell? ⟨ac, ab.toNat * 6 + 4, none⟩ = some (.bool (pk7 aX aH aI aJ aK aL aM ab)) := cellA27_0_4 (ab) (of_decide_eq_true (by first | (with_reducible assumption) | assumption)) (of_decide_eq_true (by first | (with_reducible assumption) | assumption)) aa.out
          have cj : wr.cell? ⟨ac, ab.toNat * 6 + 5, none⟩ = some (.int .i64 (pk7 aV aw ay aA aC aE aG ab)) := cellA27_0_5 (ab) (of_decide_eq_true (by first | (with_reducible assumption) | assumption)) (of_decide_eq_true (by first | (with_reducible assumption) | assumption)) aa.out
          go_wp2_with (first | ((with_reducible refine gate_dst (N := 22) rfl ?_); refine seg_load_cells (t := 24) (p := 21) (g := ac) (off := ab.toNat * 6) (vs := [.bool (pk7 aR aS ap aq ar au av ab), .int .i64 (pk7 aN aP af ah aj al an ab), .int .i64 (pk7 aU aW ax az aB aD aF ab), .int .i64 (pk7 aO aQ ag ai ak am ao ab), .bool (pk7 aX aH aI aJ aK aL aM ab), .int .i64 (pk7 aV aw ay aA aC aE aG ab)]) ?hg ?ho ?hp ?hl Try.underlying24 ?hd ?hi ?_; (case ho => rfl); (case hg => first | rfl | (go_simp; done) | (simp [Region.wanted, yielded, *]; done)); (case hp => rfl); (case hl => exact cells6 ce cf cg ch ci cj); (case hd => rfl); (case hi => kernel_rfl)) | ((with_reducible refine gate_dst (N := 4) rfl ?_); refine box_event ?hg (N := 4) ?hd (cs := #[.bool false, .int .i64 0, .int .i64 0, .int .i64 0, .bool false, .int .i64 0]) (t := 24) ?hr ?_; (case hd => rfl); (case hg => rfl); (case hr => first | (go_simp; done) | (go_simp; rfl)); intro aT hg w69 hbox hb; have ae := Aside0.mk hbox; have i9 := zhs HB hg; have bc := zhs HB hg; have bk := znl aa hg; have bX := zng aa hg; replace aa := zbB aa hb; replace HB := zhB HB hb; clear hb hbox hg) | ((with_reducible refine gate_store (t := 24) (p := 4) rfl ?_); refine seg_event (t := 24) (p := 4) (x := ?xo_w70) (g := aT) (off := 0) (T := 24) (cur := #[.bool false, .int .i64 0, .int .i64 0, .int .i64 0, .bool false, .int .i64 0]) (vs := [.bool (pk7 aR aS ap aq ar au av ab), .int .i64 (pk7 aN aP af ah aj al an ab), .int .i64 (pk7 aU aW ax az aB aD aF ab), .int .i64 (pk7 aO aQ ag ai ak am ao ab), .bool (pk7 aX aH aI aJ aK aL aM ab), .int .i64 (pk7 aV aw ay aA aC aE aG ab)]) (new := #[.bool (pk7 aR aS ap aq ar au av ab), .int .i64 (pk7 aN aP af ah aj al an ab), .int .i64 (pk7 aU aW ax az aB aD aF ab), .int .i64 (pk7 aO aQ ag ai ak am ao ab), .bool (pk7 aX aH aI aJ aK aL aM ab), .int .i64 (pk7 aV aw ay aA aC aE aG ab)]) ?hg ?ho ?hn ?hp ?hv ?hb ?hi ?hf ?h1 ?hw ?_; (case ho => rfl); (case hg => rfl); (case hn => rfl); (case hp => rfl); (case hv => first | rfl | (go_simp; done) | (simp [*]; done)); (case hb => exact ae.out); (case hi => kernel_rfl); (case hf => exact Nat.le_of_ble_eq_true rfl); (case h1 => rfl); (case hw => rfl); intro w70 hbox hg hbl; replace aa := zbG aa hg bk; replace ae := Aside0.mk hbox; replace HB := zhL hbl HB bc; clear hbox hg hbl; have hnb71 := bX.out; have hnc71 := bk.out; have hcz72_0 : w70.cell? ⟨aT, 0, none⟩ = some (.bool (pk7 aR aS ap aq ar au av ab)) := (blk_cell ae.out 0).trans rfl; have hcz72_1 : w70.cell? ⟨aT, 1, none⟩ = some (.int .i64 (pk7 aN aP af ah aj al an ab)) := (blk_cell ae.out 1).trans rfl; have hcz72_2 : w70.cell? ⟨aT, 2, none⟩ = some (.int .i64 (pk7 aU aW ax az aB aD aF ab)) := (blk_cell ae.out 2).trans rfl; have hcz72_3 : w70.cell? ⟨aT, 3, none⟩ = some (.int .i64 (pk7 aO aQ ag ai ak am ao ab)) := (blk_cell ae.out 3).trans rfl; have hcz72_4 : w70.cell? ⟨aT, 4, none⟩ = some (.bool (pk7 aX aH aI aJ aK aL aM ab)) := (blk_cell ae.out 4).trans rfl; have hcz72_5 : w70.cell? ⟨aT, 5, none⟩ = some (.int .i64 (pk7 aV aw ay aA aC aE aG ab)) := (blk_cell ae.out 5).trans rfl; have hfz72_0 := blk_frozen ae.out 0; have hfz72_1 := blk_frozen ae.out 1; have hfz72_2 := blk_frozen ae.out 2; have hfz72_3 := blk_frozen ae.out 3; have hfz72_4 := blk_frozen ae.out 4; have hfz72_5 := blk_frozen ae.out 5) | ((with_reducible refine gate_dst (N := 26) rfl ?_); refine seg_load_on (t := 24) (p := 4) (g := aT) (off := 0) (T := 24) (cur := #[.bool (pk7 aR aS ap aq ar au av ab), .int .i64 (pk7 aN aP af ah aj al an ab), .int .i64 (pk7 aU aW ax az aB aD aF ab), .int .i64 (pk7 aO aQ ag ai ak am ao ab), .bool (pk7 aX aH aI aJ aK aL aM ab), .int .i64 (pk7 aV aw ay aA aC aE aG ab)]) (vs := [.bool (pk7 aR aS ap aq ar au av ab), .int .i64 (pk7 aN aP af ah aj al an ab), .int .i64 (pk7 aU aW ax az aB aD aF ab), .int .i64 (pk7 aO aQ ag ai ak am ao ab), .bool (pk7 aX aH aI aJ aK aL aM ab), .int .i64 (pk7 aV aw ay aA aC aE aG ab)]) ?hg ?ho ?hp ?hb Try.underlying24 ?hd ?hi ?hw ?_; (case ho => rfl); (case hg => first | rfl | (go_simp; done) | (simp [Region.wanted, yielded, *]; done)); (case hp => rfl); (case hb => exact ae.out); (case hd => rfl); (case hi => kernel_rfl); (case hw => rfl)))
          go_ret
          exact ⟨by first | rfl | (simp [errW_none, errW_some] <;> rfl) | (simp [*, errW_none, errW_some] <;> rfl), zho HB⟩
         ·rw [if_neg c68] at H
          have c68b0 : ((pk7 aR aS ap aq ar au av ab) || (!((pk7 aN aP af ah aj al an ab) == 0) || (!((pk7 aU aW ax az aB aD aF ab) == 0) || (!((pk7 aO aQ ag ai ak am ao ab) == 0) || ((pk7 aX aH aI aJ aK aL aM ab) || (!((pk7 aV aw ay aA aC aE aG ab) == 0))))))) = false := by simpa using c68
          (try (have c68b4 := c68b0; simp only [c10b0, Bool.false_or, Bool.true_or, Bool.false_and, Bool.true_and, Bool.not_false, Bool.not_true] at c68b4))
          clear c68
          have H' := Aside0.mk H
          clear H
          have vp286 : (0 ≤ (ab : Int)) = True := eq_true (of_decide_eq_true (by first | (with_reducible assumption) | assumption))
          have vq286 : ((ab : Int) < (7 : Int)) = True := eq_true (of_decide_eq_true (by first | (with_reducible assumption) | assumption))
          have ce : wr.cell? ⟨ac, ab.toNat * 6, none⟩ = some (.bool (pk7 aR aS ap aq ar au av ab)) := cellA27_0_0 (ab) (of_decide_eq_true (by first | (with_reducible assumption) | assumption)) (of_decide_eq_true (by first | (with_reducible assumption) | assumption)) aa.out
          have cf : wr.cell? ⟨ac, ab.toNat * 6 + 1, none⟩ = some (.int .i64 (pk7 aN aP af ah aj al an ab)) := cellA27_0_1 (ab) (of_decide_eq_true (by first | (with_reducible assumption) | assumption)) (of_decide_eq_true (by first | (with_reducible assumption) | assumption)) aa.out
          have cg : wr.cell? ⟨ac, ab.toNat * 6 + 2, none⟩ = some (.int .i64 (pk7 aU aW ax az aB aD aF ab)) := cellA27_0_2 (ab) (of_decide_eq_true (by first | (with_reducible assumption) | assumption)) (of_decide_eq_true (by first | (with_reducible assumption) | assumption)) aa.out
          have ch : wr.cell? ⟨ac, ab.toNat * 6 + 3, none⟩ = some (.int .i64 (pk7 aO aQ ag ai ak am ao ab)) := cellA27_0_3 (ab) (of_decide_eq_true (by first | (with_reducible assumption) | assumption)) (of_decide_eq_true (by first | (with_reducible assumption) | assumption)) aa.out
          have ci : wr.cell? ⟨ac, ab.toNat * 6 + 4, none⟩ = some (.bool (pk7 aX aH aI aJ aK aL aM ab)) := cellA27_0_4 (ab) (of_decide_eq_true (by first | (with_reducible assumption) | assumption)) (of_decide_eq_true (by first | (with_reducible assumption) | assumption)) aa.out
          have cj : wr.cell? ⟨ac, ab.toNat * 6 + 5, none⟩ = some (.int .i64 (pk7 aV aw ay aA aC aE aG ab)) := cellA27_0_5 (ab) (of_decide_eq_true (by first | (with_reducible assumption) | assumption)) (of_decide_eq_true (by first | (with_reducible assumption) | assumption)) aa.out
          go_wp2_with (first | ((with_reducible refine gate_dst (N := 22) rfl ?_); refine seg_load_cells (t := 24) (p := 21) (g := ac) (off := ab.toNat * 6) (vs := [.bool (pk7 aR aS ap aq ar au av ab), .int .i64 (pk7 aN aP af ah aj al an ab), .int .i64 (pk7 aU aW ax az aB aD aF ab), .int .i64 (pk7 aO aQ ag ai ak am ao ab), .bool (pk7 aX aH aI aJ aK aL aM ab), .int .i64 (pk7 aV aw ay aA aC aE aG ab)]) ?hg ?ho ?hp ?hl Try.underlying24 ?hd ?hi ?_; (case ho => rfl); (case hg => first | rfl | (go_simp; done) | (simp [Region.wanted, yielded, *]; done)); (case hp => rfl); (case hl => exact cells6 ce cf cg ch ci cj); (case hd => rfl); (case hi => kernel_rfl)) | ((with_reducible refine gate_dst (N := 4) rfl ?_); refine box_event ?hg (N := 4) ?hd (cs := #[.bool false, .int .i64 0, .int .i64 0, .int .i64 0, .bool false, .int .i64 0]) (t := 24) ?hr ?_; (case hd => rfl); (case hg => rfl); (case hr => first | (go_simp; done) | (go_simp; rfl)); intro aT hg w73 hbox hb; have ae := Aside0.mk hbox; have i9 := zhs HB hg; have bc := zhs HB hg; have bk := znl aa hg; have bX := zng aa hg; replace aa := zbB aa hb; replace HB := zhB HB hb; clear hb hbox hg) | ((with_reducible refine gate_store (t := 24) (p := 4) rfl ?_); refine seg_event (t := 24) (p := 4) (x := ?xo_w74) (g := aT) (off := 0) (T := 24) (cur := #[.bool false, .int .i64 0, .int .i64 0, .int .i64 0, .bool false, .int .i64 0]) (vs := [.bool (pk7 aR aS ap aq ar au av ab), .int .i64 (pk7 aN aP af ah aj al an ab), .int .i64 (pk7 aU aW ax az aB aD aF ab), .int .i64 (pk7 aO aQ ag ai ak am ao ab), .bool (pk7 aX aH aI aJ aK aL aM ab), .int .i64 (pk7 aV aw ay aA aC aE aG ab)]) (new := #[.bool (pk7 aR aS ap aq ar au av ab), .int .i64 (pk7 aN aP af ah aj al an ab), .int .i64 (pk7 aU aW ax az aB aD aF ab), .int .i64 (pk7 aO aQ ag ai ak am ao ab), .bool (pk7 aX aH aI aJ aK aL aM ab), .int .i64 (pk7 aV aw ay aA aC aE aG ab)]) ?hg ?ho ?hn ?hp ?hv ?hb ?hi ?hf ?h1 ?hw ?_; (case ho => rfl); (case hg => rfl); (case hn => rfl); (case hp => rfl); (case hv => first | rfl | (go_simp; done) | (simp [*]; done)); (case hb => exact ae.out); (case hi => kernel_rfl); (case hf => exact Nat.le_of_ble_eq_true rfl); (case h1 => rfl); (case hw => rfl); intro w74 hbox hg hbl; replace aa := zbG aa hg bk; replace ae := Aside0.mk hbox; replace HB := zhL hbl HB bc; clear hbox hg hbl; have hnb75 := bX.out; have hnc75 := bk.out; have hcz76_0 : w74.cell? ⟨aT, 0, none⟩ = some (.bool (pk7 aR aS ap aq ar au av ab)) := (blk_cell ae.out 0).trans rfl; have hcz76_1 : w74.cell? ⟨aT, 1, none⟩ = some (.int .i64 (pk7 aN aP af ah aj al an ab)) := (blk_cell ae.out 1).trans rfl; have hcz76_2 : w74.cell? ⟨aT, 2, none⟩ = some (.int .i64 (pk7 aU aW ax az aB aD aF ab)) := (blk_cell ae.out 2).trans rfl; have hcz76_3 : w74.cell? ⟨aT, 3, none⟩ = some (.int .i64 (pk7 aO aQ ag ai ak am ao ab)) := (blk_cell ae.out 3).trans rfl; have hcz76_4 : w74.cell? ⟨aT, 4, none⟩ = some (.bool (pk7 aX aH aI aJ aK aL aM ab)) := (blk_cell ae.out 4).trans rfl; have hcz76_5 : w74.cell? ⟨aT, 5, none⟩ = some (.int .i64 (pk7 aV aw ay aA aC aE aG ab)) := (blk_cell ae.out 5).trans rfl; have hfz76_0 := blk_frozen ae.out 0; have hfz76_1 := blk_frozen ae.out 1; have hfz76_2 := blk_frozen ae.out 2; have hfz76_3 := blk_frozen ae.out 3; have hfz76_4 := blk_frozen ae.out 4; have hfz76_5 := blk_frozen ae.out 5) | ((with_reducible refine gate_dst (N := 26) rfl ?_); refine seg_load_on (t := 24) (p := 4) (g := aT) (off := 0) (T := 24) (cur := #[.bool (pk7 aR aS ap aq ar au av ab), .int .i64 (pk7 aN aP af ah aj al an ab), .int .i64 (pk7 aU aW ax az aB aD aF ab), .int .i64 (pk7 aO aQ ag ai ak am ao ab), .bool (pk7 aX aH aI aJ aK aL aM ab), .int .i64 (pk7 aV aw ay aA aC aE aG ab)]) (vs := [.bool (pk7 aR aS ap aq ar au av ab), .int .i64 (pk7 aN aP af ah aj al an ab), .int .i64 (pk7 aU aW ax az aB aD aF ab), .int .i64 (pk7 aO aQ ag ai ak am ao ab), .bool (pk7 aX aH aI aJ aK aL aM ab), .int .i64 (pk7 aV aw ay aA aC aE aG ab)]) ?hg ?ho ?hp ?hb Try.underlying24 ?hd ?hi ?hw ?_; (case ho => rfl); (case hg => first | rfl | (go_simp; done) | (simp [Region.wanted, yielded, *]; done)); (case hp => rfl); (case hb => exact ae.out); (case hd => rfl); (case hi => kernel_rfl); (case hw => rfl)))
          go_roundg k2
          case measure => have := HJ1.out; have := HK2.out; omega
          case rel => exact ⟨(wrap64 (ab + 1)), (by first | rfl | (simp; done) | (simp [*]; done)), H', ⟨by have := HJ1.out; have := HK2.out; omega⟩, ⟨by (with_reducible repeat (first | refine blk_drewN ?_ _ | refine blk_drew ?_ | refine blk_alloc ?_ _)); exact aa.out⟩, ⟨zho HB⟩⟩
       ·rw [if_neg c9] at H
        exact absurd H (by simp)
      ·rw [if_neg c8] at H
       have c8b0 : decide (ab < 7) = false := decide_eq_false c8
       clear c8
       obtain rfl := Option.some.inj H
       go_wp2
       go_ret
       exact ⟨by first | rfl | (simp [errW_none, errW_some] <;> rfl) | (simp [*, errW_none, errW_some] <;> rfl), zho HB⟩

end Go.Proofs.Ytjenkcgjpdappaa.P
