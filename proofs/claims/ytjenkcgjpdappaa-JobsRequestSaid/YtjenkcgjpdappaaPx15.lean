-- Printed by a session's own program (wip/turnprint.py, wip/myprint.sh) over the translation's print. -- slim -- short -- s4
import Derived.Test.YtjenkcgjpdappaaPx0
import Derived.Test.YtjenkcgjpdappaaPx10
import Derived.Test.YtjenkcgjpdappaaPx11
namespace Go.Proofs.Ytjenkcgjpdappaa.P
open Go.RowKit Go.Proofs.YtjenkcgjpdappaaW.PrintWords Go.Proofs.YtjenkcgjpdappaaW.PrintLast Go.Proofs.YtjenkcgjpdappaaW.PrintMore
attribute [local go_sem] max2_int min2_int max_two min_two max_three min_three max_four min_four   -- for this text's walks alone
set_option linter.unusedVariables false
set_option linter.unusedSimpArgs false

/-! ### periluneref23_Request: function 17 -/
mutual
def periluneref23_Request.j0 : Nat → Int → Int → Int → Bool → Bool → Int → Int → Int → Bool → Int → Bool → Int → Int → Int → Bool → Int → Bool → Int → Int → Int → Bool → Int → Bool → Int → Int → Int → Bool → Int → Bool → Int → Int → Int → Bool → Int → Bool → Int → Int → Int → Bool → Int → Bool → Int → Int → Int → Bool → Int → Int → Option (Bool × Int × Int × Int × Bool × Int × Bool × Int × Int × Int × Bool × Int × Bool × Int × Int × Int × Bool × Int × Bool × Int × Int × Int × Bool × Int × Bool × Int × Int × Int × Bool × Int × Bool × Int × Int × Int × Bool × Int × Bool × Int × Int × Int × Bool × Int × Int × Int × Int)
 | 0, _, _, _, _, _, _, _, _, _, _, _, _, _, _, _, _, _, _, _, _, _, _, _, _, _, _, _, _, _, _, _, _, _, _, _, _, _, _, _, _, _, _, _, _, _, _, _ => none
 | k + 1, x1, x2, x3, x22, bX, cb, cc, bY, cd, ce, bZ, cf, cg, b0, ch, ci, b1, cj, ck, b2, cl, cm, b3, cn, co, b4, cp, cq, b5, cr, ct, b6, cu, cv, b7, cw, cx, b8, cy, cz, b9, cA, cB, ca, cC, cD, bb => if x22 = true then (some (false, 0, 0, 0, false, 0, false, 0, 0, 0, false, 0, false, 0, 0, 0, false, 0, false, 0, 0, 0, false, 0, false, 0, 0, 0, false, 0, false, 0, 0, 0, false, 0, false, 0, 0, 0, false, 0, 0, 0, 2)) else (periluneref23_Request.l0 k x1 x2 x3 (-1) 6 bX cb cc bY cd ce bZ cf cg b0 ch ci b1 cj ck b2 cl cm b3 cn co b4 cp cq b5 cr ct b6 cu cv b7 cw cx b8 cy cz b9 cA cB ca cC cD bb)
def periluneref23_Request.l0 : Nat → Int → Int → Int → Int → Int → Bool → Int → Int → Int → Bool → Int → Bool → Int → Int → Int → Bool → Int → Bool → Int → Int → Int → Bool → Int → Bool → Int → Int → Int → Bool → Int → Bool → Int → Int → Int → Bool → Int → Bool → Int → Int → Int → Bool → Int → Bool → Int → Int → Int → Bool → Int → Int → Option (Bool × Int × Int × Int × Bool × Int × Bool × Int × Int × Int × Bool × Int × Bool × Int × Int × Int × Bool × Int × Bool × Int × Int × Int × Bool × Int × Bool × Int × Int × Int × Bool × Int × Bool × Int × Int × Int × Bool × Int × Bool × Int × Int × Int × Bool × Int × Int × Int × Int)
 | 0, _, _, _, _, _, _, _, _, _, _, _, _, _, _, _, _, _, _, _, _, _, _, _, _, _, _, _, _, _, _, _, _, _, _, _, _, _, _, _, _, _, _, _, _, _, _, _, _ => none
 | k + 1, x1, x2, x3, aY, cF, bX, cb, cc, bY, cd, ce, bZ, cf, cg, b0, ch, ci, b1, cj, ck, b2, cl, cm, b3, cn, co, b4, cp, cq, b5, cr, ct, b6, cu, cv, b7, cw, cx, b8, cy, cz, b9, cA, cB, ca, cC, cD, bb => if cF ≥ 0 then (if 0 ≤ cF then (if cF < 7 then (if pk7 bX bZ b1 b3 b5 b7 b9 cF = true then (if x2 = 0 then (periluneref23_Request.l0 k x1 x2 x3 aY (wrap64 (cF - 1)) bX cb cc bY cd ce bZ cf cg b0 ch ci b1 cj ck b2 cl cm b3 cn co b4 cp cq b5 cr ct b6 cu cv b7 cw cx b8 cy cz b9 cA cB ca cC cD bb) else (if (pk7 bY b0 b2 b4 b6 b8 ca cF) = x2 then (some (false, 0, 0, 0, false, 0, false, 0, 0, 0, false, 0, false, 0, 0, 0, false, 0, false, 0, 0, 0, false, 0, false, 0, 0, 0, false, 0, false, 0, 0, 0, false, 0, false, 0, 0, 0, false, 0, 0, 0, 8)) else (periluneref23_Request.l0 k x1 x2 x3 aY (wrap64 (cF - 1)) bX cb cc bY cd ce bZ cf cg b0 ch ci b1 cj ck b2 cl cm b3 cn co b4 cp cq b5 cr ct b6 cu cv b7 cw cx b8 cy cz b9 cA cB ca cC cD bb))) else (periluneref23_Request.l0 k x1 x2 x3 cF (wrap64 (cF - 1)) bX cb cc bY cd ce bZ cf cg b0 ch ci b1 cj ck b2 cl cm b3 cn co b4 cp cq b5 cr ct b6 cu cv b7 cw cx b8 cy cz b9 cA cB ca cC cD bb)) else (none)) else (none)) else (if bb = 1073741824 then (some (false, 0, 0, 0, false, 0, false, 0, 0, 0, false, 0, false, 0, 0, 0, false, 0, false, 0, 0, 0, false, 0, false, 0, 0, 0, false, 0, false, 0, 0, 0, false, 0, false, 0, 0, 0, false, 0, 0, 0, 4)) else (if aY < 0 then (some (false, 0, 0, 0, false, 0, false, 0, 0, 0, false, 0, false, 0, 0, 0, false, 0, false, 0, 0, 0, false, 0, false, 0, 0, 0, false, 0, false, 0, 0, 0, false, 0, false, 0, 0, 0, false, 0, 0, 0, 13)) else (if 0 ≤ aY then (if aY < 7 then (some (pt 0 aY true bX, pt 0 aY (wrap64 (bb + 1)) cb, pt 0 aY x1 cc, pt 0 aY x2 bY, pt 0 aY false cd, pt 0 aY x3 ce, pt 1 aY true bZ, pt 1 aY (wrap64 (bb + 1)) cf, pt 1 aY x1 cg, pt 1 aY x2 b0, pt 1 aY false ch, pt 1 aY x3 ci, pt 2 aY true b1, pt 2 aY (wrap64 (bb + 1)) cj, pt 2 aY x1 ck, pt 2 aY x2 b2, pt 2 aY false cl, pt 2 aY x3 cm, pt 3 aY true b3, pt 3 aY (wrap64 (bb + 1)) cn, pt 3 aY x1 co, pt 3 aY x2 b4, pt 3 aY false cp, pt 3 aY x3 cq, pt 4 aY true b5, pt 4 aY (wrap64 (bb + 1)) cr, pt 4 aY x1 ct, pt 4 aY x2 b6, pt 4 aY false cu, pt 4 aY x3 cv, pt 5 aY true b7, pt 5 aY (wrap64 (bb + 1)) cw, pt 5 aY x1 cx, pt 5 aY x2 b8, pt 5 aY false cy, pt 5 aY x3 cz, pt 6 aY true b9, pt 6 aY (wrap64 (bb + 1)) cA, pt 6 aY x1 cB, pt 6 aY x2 ca, pt 6 aY false cC, pt 6 aY x3 cD, wrap64 (bb + 1), wrap64 (bb + 1), 0)) else (none)) else (none))))
end
def periluneref23_Request.f (k : Nat) (aM : Bool) (aR : Int) (aS : Int) (aN : Int) (aT : Bool) (aU : Int) (aO : Bool) (aV : Int) (aW : Int) (aP : Int) (ao : Bool) (ap : Int) (ae : Bool) (aq : Int) (ar : Int) (af : Int) (au : Bool) (av : Int) (ag : Bool) (aw : Int) (ax : Int) (ah : Int) (ay : Bool) (az : Int) (ai : Bool) (aA : Int) (aB : Int) (aj : Int) (aC : Bool) (aD : Int) (ak : Bool) (aE : Int) (aF : Int) (al : Int) (aG : Bool) (aH : Int) (am : Bool) (aI : Int) (aJ : Int) (an : Int) (aK : Bool) (aL : Int) (ad : Int) (a1 : Int) (a2 : Int) (a3 : Int) : Option (Bool × Int × Int × Int × Bool × Int × Bool × Int × Int × Int × Bool × Int × Bool × Int × Int × Int × Bool × Int × Bool × Int × Int × Int × Bool × Int × Bool × Int × Int × Int × Bool × Int × Bool × Int × Int × Int × Bool × Int × Bool × Int × Int × Int × Bool × Int × Int × Int × Int) := (periluneref23_Valid.f k aM aR aS aN aT aU aO aV aW aP ao ap ae aq ar af au av ag aw ax ah ay az ai aA aB aj aC aD ak aE aF al aG aH am aI aJ an aK aL ad).bind fun cG => (if cG = true then ((periluneref23_fits.f k a1 a2 a3).bind fun cE => (periluneref23_Request.j0 k a1 a2 a3 (!cE) aM aR aS aN aT aU aO aV aW aP ao ap ae aq ar af au av ag aw ax ah ay az ai aA aB aj aC aD ak aE aF al aG aH am aI aJ an aK aL ad)) else (periluneref23_Request.j0 k a1 a2 a3 true aM aR aS aN aT aU aO aV aW aP ao ap ae aq ar af au av ag aw ax ah ay az ai aA aB aj aC aD ak aE aF al aG aH am aI aJ an aK aL ad))
theorem periluneref23_Request.mono_l : ∀ k, (∀ y0 y1 y2 y3 y4 y5 y6 y7 y8 y9 y10 y11 y12 y13 y14 y15 y16 y17 y18 y19 y20 y21 y22 y23 y24 y25 y26 y27 y28 y29 y30 y31 y32 y33 y34 y35 y36 y37 y38 y39 y40 y41 y42 y43 y44 y45 y46, LeO (periluneref23_Request.j0 k y0 y1 y2 y3 y4 y5 y6 y7 y8 y9 y10 y11 y12 y13 y14 y15 y16 y17 y18 y19 y20 y21 y22 y23 y24 y25 y26 y27 y28 y29 y30 y31 y32 y33 y34 y35 y36 y37 y38 y39 y40 y41 y42 y43 y44 y45 y46) (periluneref23_Request.j0 (k + 1) y0 y1 y2 y3 y4 y5 y6 y7 y8 y9 y10 y11 y12 y13 y14 y15 y16 y17 y18 y19 y20 y21 y22 y23 y24 y25 y26 y27 y28 y29 y30 y31 y32 y33 y34 y35 y36 y37 y38 y39 y40 y41 y42 y43 y44 y45 y46)) ∧ (∀ y0 y1 y2 y3 y4 y5 y6 y7 y8 y9 y10 y11 y12 y13 y14 y15 y16 y17 y18 y19 y20 y21 y22 y23 y24 y25 y26 y27 y28 y29 y30 y31 y32 y33 y34 y35 y36 y37 y38 y39 y40 y41 y42 y43 y44 y45 y46 y47, LeO (periluneref23_Request.l0 k y0 y1 y2 y3 y4 y5 y6 y7 y8 y9 y10 y11 y12 y13 y14 y15 y16 y17 y18 y19 y20 y21 y22 y23 y24 y25 y26 y27 y28 y29 y30 y31 y32 y33 y34 y35 y36 y37 y38 y39 y40 y41 y42 y43 y44 y45 y46 y47) (periluneref23_Request.l0 (k + 1) y0 y1 y2 y3 y4 y5 y6 y7 y8 y9 y10 y11 y12 y13 y14 y15 y16 y17 y18 y19 y20 y21 y22 y23 y24 y25 y26 y27 y28 y29 y30 y31 y32 y33 y34 y35 y36 y37 y38 y39 y40 y41 y42 y43 y44 y45 y46 y47))
 | 0 => ⟨fun _ _ _ _ _ _ _ _ _ _ _ _ _ _ _ _ _ _ _ _ _ _ _ _ _ _ _ _ _ _ _ _ _ _ _ _ _ _ _ _ _ _ _ _ _ _ _ r h => by simp [periluneref23_Request.j0] at h, fun _ _ _ _ _ _ _ _ _ _ _ _ _ _ _ _ _ _ _ _ _ _ _ _ _ _ _ _ _ _ _ _ _ _ _ _ _ _ _ _ _ _ _ _ _ _ _ _ r h => by simp [periluneref23_Request.l0] at h⟩
 | k + 1 => by
  obtain ⟨ih0, ih1⟩ := periluneref23_Request.mono_l k
  refine ⟨?_, ?_⟩
  ·intro y0 y1 y2 y3 y4 y5 y6 y7 y8 y9 y10 y11 y12 y13 y14 y15 y16 y17 y18 y19 y20 y21 y22 y23 y24 y25 y26 y27 y28 y29 y30 y31 y32 y33 y34 y35 y36 y37 y38 y39 y40 y41 y42 y43 y44 y45 y46
   unfold periluneref23_Request.j0
   repeat' first
   | (with_reducible exact ih0 _ _ _ _ _ _ _ _ _ _ _ _ _ _ _ _ _ _ _ _ _ _ _ _ _ _ _ _ _ _ _ _ _ _ _ _ _ _ _ _ _ _ _ _ _ _ _)
   | (with_reducible exact ih1 _ _ _ _ _ _ _ _ _ _ _ _ _ _ _ _ _ _ _ _ _ _ _ _ _ _ _ _ _ _ _ _ _ _ _ _ _ _ _ _ _ _ _ _ _ _ _ _)
   | (with_reducible apply periluneref23_Valid.mono)
   | (with_reducible apply periluneref23_fits.mono)
   | (with_reducible exact LeO.refl _)
   | (with_reducible exact LeO.none _)
   | (with_reducible refine LeO.ite ?_ ?_)
   | (with_reducible refine LeO.bind ?_ (fun _ => ?_))
   | exact ih0 _ _ _ _ _ _ _ _ _ _ _ _ _ _ _ _ _ _ _ _ _ _ _ _ _ _ _ _ _ _ _ _ _ _ _ _ _ _ _ _ _ _ _ _ _ _ _
   | exact ih1 _ _ _ _ _ _ _ _ _ _ _ _ _ _ _ _ _ _ _ _ _ _ _ _ _ _ _ _ _ _ _ _ _ _ _ _ _ _ _ _ _ _ _ _ _ _ _ _
   | apply periluneref23_Valid.mono
   | apply periluneref23_fits.mono
   | exact LeO.none _
   | refine LeO.ite ?_ ?_
   | refine LeO.bind ?_ (fun _ => ?_)
  ·intro y0 y1 y2 y3 y4 y5 y6 y7 y8 y9 y10 y11 y12 y13 y14 y15 y16 y17 y18 y19 y20 y21 y22 y23 y24 y25 y26 y27 y28 y29 y30 y31 y32 y33 y34 y35 y36 y37 y38 y39 y40 y41 y42 y43 y44 y45 y46 y47
   unfold periluneref23_Request.l0
   repeat' first
   | (with_reducible exact ih0 _ _ _ _ _ _ _ _ _ _ _ _ _ _ _ _ _ _ _ _ _ _ _ _ _ _ _ _ _ _ _ _ _ _ _ _ _ _ _ _ _ _ _ _ _ _ _)
   | (with_reducible exact ih1 _ _ _ _ _ _ _ _ _ _ _ _ _ _ _ _ _ _ _ _ _ _ _ _ _ _ _ _ _ _ _ _ _ _ _ _ _ _ _ _ _ _ _ _ _ _ _ _)
   | (with_reducible apply periluneref23_Valid.mono)
   | (with_reducible apply periluneref23_fits.mono)
   | (with_reducible exact LeO.refl _)
   | (with_reducible exact LeO.none _)
   | (with_reducible refine LeO.ite ?_ ?_)
   | (with_reducible refine LeO.bind ?_ (fun _ => ?_))
   | exact ih0 _ _ _ _ _ _ _ _ _ _ _ _ _ _ _ _ _ _ _ _ _ _ _ _ _ _ _ _ _ _ _ _ _ _ _ _ _ _ _ _ _ _ _ _ _ _ _
   | exact ih1 _ _ _ _ _ _ _ _ _ _ _ _ _ _ _ _ _ _ _ _ _ _ _ _ _ _ _ _ _ _ _ _ _ _ _ _ _ _ _ _ _ _ _ _ _ _ _ _
   | apply periluneref23_Valid.mono
   | apply periluneref23_fits.mono
   | exact LeO.none _
   | refine LeO.ite ?_ ?_
   | refine LeO.bind ?_ (fun _ => ?_)
theorem periluneref23_Request.mono : ∀ a0 a1 a2 a3 a4 a5 a6 a7 a8 a9 a10 a11 a12 a13 a14 a15 a16 a17 a18 a19 a20 a21 a22 a23 a24 a25 a26 a27 a28 a29 a30 a31 a32 a33 a34 a35 a36 a37 a38 a39 a40 a41 a42 a43 a44 a45 k, LeO (periluneref23_Request.f k a0 a1 a2 a3 a4 a5 a6 a7 a8 a9 a10 a11 a12 a13 a14 a15 a16 a17 a18 a19 a20 a21 a22 a23 a24 a25 a26 a27 a28 a29 a30 a31 a32 a33 a34 a35 a36 a37 a38 a39 a40 a41 a42 a43 a44 a45) (periluneref23_Request.f (k + 1) a0 a1 a2 a3 a4 a5 a6 a7 a8 a9 a10 a11 a12 a13 a14 a15 a16 a17 a18 a19 a20 a21 a22 a23 a24 a25 a26 a27 a28 a29 a30 a31 a32 a33 a34 a35 a36 a37 a38 a39 a40 a41 a42 a43 a44 a45) := by
 intro a0 a1 a2 a3 a4 a5 a6 a7 a8 a9 a10 a11 a12 a13 a14 a15 a16 a17 a18 a19 a20 a21 a22 a23 a24 a25 a26 a27 a28 a29 a30 a31 a32 a33 a34 a35 a36 a37 a38 a39 a40 a41 a42 a43 a44 a45 k
 obtain ⟨ih0, ih1⟩ := periluneref23_Request.mono_l k
 unfold periluneref23_Request.f
 repeat' first
   | (with_reducible exact ih0 _ _ _ _ _ _ _ _ _ _ _ _ _ _ _ _ _ _ _ _ _ _ _ _ _ _ _ _ _ _ _ _ _ _ _ _ _ _ _ _ _ _ _ _ _ _ _)
   | (with_reducible exact ih1 _ _ _ _ _ _ _ _ _ _ _ _ _ _ _ _ _ _ _ _ _ _ _ _ _ _ _ _ _ _ _ _ _ _ _ _ _ _ _ _ _ _ _ _ _ _ _ _)
   | (with_reducible apply periluneref23_Valid.mono)
   | (with_reducible apply periluneref23_fits.mono)
   | (with_reducible exact LeO.refl _)
   | (with_reducible exact LeO.none _)
   | (with_reducible refine LeO.ite ?_ ?_)
   | (with_reducible refine LeO.bind ?_ (fun _ => ?_))
   | exact ih0 _ _ _ _ _ _ _ _ _ _ _ _ _ _ _ _ _ _ _ _ _ _ _ _ _ _ _ _ _ _ _ _ _ _ _ _ _ _ _ _ _ _ _ _ _ _ _
   | exact ih1 _ _ _ _ _ _ _ _ _ _ _ _ _ _ _ _ _ _ _ _ _ _ _ _ _ _ _ _ _ _ _ _ _ _ _ _ _ _ _ _ _ _ _ _ _ _ _ _
   | apply periluneref23_Valid.mono
   | apply periluneref23_fits.mono
   | exact LeO.none _
   | refine LeO.ite ?_ ?_
   | refine LeO.bind ?_ (fun _ => ?_)
set_option maxHeartbeats 8000000 in
set_option maxRecDepth 100000 in
theorem periluneref23_Request.calls (k : Nat) (aM : Bool) (aR : Int) (aS : Int) (aN : Int) (aT : Bool) (aU : Int) (aO : Bool) (aV : Int) (aW : Int) (aP : Int) (ao : Bool) (ap : Int) (ae : Bool) (aq : Int) (ar : Int) (af : Int) (au : Bool) (av : Int) (ag : Bool) (aw : Int) (ax : Int) (ah : Int) (ay : Bool) (az : Int) (ai : Bool) (aA : Int) (aB : Int) (aj : Int) (aC : Bool) (aD : Int) (ak : Bool) (aE : Int) (aF : Int) (al : Int) (aG : Bool) (aH : Int) (am : Bool) (aI : Int) (aJ : Int) (an : Int) (aK : Bool) (aL : Int) (ad : Int) (a1 : Int) (a2 : Int) (a3 : Int) (r1 : Bool) (r2 : Int) (r3 : Int) (r4 : Int) (r5 : Bool) (r6 : Int) (r7 : Bool) (r8 : Int) (r9 : Int) (r10 : Int) (r11 : Bool) (r12 : Int) (r13 : Bool) (r14 : Int) (r15 : Int) (r16 : Int) (r17 : Bool) (r18 : Int) (r19 : Bool) (r20 : Int) (r21 : Int) (r22 : Int) (r23 : Bool) (r24 : Int) (r25 : Bool) (r26 : Int) (r27 : Int) (r28 : Int) (r29 : Bool) (r30 : Int) (r31 : Bool) (r32 : Int) (r33 : Int) (r34 : Int) (r35 : Bool) (r36 : Int) (r37 : Bool) (r38 : Int) (r39 : Int) (r40 : Int) (r41 : Bool) (r42 : Int) (r43 : Int) (r44 : Int) (r45 : Int) (w : World) (h : periluneref23_Request.f k aM aR aS aN aT aU aO aV aW aP ao ap ae aq ar af au av ag aw ax ah ay az ai aA aB aj aC aD ak aE aF al aG aH am aI aJ an aK aL ad a1 a2 a3 = some (r1, r2, r3, r4, r5, r6, r7, r8, r9, r10, r11, r12, r13, r14, r15, r16, r17, r18, r19, r20, r21, r22, r23, r24, r25, r26, r27, r28, r29, r30, r31, r32, r33, r34, r35, r36, r37, r38, r39, r40, r41, r42, r43, r44, r45)) :
  Calls Try.prog 17 #[.agg #[.bool aM, .int .i64 aR, .int .i64 aS, .int .i64 aN, .bool aT, .int .i64 aU, .bool aO, .int .i64 aV, .int .i64 aW, .int .i64 aP, .bool ao, .int .i64 ap, .bool ae, .int .i64 aq, .int .i64 ar, .int .i64 af, .bool au, .int .i64 av, .bool ag, .int .i64 aw, .int .i64 ax, .int .i64 ah, .bool ay, .int .i64 az, .bool ai, .int .i64 aA, .int .i64 aB, .int .i64 aj, .bool aC, .int .i64 aD, .bool ak, .int .i64 aE, .int .i64 aF, .int .i64 al, .bool aG, .int .i64 aH, .bool am, .int .i64 aI, .int .i64 aJ, .int .i64 an, .bool aK, .int .i64 aL, .int .i64 ad], .int .i64 a1, .int .i64 a2, .int .i64 a3] w fun e w' => e = .returned (.tuple #[.agg #[.bool r1, .int .i64 r2, .int .i64 r3, .int .i64 r4, .bool r5, .int .i64 r6, .bool r7, .int .i64 r8, .int .i64 r9, .int .i64 r10, .bool r11, .int .i64 r12, .bool r13, .int .i64 r14, .int .i64 r15, .int .i64 r16, .bool r17, .int .i64 r18, .bool r19, .int .i64 r20, .int .i64 r21, .int .i64 r22, .bool r23, .int .i64 r24, .bool r25, .int .i64 r26, .int .i64 r27, .int .i64 r28, .bool r29, .int .i64 r30, .bool r31, .int .i64 r32, .int .i64 r33, .int .i64 r34, .bool r35, .int .i64 r36, .bool r37, .int .i64 r38, .int .i64 r39, .int .i64 r40, .bool r41, .int .i64 r42, .int .i64 r43], .int .i64 r44, .int .i64 r45]) ∧ Below w.heap.size w w' := by
 have hu27 := Try.underlying27
 have hu25 := Try.underlying25
 have hu24 := Try.underlying24
 have HB := Aside0.mk (Below.refl w.heap.size w)
 have H := h
 unfold periluneref23_Request.f at H
 clear h
 have HC5 := Aside0.mk H
 clear H
 go_enter Try.func17, Try.ntmps17
 go_upto_region 1 with (first | ((with_reducible refine gate_dst (N := 4) rfl ?_); refine box_event ?hg (N := 4) ?hd (cs := Jt aM aR aS aN aT aU aO aV aW aP ao ap ae aq ar af au av ag aw ax ah ay az ai aA aB aj aC aD ak aE aF al aG aH am aI aJ an aK aL ad) (t := 27) ?hr ?_; (case hd => rfl); (case hg => rfl); (case hr => first | (go_simp; done) | (go_simp; rfl)); intro ac hg w6 hbox hb; have ab := Aside0.mk hbox; have GW342 := zhs HB hg; have ba := zhs HB hg; replace HB := zhB HB hb; clear hb hbox hg) | ((with_reducible refine gate_dst (N := 8) rfl ?_); refine box_event ?hg (N := 8) ?hd (cs := Jt false 0 0 0 false 0 false 0 0 0 false 0 false 0 0 0 false 0 false 0 0 0 false 0 false 0 0 0 false 0 false 0 0 0 false 0 false 0 0 0 false 0 0) (t := 27) ?hr ?_; (case hd => rfl); (case hg => rfl); (case hr => first | (go_simp; done) | (go_simp; rfl)); intro bU hg w7 hbox hb; have aX := Aside0.mk hbox; have GW343 := zhs HB hg; have aZ := zhs HB hg; have bW := znl ab hg; have bV := zng ab hg; replace ab := zbB ab hb; replace HB := zhB HB hb; clear hb hbox hg))
 (try simp only [Act.put, List.setIfInBounds_toArray, List.set_cons_zero, List.set_cons_succ])
 go_cut [22] (fun v22 wc => ∃ (kq : Nat) (cI : Bool), v22 = .bool cI ∧ Aside0 (periluneref23_Request.j0 kq a1 a2 a3 cI aM aR aS aN aT aU aO aV aW aP ao ap ae aq ar af au av ag aw ax ah ay az ai aA aB aj aC aD ak aE aF al aG aH am aI aJ an aK aL ad = some (r1, r2, r3, r4, r5, r6, r7, r8, r9, r10, r11, r12, r13, r14, r15, r16, r17, r18, r19, r20, r21, r22, r23, r24, r25, r26, r27, r28, r29, r30, r31, r32, r33, r34, r35, r36, r37, r38, r39, r40, r41, r42, r43, r44, r45)) ∧ Aside0 (kq ≤ k) ∧ Aside0 (wc.heap[ac]? = some (.cells (Jt aM aR aS aN aT aU aO aV aW aP ao ap ae aq ar af au av ag aw ax ah ay az ai aA aB aj aC aD ak aE aF al aG aH am aI aJ an aK aL ad) 27 (0, 0))) ∧ Aside0 (wc.heap[bU]? = some (.cells (Jt false 0 0 0 false 0 false 0 0 0 false 0 false 0 0 0 false 0 false 0 0 0 false 0 false 0 0 0 false 0 false 0 0 0 false 0 false 0 0 0 false 0 0) 27 (0, 0))) ∧ Aside0 (Below w.heap.size w wc))
 case first =>
  have H := HC5.out
  clear HC5
  replace H := Option.bind_eq_some_iff.mp H
  obtain ⟨cG, A80, H⟩ := H
  try dsimp only at H
  have A8 := Aside0.mk A80
  clear A80
  by_cases c9 : cG = true
  ·subst c9
   have H1 : ((periluneref23_fits.f k a1 a2 a3).bind fun cE => (periluneref23_Request.j0 k a1 a2 a3 (!cE) aM aR aS aN aT aU aO aV aW aP ao ap ae aq ar af au av ag aw ax ah ay az ai aA aB aj aC aD ak aE aF al aG aH am aI aJ an aK aL ad)) = some (r1, r2, r3, r4, r5, r6, r7, r8, r9, r10, r11, r12, r13, r14, r15, r16, r17, r18, r19, r20, r21, r22, r23, r24, r25, r26, r27, r28, r29, r30, r31, r32, r33, r34, r35, r36, r37, r38, r39, r40, r41, r42, r43, r44, r45) := by rw [if_pos rfl] at H; exact H
   clear H
   have H := H1
   clear H1
   replace H := Option.bind_eq_some_iff.mp H
   obtain ⟨cE, A100, H⟩ := H
   try dsimp only at H
   have A10 := Aside0.mk A100
   clear A100
   have H' := Aside0.mk H
   clear H
   go_wp2_with (first | ((with_reducible refine gate_dst (N := 13) rfl ?_); refine seg_load_on (t := 27) (p := 4) (g := ac) (off := 0) (T := 27) (cur := Jt aM aR aS aN aT aU aO aV aW aP ao ap ae aq ar af au av ag aw ax ah ay az ai aA aB aj aC aD ak aE aF al aG aH am aI aJ an aK aL ad) (vs := Vt aM aR aS aN aT aU aO aV aW aP ao ap ae aq ar af au av ag aw ax ah ay az ai aA aB aj aC aD ak aE aF al aG aH am aI aJ an aK aL ad) ?hg ?ho ?hp ?hb Try.underlying27 ?hd ?hi ?hw ?_; (case ho => rfl); (case hg => first | rfl | (go_simp; done) | (simp [Region.wanted, yielded, *]; done)); (case hp => rfl); (case hb => exact ab.out); (case hd => rfl); (case hi => kernel_rfl); (case hw => rfl)) | ((with_reducible refine gate_callee (f := 14) rfl ?_); refine goesL_ (some 14) rfl rfl Try.func14 (by kernel_rfl) rfl #[.agg #[.bool aM, .int .i64 aR, .int .i64 aS, .int .i64 aN, .bool aT, .int .i64 aU, .bool aO, .int .i64 aV, .int .i64 aW, .int .i64 aP, .bool ao, .int .i64 ap, .bool ae, .int .i64 aq, .int .i64 ar, .int .i64 af, .bool au, .int .i64 av, .bool ag, .int .i64 aw, .int .i64 ax, .int .i64 ah, .bool ay, .int .i64 az, .bool ai, .int .i64 aA, .int .i64 aB, .int .i64 aj, .bool aC, .int .i64 aD, .bool ak, .int .i64 aE, .int .i64 aF, .int .i64 al, .bool aG, .int .i64 aH, .bool am, .int .i64 aI, .int .i64 aJ, .int .i64 an, .bool aK, .int .i64 aL, .int .i64 ad]] rfl (by (try simp only [List.map_toArray, List.map_cons, List.map_nil]); first | done | rfl | (simp only [List.length_drop, List.length_take]; rfl)) ?_; (with_reducible refine (periluneref23_Valid.calls k aM aR aS aN aT aU aO aV aW aP ao ap ae aq ar af au av ag aw ax ah ay az ai aA aB aj aC aD ak aE aF al aG aH am aI aJ an aK aL ad true _ A8.out).mono ?_); rintro e w11 ⟨rfl, hb⟩; refine ⟨_, rfl, ?_⟩; replace ab := zbB ab hb; replace aX := zbB aX hb; replace HB := zhB HB hb; (try clear hb); (try clear hb2); (try clear hk); (try clear hi)) | (go_at_call 38; (with_reducible refine (periluneref23_fits.calls k a1 a2 a3 cE _ A10.out).mono ?_); rintro e w' ⟨rfl, ⟨nd, rfl⟩⟩))
   go_meet
   case rel => exact ⟨_, (!cE), (by first | rfl | (simp; done) | (simp [*]; done)), H', ⟨by first | omega | exact Nat.le_refl _⟩, ⟨by (with_reducible repeat (first | refine blk_drewN ?_ _ | refine blk_drew ?_ | refine blk_alloc ?_ _)); exact ab.out⟩, ⟨by (with_reducible repeat (first | refine blk_drewN ?_ _ | refine blk_drew ?_ | refine blk_alloc ?_ _)); exact aX.out⟩, ⟨zho HB⟩⟩
  ·replace c9 := Bool.eq_false_iff.mpr c9
   subst c9
   have H1 : (periluneref23_Request.j0 k a1 a2 a3 true aM aR aS aN aT aU aO aV aW aP ao ap ae aq ar af au av ag aw ax ah ay az ai aA aB aj aC aD ak aE aF al aG aH am aI aJ an aK aL ad) = some (r1, r2, r3, r4, r5, r6, r7, r8, r9, r10, r11, r12, r13, r14, r15, r16, r17, r18, r19, r20, r21, r22, r23, r24, r25, r26, r27, r28, r29, r30, r31, r32, r33, r34, r35, r36, r37, r38, r39, r40, r41, r42, r43, r44, r45) := by rw [if_neg (show ¬ (false = true) by decide)] at H; exact H
   clear H
   have H := H1
   clear H1
   have H' := Aside0.mk H
   clear H
   go_wp2_with (first | ((with_reducible refine gate_dst (N := 13) rfl ?_); refine seg_load_on (t := 27) (p := 4) (g := ac) (off := 0) (T := 27) (cur := Jt aM aR aS aN aT aU aO aV aW aP ao ap ae aq ar af au av ag aw ax ah ay az ai aA aB aj aC aD ak aE aF al aG aH am aI aJ an aK aL ad) (vs := Vt aM aR aS aN aT aU aO aV aW aP ao ap ae aq ar af au av ag aw ax ah ay az ai aA aB aj aC aD ak aE aF al aG aH am aI aJ an aK aL ad) ?hg ?ho ?hp ?hb Try.underlying27 ?hd ?hi ?hw ?_; (case ho => rfl); (case hg => first | rfl | (go_simp; done) | (simp [Region.wanted, yielded, *]; done)); (case hp => rfl); (case hb => exact ab.out); (case hd => rfl); (case hi => kernel_rfl); (case hw => rfl)) | ((with_reducible refine gate_callee (f := 14) rfl ?_); refine goesL_ (some 14) rfl rfl Try.func14 (by kernel_rfl) rfl #[.agg #[.bool aM, .int .i64 aR, .int .i64 aS, .int .i64 aN, .bool aT, .int .i64 aU, .bool aO, .int .i64 aV, .int .i64 aW, .int .i64 aP, .bool ao, .int .i64 ap, .bool ae, .int .i64 aq, .int .i64 ar, .int .i64 af, .bool au, .int .i64 av, .bool ag, .int .i64 aw, .int .i64 ax, .int .i64 ah, .bool ay, .int .i64 az, .bool ai, .int .i64 aA, .int .i64 aB, .int .i64 aj, .bool aC, .int .i64 aD, .bool ak, .int .i64 aE, .int .i64 aF, .int .i64 al, .bool aG, .int .i64 aH, .bool am, .int .i64 aI, .int .i64 aJ, .int .i64 an, .bool aK, .int .i64 aL, .int .i64 ad]] rfl (by (try simp only [List.map_toArray, List.map_cons, List.map_nil]); first | done | rfl | (simp only [List.length_drop, List.length_take]; rfl)) ?_; (with_reducible refine (periluneref23_Valid.calls k aM aR aS aN aT aU aO aV aW aP ao ap ae aq ar af au av ag aw ax ah ay az ai aA aB aj aC aD ak aE aF al aG aH am aI aJ an aK aL ad false _ A8.out).mono ?_); rintro e w12 ⟨rfl, hb⟩; refine ⟨_, rfl, ?_⟩; replace ab := zbB ab hb; replace aX := zbB aX hb; replace HB := zhB HB hb; (try clear hb); (try clear hb2); (try clear hk); (try clear hi)))
   go_meet
   case rel => exact ⟨_, (true), (by first | rfl | (simp; done) | (simp [*]; done)), H', ⟨by first | omega | exact Nat.le_refl _⟩, ⟨by (with_reducible repeat (first | refine blk_drewN ?_ _ | refine blk_drew ?_ | refine blk_alloc ?_ _)); exact ab.out⟩, ⟨by (with_reducible repeat (first | refine blk_drewN ?_ _ | refine blk_drew ?_ | refine blk_alloc ?_ _)); exact aX.out⟩, ⟨zho HB⟩⟩
 case rest =>
  clear HC5
  try clear c1 p2 c9
  obtain ⟨kq, cI, rfl, HA, HJ4, ab, aX, HB⟩ := hcut
  cases kq with
  | zero => exact absurd HA.out (by simp [periluneref23_Request.j0])
  | succ kj4 =>
   have H := HA.out
   clear HA
   simp only [periluneref23_Request.j0] at H
   by_cases c13 : cI = true
   ·subst c13
    have H1 : (some (false, 0, 0, 0, false, 0, false, 0, 0, 0, false, 0, false, 0, 0, 0, false, 0, false, 0, 0, 0, false, 0, false, 0, 0, 0, false, 0, false, 0, 0, 0, false, 0, false, 0, 0, 0, false, 0, 0, 0, 2)) = some (r1, r2, r3, r4, r5, r6, r7, r8, r9, r10, r11, r12, r13, r14, r15, r16, r17, r18, r19, r20, r21, r22, r23, r24, r25, r26, r27, r28, r29, r30, r31, r32, r33, r34, r35, r36, r37, r38, r39, r40, r41, r42, r43, r44, r45) := by rw [if_pos rfl] at H; exact H
    clear H
    have H := H1
    clear H1
    simp only [Option.some.injEq, Prod.mk.injEq] at H
    obtain ⟨rfl, rfl, rfl, rfl, rfl, rfl, rfl, rfl, rfl, rfl, rfl, rfl, rfl, rfl, rfl, rfl, rfl, rfl, rfl, rfl, rfl, rfl, rfl, rfl, rfl, rfl, rfl, rfl, rfl, rfl, rfl, rfl, rfl, rfl, rfl, rfl, rfl, rfl, rfl, rfl, rfl, rfl, rfl, rfl, rfl⟩ := H
    go_wp2_with (first | ((with_reducible refine gate_store (t := 27) (p := 8) rfl ?_); refine seg_event (t := 27) (p := 8) (x := ?xo_w14) (g := bU) (off := 0) (T := 27) (cur := Jt false 0 0 0 false 0 false 0 0 0 false 0 false 0 0 0 false 0 false 0 0 0 false 0 false 0 0 0 false 0 false 0 0 0 false 0 false 0 0 0 false 0 0) (vs := Vt false 0 0 0 false 0 false 0 0 0 false 0 false 0 0 0 false 0 false 0 0 0 false 0 false 0 0 0 false 0 false 0 0 0 false 0 false 0 0 0 false 0 0) (new := Jt false 0 0 0 false 0 false 0 0 0 false 0 false 0 0 0 false 0 false 0 0 0 false 0 false 0 0 0 false 0 false 0 0 0 false 0 false 0 0 0 false 0 0) ?hg ?ho ?hn ?hp ?hv ?hb ?hi ?hf ?h1 ?hw ?_; (case ho => rfl); (case hg => rfl); (case hn => rfl); (case hp => rfl); (case hv => first | rfl | (go_simp; done) | (simp [*]; done)); (case hb => exact aX.out); (case hi => kernel_rfl); (case hf => exact Nat.le_of_ble_eq_true rfl); (case h1 => rfl); (case hw => rfl); intro w14 hbox hg hbl; replace ab := zbG ab hg bW; replace aX := Aside0.mk hbox; replace HB := zhL hbl HB aZ; clear hbox hg hbl))
    refine bodyPost_ret (results_ctt rfl _ _ bU 27 #[.bool false, .int .i64 0, .int .i64 0, .int .i64 0, .bool false, .int .i64 0, .bool false, .int .i64 0, .int .i64 0, .int .i64 0, .bool false, .int .i64 0, .bool false, .int .i64 0, .int .i64 0, .int .i64 0, .bool false, .int .i64 0, .bool false, .int .i64 0, .int .i64 0, .int .i64 0, .bool false, .int .i64 0, .bool false, .int .i64 0, .int .i64 0, .int .i64 0, .bool false, .int .i64 0, .bool false, .int .i64 0, .int .i64 0, .int .i64 0, .bool false, .int .i64 0, .bool false, .int .i64 0, .int .i64 0, .int .i64 0, .bool false, .int .i64 0, .int .i64 0] (0, 0) _ rfl (zbo aX) Try.underlying27 rfl (by kernel_rfl)) rfl ?_
    exact ⟨by first | rfl | (simp [errW_none, errW_some] <;> rfl) | (simp [*, errW_none, errW_some] <;> rfl), zho HB⟩
   ·replace c13 := Bool.eq_false_iff.mpr c13
    subst c13
    have H1 : (periluneref23_Request.l0 kj4 a1 a2 a3 (-1) 6 aM aR aS aN aT aU aO aV aW aP ao ap ae aq ar af au av ag aw ax ah ay az ai aA aB aj aC aD ak aE aF al aG aH am aI aJ an aK aL ad) = some (r1, r2, r3, r4, r5, r6, r7, r8, r9, r10, r11, r12, r13, r14, r15, r16, r17, r18, r19, r20, r21, r22, r23, r24, r25, r26, r27, r28, r29, r30, r31, r32, r33, r34, r35, r36, r37, r38, r39, r40, r41, r42, r43, r44, r45) := by rw [if_neg (show ¬ (false = true) by decide)] at H; exact H
    clear H
    have H := H1
    clear H1
    have H' := Aside0.mk H
    clear H
    go_wp2
    go_loopg [11, 12] kj4 (fun kq v11 v12 w' => ∃ (aa : Int) (aQ : Int) (bc : Bool) (bd : Int) (be : Int) (bf : Int) (bg : Bool) (bh : Int) (bi : Bool) (bj : Int) (bk : Int) (bl : Int) (bm : Bool) (bn : Int) (bo : Bool) (bp : Int) (bq : Int) (br : Int) (bs : Bool) (bt : Int) (bu : Bool) (bv : Int) (bw : Int) (bx : Int) (bz : Bool) (bA : Int) (bB : Bool) (bC : Int) (bD : Int) (bE : Int) (bF : Bool) (bG : Int) (bH : Bool) (bI : Int) (bJ : Int) (bK : Int) (bL : Bool) (bM : Int) (bN : Bool) (bO : Int) (bP : Int) (bQ : Int) (bR : Bool) (bS : Int) (bT : Int), v11 = .int .i64 aa ∧ v12 = .int .i64 aQ ∧ Aside0 (periluneref23_Request.l0 kq a1 a2 a3 aa aQ aM aR aS aN aT aU aO aV aW aP ao ap ae aq ar af au av ag aw ax ah ay az ai aA aB aj aC aD ak aE aF al aG aH am aI aJ an aK aL ad = some (r1, r2, r3, r4, r5, r6, r7, r8, r9, r10, r11, r12, r13, r14, r15, r16, r17, r18, r19, r20, r21, r22, r23, r24, r25, r26, r27, r28, r29, r30, r31, r32, r33, r34, r35, r36, r37, r38, r39, r40, r41, r42, r43, r44, r45)) ∧ Aside0 (kq ≤ kj4) ∧ Aside0 (w'.heap[ac]? = some (.cells (Jt aM aR aS aN aT aU aO aV aW aP ao ap ae aq ar af au av ag aw ax ah ay az ai aA aB aj aC aD ak aE aF al aG aH am aI aJ an aK aL ad) 27 (0, 0))) ∧ Aside0 (w'.heap[bU]? = some (.cells (Jt bc bd be bf bg bh bi bj bk bl bm bn bo bp bq br bs bt bu bv bw bx bz bA bB bC bD bE bF bG bH bI bJ bK bL bM bN bO bP bQ bR bS bT) 27 (0, 0))) ∧ Aside0 (Below w.heap.size w w'))
    case atStart => exact ⟨((-1)), (6), (false), (0), (0), (0), (false), (0), (false), (0), (0), (0), (false), (0), (false), (0), (0), (0), (false), (0), (false), (0), (0), (0), (false), (0), (false), (0), (0), (0), (false), (0), (false), (0), (0), (0), (false), (0), (false), (0), (0), (0), (false), (0), (0), (by first | rfl | (simp; done) | (simp [*]; done)), (by first | rfl | (simp; done) | (simp [*]; done)), H', ⟨Nat.le_refl _⟩, ⟨by (with_reducible repeat (first | refine blk_drewN ?_ _ | refine blk_drew ?_ | refine blk_alloc ?_ _)); exact ab.out⟩, ⟨by (with_reducible repeat (first | refine blk_drewN ?_ _ | refine blk_drew ?_ | refine blk_alloc ?_ _)); exact aX.out⟩, ⟨zho HB⟩⟩
    case round =>
     clear H'
     try clear c1 p2 c9 c13 c14 p2
     obtain ⟨aa, aQ, bc, bd, be, bf, bg, bh, bi, bj, bk, bl, bm, bn, bo, bp, bq, br, bs, bt, bu, bv, bw, bx, bz, bA, bB, bC, bD, bE, bF, bG, bH, bI, bJ, bK, bL, bM, bN, bO, bP, bQ, bR, bS, bT, rfl, rfl, HA, HK2, ab, aX, HB⟩ := hrel
     cases gk with
     | zero => exact absurd HA.out (by simp [periluneref23_Request.l0])
     | succ k2 =>
      have H := HA.out
      clear HA
      simp only [periluneref23_Request.l0] at H
      by_cases c15 : aQ ≥ 0
      ·rw [if_pos c15] at H
       have c15b0 : decide (0 ≤ aQ) = true := decide_eq_true c15
       clear c15
       by_cases c16 : 0 ≤ aQ
       ·rw [if_pos c16] at H
        have c16b0 : decide (0 ≤ aQ) = true := decide_eq_true c16
        clear c16
        by_cases c17 : aQ < 7
        ·rw [if_pos c17] at H
         have c17b0 : decide (aQ < 7) = true := decide_eq_true c17
         clear c17
         by_cases c18 : pk7 aM aO ae ag ai ak am aQ = true
         ·rw [if_pos c18] at H
          have c18b0 : pk7 aM aO ae ag ai ak am aQ = true := c18
          clear c18
          by_cases c19 : a2 = 0
          ·rw [if_pos c19] at H
           have c19b0 : (a2 == 0) = true := beq_iff_eq.mpr c19
           have c19b1 : (a2 != 0) = false := bne_eq_false_iff_eq.mpr c19
           clear c19
           have H' := Aside0.mk H
           clear H
           have vp346 : (0 ≤ (aQ : Int)) = True := eq_true (of_decide_eq_true (by first | (with_reducible assumption) | assumption))
           have vq346 : ((aQ : Int) < (7 : Int)) = True := eq_true (of_decide_eq_true (by first | (with_reducible assumption) | assumption))
           have cH : wr.cell? ⟨ac, aQ.toNat * 6, none⟩ = some (.bool (pk7 aM aO ae ag ai ak am aQ)) := cellA27_0_0 (aQ) (of_decide_eq_true (by first | (with_reducible assumption) | assumption)) (of_decide_eq_true (by first | (with_reducible assumption) | assumption)) ab.out
           go_wp2
           go_roundg k2
           case measure => have := HJ4.out; have := HK2.out; omega
           case rel => exact ⟨(aa), (wrap64 (aQ - 1)), (bc), (bd), (be), (bf), (bg), (bh), (bi), (bj), (bk), (bl), (bm), (bn), (bo), (bp), (bq), (br), (bs), (bt), (bu), (bv), (bw), (bx), (bz), (bA), (bB), (bC), (bD), (bE), (bF), (bG), (bH), (bI), (bJ), (bK), (bL), (bM), (bN), (bO), (bP), (bQ), (bR), (bS), (bT), (by first | rfl | (simp; done) | (simp [*]; done)), (by first | rfl | (simp; done) | (simp [*]; done)), H', ⟨by have := HJ4.out; have := HK2.out; omega⟩, ⟨by (with_reducible repeat (first | refine blk_drewN ?_ _ | refine blk_drew ?_ | refine blk_alloc ?_ _)); exact ab.out⟩, ⟨by (with_reducible repeat (first | refine blk_drewN ?_ _ | refine blk_drew ?_ | refine blk_alloc ?_ _)); exact aX.out⟩, ⟨zho HB⟩⟩
          ·rw [if_neg c19] at H
           have c19b0 : (a2 == 0) = false := beq_eq_false_iff_ne.mpr c19
           have c19b1 : (a2 != 0) = true := bne_iff_ne.mpr c19
           by_cases c20 : (pk7 aN aP af ah aj al an aQ) = a2
           ·rw [if_pos c20] at H
            have c20b0 : ((pk7 aN aP af ah aj al an aQ) == a2) = true := beq_iff_eq.mpr c20
            have c20b1 : ((pk7 aN aP af ah aj al an aQ) != a2) = false := bne_eq_false_iff_eq.mpr c20
            clear c20
            simp only [Option.some.injEq, Prod.mk.injEq] at H
            obtain ⟨rfl, rfl, rfl, rfl, rfl, rfl, rfl, rfl, rfl, rfl, rfl, rfl, rfl, rfl, rfl, rfl, rfl, rfl, rfl, rfl, rfl, rfl, rfl, rfl, rfl, rfl, rfl, rfl, rfl, rfl, rfl, rfl, rfl, rfl, rfl, rfl, rfl, rfl, rfl, rfl, rfl, rfl, rfl, rfl, rfl⟩ := H
            have vp346 : (0 ≤ (aQ : Int)) = True := eq_true (of_decide_eq_true (by first | (with_reducible assumption) | assumption))
            have vq346 : ((aQ : Int) < (7 : Int)) = True := eq_true (of_decide_eq_true (by first | (with_reducible assumption) | assumption))
            have cH : wr.cell? ⟨ac, aQ.toNat * 6, none⟩ = some (.bool (pk7 aM aO ae ag ai ak am aQ)) := cellA27_0_0 (aQ) (of_decide_eq_true (by first | (with_reducible assumption) | assumption)) (of_decide_eq_true (by first | (with_reducible assumption) | assumption)) ab.out
            have vp348 : (0 ≤ (aQ : Int)) = True := eq_true (of_decide_eq_true (by first | (with_reducible assumption) | assumption))
            have vq348 : ((aQ : Int) < (7 : Int)) = True := eq_true (of_decide_eq_true (by first | (with_reducible assumption) | assumption))
            have cJ : wr.cell? ⟨ac, aQ.toNat * 6 + 3, none⟩ = some (.int .i64 (pk7 aN aP af ah aj al an aQ)) := cellA27_0_3 (aQ) (of_decide_eq_true (by first | (with_reducible assumption) | assumption)) (of_decide_eq_true (by first | (with_reducible assumption) | assumption)) ab.out
            go_wp2_with (first | ((with_reducible refine gate_store (t := 27) (p := 8) rfl ?_); refine seg_event (t := 27) (p := 8) (x := ?xo_w21) (g := bU) (off := 0) (T := 27) (cur := Jt bc bd be bf bg bh bi bj bk bl bm bn bo bp bq br bs bt bu bv bw bx bz bA bB bC bD bE bF bG bH bI bJ bK bL bM bN bO bP bQ bR bS bT) (vs := Vt false 0 0 0 false 0 false 0 0 0 false 0 false 0 0 0 false 0 false 0 0 0 false 0 false 0 0 0 false 0 false 0 0 0 false 0 false 0 0 0 false 0 0) (new := Jt false 0 0 0 false 0 false 0 0 0 false 0 false 0 0 0 false 0 false 0 0 0 false 0 false 0 0 0 false 0 false 0 0 0 false 0 false 0 0 0 false 0 0) ?hg ?ho ?hn ?hp ?hv ?hb ?hi ?hf ?h1 ?hw ?_; (case ho => rfl); (case hg => rfl); (case hn => rfl); (case hp => rfl); (case hv => first | rfl | (go_simp; done) | (simp [*]; done)); (case hb => exact aX.out); (case hi => kernel_rfl); (case hf => exact Nat.le_of_ble_eq_true rfl); (case h1 => rfl); (case hw => rfl); intro w21 hbox hg hbl; replace ab := zbG ab hg bW; replace aX := Aside0.mk hbox; replace HB := zhL hbl HB aZ; clear hbox hg hbl))
            refine bodyPost_ret (results_ctt rfl _ _ bU 27 #[.bool false, .int .i64 0, .int .i64 0, .int .i64 0, .bool false, .int .i64 0, .bool false, .int .i64 0, .int .i64 0, .int .i64 0, .bool false, .int .i64 0, .bool false, .int .i64 0, .int .i64 0, .int .i64 0, .bool false, .int .i64 0, .bool false, .int .i64 0, .int .i64 0, .int .i64 0, .bool false, .int .i64 0, .bool false, .int .i64 0, .int .i64 0, .int .i64 0, .bool false, .int .i64 0, .bool false, .int .i64 0, .int .i64 0, .int .i64 0, .bool false, .int .i64 0, .bool false, .int .i64 0, .int .i64 0, .int .i64 0, .bool false, .int .i64 0, .int .i64 0] (0, 0) _ rfl (zbo aX) Try.underlying27 rfl (by kernel_rfl)) rfl ?_
            exact ⟨by first | rfl | (simp [errW_none, errW_some] <;> rfl) | (simp [*, errW_none, errW_some] <;> rfl), zho HB⟩
           ·rw [if_neg c20] at H
            have c20b0 : ((pk7 aN aP af ah aj al an aQ) == a2) = false := beq_eq_false_iff_ne.mpr c20
            have c20b1 : ((pk7 aN aP af ah aj al an aQ) != a2) = true := bne_iff_ne.mpr c20
            have H' := Aside0.mk H
            clear H
            have vp346 : (0 ≤ (aQ : Int)) = True := eq_true (of_decide_eq_true (by first | (with_reducible assumption) | assumption))
            have vq346 : ((aQ : Int) < (7 : Int)) = True := eq_true (of_decide_eq_true (by first | (with_reducible assumption) | assumption))
            have cH : wr.cell? ⟨ac, aQ.toNat * 6, none⟩ = some (.bool (pk7 aM aO ae ag ai ak am aQ)) := cellA27_0_0 (aQ) (of_decide_eq_true (by first | (with_reducible assumption) | assumption)) (of_decide_eq_true (by first | (with_reducible assumption) | assumption)) ab.out
            have vp348 : (0 ≤ (aQ : Int)) = True := eq_true (of_decide_eq_true (by first | (with_reducible assumption) | assumption))
            have vq348 : ((aQ : Int) < (7 : Int)) = True := eq_true (of_decide_eq_true (by first | (with_reducible assumption) | assumption))
            have cJ : wr.cell? ⟨ac, aQ.toNat * 6 + 3, none⟩ = some (.int .i64 (pk7 aN aP af ah aj al an aQ)) := cellA27_0_3 (aQ) (of_decide_eq_true (by first | (with_reducible assumption) | assumption)) (of_decide_eq_true (by first | (with_reducible assumption) | assumption)) ab.out
            go_wp2
            go_roundg k2
            case measure => have := HJ4.out; have := HK2.out; omega
            case rel => exact ⟨(aa), (wrap64 (aQ - 1)), (bc), (bd), (be), (bf), (bg), (bh), (bi), (bj), (bk), (bl), (bm), (bn), (bo), (bp), (bq), (br), (bs), (bt), (bu), (bv), (bw), (bx), (bz), (bA), (bB), (bC), (bD), (bE), (bF), (bG), (bH), (bI), (bJ), (bK), (bL), (bM), (bN), (bO), (bP), (bQ), (bR), (bS), (bT), (by first | rfl | (simp; done) | (simp [*]; done)), (by first | rfl | (simp; done) | (simp [*]; done)), H', ⟨by have := HJ4.out; have := HK2.out; omega⟩, ⟨by (with_reducible repeat (first | refine blk_drewN ?_ _ | refine blk_drew ?_ | refine blk_alloc ?_ _)); exact ab.out⟩, ⟨by (with_reducible repeat (first | refine blk_drewN ?_ _ | refine blk_drew ?_ | refine blk_alloc ?_ _)); exact aX.out⟩, ⟨zho HB⟩⟩
         ·rw [if_neg c18] at H
          have c18b0 : pk7 aM aO ae ag ai ak am aQ = false := by simpa using c18
          clear c18
          have H' := Aside0.mk H
          clear H
          have vp346 : (0 ≤ (aQ : Int)) = True := eq_true (of_decide_eq_true (by first | (with_reducible assumption) | assumption))
          have vq346 : ((aQ : Int) < (7 : Int)) = True := eq_true (of_decide_eq_true (by first | (with_reducible assumption) | assumption))
          have cH : wr.cell? ⟨ac, aQ.toNat * 6, none⟩ = some (.bool (pk7 aM aO ae ag ai ak am aQ)) := cellA27_0_0 (aQ) (of_decide_eq_true (by first | (with_reducible assumption) | assumption)) (of_decide_eq_true (by first | (with_reducible assumption) | assumption)) ab.out
          go_wp2
          go_roundg k2
          case measure => have := HJ4.out; have := HK2.out; omega
          case rel => exact ⟨(aQ), (wrap64 (aQ - 1)), (bc), (bd), (be), (bf), (bg), (bh), (bi), (bj), (bk), (bl), (bm), (bn), (bo), (bp), (bq), (br), (bs), (bt), (bu), (bv), (bw), (bx), (bz), (bA), (bB), (bC), (bD), (bE), (bF), (bG), (bH), (bI), (bJ), (bK), (bL), (bM), (bN), (bO), (bP), (bQ), (bR), (bS), (bT), (by first | rfl | (simp; done) | (simp [*]; done)), (by first | rfl | (simp; done) | (simp [*]; done)), H', ⟨by have := HJ4.out; have := HK2.out; omega⟩, ⟨by (with_reducible repeat (first | refine blk_drewN ?_ _ | refine blk_drew ?_ | refine blk_alloc ?_ _)); exact ab.out⟩, ⟨by (with_reducible repeat (first | refine blk_drewN ?_ _ | refine blk_drew ?_ | refine blk_alloc ?_ _)); exact aX.out⟩, ⟨zho HB⟩⟩
        ·rw [if_neg c17] at H
         exact absurd H (by simp)
       ·rw [if_neg c16] at H
        exact absurd H (by simp)
      ·rw [if_neg c15] at H
       have c15b0 : decide (0 ≤ aQ) = false := decide_eq_false c15
       clear c15
       by_cases c22 : ad = 1073741824
       ·rw [if_pos c22] at H
        have c22b0 : (ad == 1073741824) = true := beq_iff_eq.mpr c22
        have c22b1 : (ad != 1073741824) = false := bne_eq_false_iff_eq.mpr c22
        clear c22
        simp only [Option.some.injEq, Prod.mk.injEq] at H
        obtain ⟨rfl, rfl, rfl, rfl, rfl, rfl, rfl, rfl, rfl, rfl, rfl, rfl, rfl, rfl, rfl, rfl, rfl, rfl, rfl, rfl, rfl, rfl, rfl, rfl, rfl, rfl, rfl, rfl, rfl, rfl, rfl, rfl, rfl, rfl, rfl, rfl, rfl, rfl, rfl, rfl, rfl, rfl, rfl, rfl, rfl⟩ := H
        have hnb23 := bW.out
        have hnc23 := bV.out
        have hcz24_0 : wr.cell? ⟨ac, 0, none⟩ = some (.bool aM) := (blk_cell ab.out 0).trans rfl
        have hcz24_1 : wr.cell? ⟨ac, 1, none⟩ = some (.int .i64 aR) := (blk_cell ab.out 1).trans rfl
        have hcz24_2 : wr.cell? ⟨ac, 2, none⟩ = some (.int .i64 aS) := (blk_cell ab.out 2).trans rfl
        have hcz24_3 : wr.cell? ⟨ac, 3, none⟩ = some (.int .i64 aN) := (blk_cell ab.out 3).trans rfl
        have hcz24_4 : wr.cell? ⟨ac, 4, none⟩ = some (.bool aT) := (blk_cell ab.out 4).trans rfl
        have hcz24_5 : wr.cell? ⟨ac, 5, none⟩ = some (.int .i64 aU) := (blk_cell ab.out 5).trans rfl
        have hcz24_6 : wr.cell? ⟨ac, 6, none⟩ = some (.bool aO) := (blk_cell ab.out 6).trans rfl
        have hcz24_7 : wr.cell? ⟨ac, 7, none⟩ = some (.int .i64 aV) := (blk_cell ab.out 7).trans rfl
        have hcz24_8 : wr.cell? ⟨ac, 8, none⟩ = some (.int .i64 aW) := (blk_cell ab.out 8).trans rfl
        have hcz24_9 : wr.cell? ⟨ac, 9, none⟩ = some (.int .i64 aP) := (blk_cell ab.out 9).trans rfl
        have hcz24_10 : wr.cell? ⟨ac, 10, none⟩ = some (.bool ao) := (blk_cell ab.out 10).trans rfl
        have hcz24_11 : wr.cell? ⟨ac, 11, none⟩ = some (.int .i64 ap) := (blk_cell ab.out 11).trans rfl
        have hcz24_12 : wr.cell? ⟨ac, 12, none⟩ = some (.bool ae) := (blk_cell ab.out 12).trans rfl
        have hcz24_13 : wr.cell? ⟨ac, 13, none⟩ = some (.int .i64 aq) := (blk_cell ab.out 13).trans rfl
        have hcz24_14 : wr.cell? ⟨ac, 14, none⟩ = some (.int .i64 ar) := (blk_cell ab.out 14).trans rfl
        have hcz24_15 : wr.cell? ⟨ac, 15, none⟩ = some (.int .i64 af) := (blk_cell ab.out 15).trans rfl
        have hcz24_16 : wr.cell? ⟨ac, 16, none⟩ = some (.bool au) := (blk_cell ab.out 16).trans rfl
        have hcz24_17 : wr.cell? ⟨ac, 17, none⟩ = some (.int .i64 av) := (blk_cell ab.out 17).trans rfl
        have hcz24_18 : wr.cell? ⟨ac, 18, none⟩ = some (.bool ag) := (blk_cell ab.out 18).trans rfl
        have hcz24_19 : wr.cell? ⟨ac, 19, none⟩ = some (.int .i64 aw) := (blk_cell ab.out 19).trans rfl
        have hcz24_20 : wr.cell? ⟨ac, 20, none⟩ = some (.int .i64 ax) := (blk_cell ab.out 20).trans rfl
        have hcz24_21 : wr.cell? ⟨ac, 21, none⟩ = some (.int .i64 ah) := (blk_cell ab.out 21).trans rfl
        have hcz24_22 : wr.cell? ⟨ac, 22, none⟩ = some (.bool ay) := (blk_cell ab.out 22).trans rfl
        have hcz24_23 : wr.cell? ⟨ac, 23, none⟩ = some (.int .i64 az) := (blk_cell ab.out 23).trans rfl
        have hcz24_24 : wr.cell? ⟨ac, 24, none⟩ = some (.bool ai) := (blk_cell ab.out 24).trans rfl
        have hcz24_25 : wr.cell? ⟨ac, 25, none⟩ = some (.int .i64 aA) := (blk_cell ab.out 25).trans rfl
        have hcz24_26 : wr.cell? ⟨ac, 26, none⟩ = some (.int .i64 aB) := (blk_cell ab.out 26).trans rfl
        have hcz24_27 : wr.cell? ⟨ac, 27, none⟩ = some (.int .i64 aj) := (blk_cell ab.out 27).trans rfl
        have hcz24_28 : wr.cell? ⟨ac, 28, none⟩ = some (.bool aC) := (blk_cell ab.out 28).trans rfl
        have hcz24_29 : wr.cell? ⟨ac, 29, none⟩ = some (.int .i64 aD) := (blk_cell ab.out 29).trans rfl
        have hcz24_30 : wr.cell? ⟨ac, 30, none⟩ = some (.bool ak) := (blk_cell ab.out 30).trans rfl
        have hcz24_31 : wr.cell? ⟨ac, 31, none⟩ = some (.int .i64 aE) := (blk_cell ab.out 31).trans rfl
        have hcz24_32 : wr.cell? ⟨ac, 32, none⟩ = some (.int .i64 aF) := (blk_cell ab.out 32).trans rfl
        have hcz24_33 : wr.cell? ⟨ac, 33, none⟩ = some (.int .i64 al) := (blk_cell ab.out 33).trans rfl
        have hcz24_34 : wr.cell? ⟨ac, 34, none⟩ = some (.bool aG) := (blk_cell ab.out 34).trans rfl
        have hcz24_35 : wr.cell? ⟨ac, 35, none⟩ = some (.int .i64 aH) := (blk_cell ab.out 35).trans rfl
        have hcz24_36 : wr.cell? ⟨ac, 36, none⟩ = some (.bool am) := (blk_cell ab.out 36).trans rfl
        have hcz24_37 : wr.cell? ⟨ac, 37, none⟩ = some (.int .i64 aI) := (blk_cell ab.out 37).trans rfl
        have hcz24_38 : wr.cell? ⟨ac, 38, none⟩ = some (.int .i64 aJ) := (blk_cell ab.out 38).trans rfl
        have hcz24_39 : wr.cell? ⟨ac, 39, none⟩ = some (.int .i64 an) := (blk_cell ab.out 39).trans rfl
        have hcz24_40 : wr.cell? ⟨ac, 40, none⟩ = some (.bool aK) := (blk_cell ab.out 40).trans rfl
        have hcz24_41 : wr.cell? ⟨ac, 41, none⟩ = some (.int .i64 aL) := (blk_cell ab.out 41).trans rfl
        have hcz24_42 : wr.cell? ⟨ac, 42, none⟩ = some (.int .i64 ad) := (blk_cell ab.out 42).trans rfl
        have hfz24_0 := blk_frozen ab.out 0
        have hfz24_1 := blk_frozen ab.out 1
        have hfz24_2 := blk_frozen ab.out 2
        have hfz24_3 := blk_frozen ab.out 3
        have hfz24_4 := blk_frozen ab.out 4
        have hfz24_5 := blk_frozen ab.out 5
        have hfz24_6 := blk_frozen ab.out 6
        have hfz24_7 := blk_frozen ab.out 7
        have hfz24_8 := blk_frozen ab.out 8
        have hfz24_9 := blk_frozen ab.out 9
        have hfz24_10 := blk_frozen ab.out 10
        have hfz24_11 := blk_frozen ab.out 11
        have hfz24_12 := blk_frozen ab.out 12
        have hfz24_13 := blk_frozen ab.out 13
        have hfz24_14 := blk_frozen ab.out 14
        have hfz24_15 := blk_frozen ab.out 15
        have hfz24_16 := blk_frozen ab.out 16
        have hfz24_17 := blk_frozen ab.out 17
        have hfz24_18 := blk_frozen ab.out 18
        have hfz24_19 := blk_frozen ab.out 19
        have hfz24_20 := blk_frozen ab.out 20
        have hfz24_21 := blk_frozen ab.out 21
        have hfz24_22 := blk_frozen ab.out 22
        have hfz24_23 := blk_frozen ab.out 23
        have hfz24_24 := blk_frozen ab.out 24
        have hfz24_25 := blk_frozen ab.out 25
        have hfz24_26 := blk_frozen ab.out 26
        have hfz24_27 := blk_frozen ab.out 27
        have hfz24_28 := blk_frozen ab.out 28
        have hfz24_29 := blk_frozen ab.out 29
        have hfz24_30 := blk_frozen ab.out 30
        have hfz24_31 := blk_frozen ab.out 31
        have hfz24_32 := blk_frozen ab.out 32
        have hfz24_33 := blk_frozen ab.out 33
        have hfz24_34 := blk_frozen ab.out 34
        have hfz24_35 := blk_frozen ab.out 35
        have hfz24_36 := blk_frozen ab.out 36
        have hfz24_37 := blk_frozen ab.out 37
        have hfz24_38 := blk_frozen ab.out 38
        have hfz24_39 := blk_frozen ab.out 39
        have hfz24_40 := blk_frozen ab.out 40
        have hfz24_41 := blk_frozen ab.out 41
        have hfz24_42 := blk_frozen ab.out 42
        go_wp2_with (first | ((with_reducible refine gate_store (t := 27) (p := 8) rfl ?_); refine seg_event (t := 27) (p := 8) (x := ?xo_w25) (g := bU) (off := 0) (T := 27) (cur := Jt bc bd be bf bg bh bi bj bk bl bm bn bo bp bq br bs bt bu bv bw bx bz bA bB bC bD bE bF bG bH bI bJ bK bL bM bN bO bP bQ bR bS bT) (vs := Vt false 0 0 0 false 0 false 0 0 0 false 0 false 0 0 0 false 0 false 0 0 0 false 0 false 0 0 0 false 0 false 0 0 0 false 0 false 0 0 0 false 0 0) (new := Jt false 0 0 0 false 0 false 0 0 0 false 0 false 0 0 0 false 0 false 0 0 0 false 0 false 0 0 0 false 0 false 0 0 0 false 0 false 0 0 0 false 0 0) ?hg ?ho ?hn ?hp ?hv ?hb ?hi ?hf ?h1 ?hw ?_; (case ho => rfl); (case hg => rfl); (case hn => rfl); (case hp => rfl); (case hv => first | rfl | (go_simp; done) | (simp [*]; done)); (case hb => exact aX.out); (case hi => kernel_rfl); (case hf => exact Nat.le_of_ble_eq_true rfl); (case h1 => rfl); (case hw => rfl); intro w25 hbox hg hbl; replace ab := zbG ab hg bW; replace aX := Aside0.mk hbox; replace HB := zhL hbl HB aZ; clear hbox hg hbl))
        refine bodyPost_ret (results_ctt rfl _ _ bU 27 #[.bool false, .int .i64 0, .int .i64 0, .int .i64 0, .bool false, .int .i64 0, .bool false, .int .i64 0, .int .i64 0, .int .i64 0, .bool false, .int .i64 0, .bool false, .int .i64 0, .int .i64 0, .int .i64 0, .bool false, .int .i64 0, .bool false, .int .i64 0, .int .i64 0, .int .i64 0, .bool false, .int .i64 0, .bool false, .int .i64 0, .int .i64 0, .int .i64 0, .bool false, .int .i64 0, .bool false, .int .i64 0, .int .i64 0, .int .i64 0, .bool false, .int .i64 0, .bool false, .int .i64 0, .int .i64 0, .int .i64 0, .bool false, .int .i64 0, .int .i64 0] (0, 0) _ rfl (zbo aX) Try.underlying27 rfl (by kernel_rfl)) rfl ?_
        exact ⟨by first | rfl | (simp [errW_none, errW_some] <;> rfl) | (simp [*, errW_none, errW_some] <;> rfl), zho HB⟩
       ·rw [if_neg c22] at H
        have c22b0 : (ad == 1073741824) = false := beq_eq_false_iff_ne.mpr c22
        have c22b1 : (ad != 1073741824) = true := bne_iff_ne.mpr c22
        by_cases c26 : aa < 0
        ·rw [if_pos c26] at H
         have c26b0 : decide (aa < 0) = true := decide_eq_true c26
         clear c26
         simp only [Option.some.injEq, Prod.mk.injEq] at H
         obtain ⟨rfl, rfl, rfl, rfl, rfl, rfl, rfl, rfl, rfl, rfl, rfl, rfl, rfl, rfl, rfl, rfl, rfl, rfl, rfl, rfl, rfl, rfl, rfl, rfl, rfl, rfl, rfl, rfl, rfl, rfl, rfl, rfl, rfl, rfl, rfl, rfl, rfl, rfl, rfl, rfl, rfl, rfl, rfl, rfl, rfl⟩ := H
         have hnb27 := bW.out
         have hnc27 := bV.out
         have hcz28_0 : wr.cell? ⟨ac, 0, none⟩ = some (.bool aM) := (blk_cell ab.out 0).trans rfl
         have hcz28_1 : wr.cell? ⟨ac, 1, none⟩ = some (.int .i64 aR) := (blk_cell ab.out 1).trans rfl
         have hcz28_2 : wr.cell? ⟨ac, 2, none⟩ = some (.int .i64 aS) := (blk_cell ab.out 2).trans rfl
         have hcz28_3 : wr.cell? ⟨ac, 3, none⟩ = some (.int .i64 aN) := (blk_cell ab.out 3).trans rfl
         have hcz28_4 : wr.cell? ⟨ac, 4, none⟩ = some (.bool aT) := (blk_cell ab.out 4).trans rfl
         have hcz28_5 : wr.cell? ⟨ac, 5, none⟩ = some (.int .i64 aU) := (blk_cell ab.out 5).trans rfl
         have hcz28_6 : wr.cell? ⟨ac, 6, none⟩ = some (.bool aO) := (blk_cell ab.out 6).trans rfl
         have hcz28_7 : wr.cell? ⟨ac, 7, none⟩ = some (.int .i64 aV) := (blk_cell ab.out 7).trans rfl
         have hcz28_8 : wr.cell? ⟨ac, 8, none⟩ = some (.int .i64 aW) := (blk_cell ab.out 8).trans rfl
         have hcz28_9 : wr.cell? ⟨ac, 9, none⟩ = some (.int .i64 aP) := (blk_cell ab.out 9).trans rfl
         have hcz28_10 : wr.cell? ⟨ac, 10, none⟩ = some (.bool ao) := (blk_cell ab.out 10).trans rfl
         have hcz28_11 : wr.cell? ⟨ac, 11, none⟩ = some (.int .i64 ap) := (blk_cell ab.out 11).trans rfl
         have hcz28_12 : wr.cell? ⟨ac, 12, none⟩ = some (.bool ae) := (blk_cell ab.out 12).trans rfl
         have hcz28_13 : wr.cell? ⟨ac, 13, none⟩ = some (.int .i64 aq) := (blk_cell ab.out 13).trans rfl
         have hcz28_14 : wr.cell? ⟨ac, 14, none⟩ = some (.int .i64 ar) := (blk_cell ab.out 14).trans rfl
         have hcz28_15 : wr.cell? ⟨ac, 15, none⟩ = some (.int .i64 af) := (blk_cell ab.out 15).trans rfl
         have hcz28_16 : wr.cell? ⟨ac, 16, none⟩ = some (.bool au) := (blk_cell ab.out 16).trans rfl
         have hcz28_17 : wr.cell? ⟨ac, 17, none⟩ = some (.int .i64 av) := (blk_cell ab.out 17).trans rfl
         have hcz28_18 : wr.cell? ⟨ac, 18, none⟩ = some (.bool ag) := (blk_cell ab.out 18).trans rfl
         have hcz28_19 : wr.cell? ⟨ac, 19, none⟩ = some (.int .i64 aw) := (blk_cell ab.out 19).trans rfl
         have hcz28_20 : wr.cell? ⟨ac, 20, none⟩ = some (.int .i64 ax) := (blk_cell ab.out 20).trans rfl
         have hcz28_21 : wr.cell? ⟨ac, 21, none⟩ = some (.int .i64 ah) := (blk_cell ab.out 21).trans rfl
         have hcz28_22 : wr.cell? ⟨ac, 22, none⟩ = some (.bool ay) := (blk_cell ab.out 22).trans rfl
         have hcz28_23 : wr.cell? ⟨ac, 23, none⟩ = some (.int .i64 az) := (blk_cell ab.out 23).trans rfl
         have hcz28_24 : wr.cell? ⟨ac, 24, none⟩ = some (.bool ai) := (blk_cell ab.out 24).trans rfl
         have hcz28_25 : wr.cell? ⟨ac, 25, none⟩ = some (.int .i64 aA) := (blk_cell ab.out 25).trans rfl
         have hcz28_26 : wr.cell? ⟨ac, 26, none⟩ = some (.int .i64 aB) := (blk_cell ab.out 26).trans rfl
         have hcz28_27 : wr.cell? ⟨ac, 27, none⟩ = some (.int .i64 aj) := (blk_cell ab.out 27).trans rfl
         have hcz28_28 : wr.cell? ⟨ac, 28, none⟩ = some (.bool aC) := (blk_cell ab.out 28).trans rfl
         have hcz28_29 : wr.cell? ⟨ac, 29, none⟩ = some (.int .i64 aD) := (blk_cell ab.out 29).trans rfl
         have hcz28_30 : wr.cell? ⟨ac, 30, none⟩ = some (.bool ak) := (blk_cell ab.out 30).trans rfl
         have hcz28_31 : wr.cell? ⟨ac, 31, none⟩ = some (.int .i64 aE) := (blk_cell ab.out 31).trans rfl
         have hcz28_32 : wr.cell? ⟨ac, 32, none⟩ = some (.int .i64 aF) := (blk_cell ab.out 32).trans rfl
         have hcz28_33 : wr.cell? ⟨ac, 33, none⟩ = some (.int .i64 al) := (blk_cell ab.out 33).trans rfl
         have hcz28_34 : wr.cell? ⟨ac, 34, none⟩ = some (.bool aG) := (blk_cell ab.out 34).trans rfl
         have hcz28_35 : wr.cell? ⟨ac, 35, none⟩ = some (.int .i64 aH) := (blk_cell ab.out 35).trans rfl
         have hcz28_36 : wr.cell? ⟨ac, 36, none⟩ = some (.bool am) := (blk_cell ab.out 36).trans rfl
         have hcz28_37 : wr.cell? ⟨ac, 37, none⟩ = some (.int .i64 aI) := (blk_cell ab.out 37).trans rfl
         have hcz28_38 : wr.cell? ⟨ac, 38, none⟩ = some (.int .i64 aJ) := (blk_cell ab.out 38).trans rfl
         have hcz28_39 : wr.cell? ⟨ac, 39, none⟩ = some (.int .i64 an) := (blk_cell ab.out 39).trans rfl
         have hcz28_40 : wr.cell? ⟨ac, 40, none⟩ = some (.bool aK) := (blk_cell ab.out 40).trans rfl
         have hcz28_41 : wr.cell? ⟨ac, 41, none⟩ = some (.int .i64 aL) := (blk_cell ab.out 41).trans rfl
         have hcz28_42 : wr.cell? ⟨ac, 42, none⟩ = some (.int .i64 ad) := (blk_cell ab.out 42).trans rfl
         have hfz28_0 := blk_frozen ab.out 0
         have hfz28_1 := blk_frozen ab.out 1
         have hfz28_2 := blk_frozen ab.out 2
         have hfz28_3 := blk_frozen ab.out 3
         have hfz28_4 := blk_frozen ab.out 4
         have hfz28_5 := blk_frozen ab.out 5
         have hfz28_6 := blk_frozen ab.out 6
         have hfz28_7 := blk_frozen ab.out 7
         have hfz28_8 := blk_frozen ab.out 8
         have hfz28_9 := blk_frozen ab.out 9
         have hfz28_10 := blk_frozen ab.out 10
         have hfz28_11 := blk_frozen ab.out 11
         have hfz28_12 := blk_frozen ab.out 12
         have hfz28_13 := blk_frozen ab.out 13
         have hfz28_14 := blk_frozen ab.out 14
         have hfz28_15 := blk_frozen ab.out 15
         have hfz28_16 := blk_frozen ab.out 16
         have hfz28_17 := blk_frozen ab.out 17
         have hfz28_18 := blk_frozen ab.out 18
         have hfz28_19 := blk_frozen ab.out 19
         have hfz28_20 := blk_frozen ab.out 20
         have hfz28_21 := blk_frozen ab.out 21
         have hfz28_22 := blk_frozen ab.out 22
         have hfz28_23 := blk_frozen ab.out 23
         have hfz28_24 := blk_frozen ab.out 24
         have hfz28_25 := blk_frozen ab.out 25
         have hfz28_26 := blk_frozen ab.out 26
         have hfz28_27 := blk_frozen ab.out 27
         have hfz28_28 := blk_frozen ab.out 28
         have hfz28_29 := blk_frozen ab.out 29
         have hfz28_30 := blk_frozen ab.out 30
         have hfz28_31 := blk_frozen ab.out 31
         have hfz28_32 := blk_frozen ab.out 32
         have hfz28_33 := blk_frozen ab.out 33
         have hfz28_34 := blk_frozen ab.out 34
         have hfz28_35 := blk_frozen ab.out 35
         have hfz28_36 := blk_frozen ab.out 36
         have hfz28_37 := blk_frozen ab.out 37
         have hfz28_38 := blk_frozen ab.out 38
         have hfz28_39 := blk_frozen ab.out 39
         have hfz28_40 := blk_frozen ab.out 40
         have hfz28_41 := blk_frozen ab.out 41
         have hfz28_42 := blk_frozen ab.out 42
         go_wp2_with (first | ((with_reducible refine gate_store (t := 27) (p := 8) rfl ?_); refine seg_event (t := 27) (p := 8) (x := ?xo_w29) (g := bU) (off := 0) (T := 27) (cur := Jt bc bd be bf bg bh bi bj bk bl bm bn bo bp bq br bs bt bu bv bw bx bz bA bB bC bD bE bF bG bH bI bJ bK bL bM bN bO bP bQ bR bS bT) (vs := Vt false 0 0 0 false 0 false 0 0 0 false 0 false 0 0 0 false 0 false 0 0 0 false 0 false 0 0 0 false 0 false 0 0 0 false 0 false 0 0 0 false 0 0) (new := Jt false 0 0 0 false 0 false 0 0 0 false 0 false 0 0 0 false 0 false 0 0 0 false 0 false 0 0 0 false 0 false 0 0 0 false 0 false 0 0 0 false 0 0) ?hg ?ho ?hn ?hp ?hv ?hb ?hi ?hf ?h1 ?hw ?_; (case ho => rfl); (case hg => rfl); (case hn => rfl); (case hp => rfl); (case hv => first | rfl | (go_simp; done) | (simp [*]; done)); (case hb => exact aX.out); (case hi => kernel_rfl); (case hf => exact Nat.le_of_ble_eq_true rfl); (case h1 => rfl); (case hw => rfl); intro w29 hbox hg hbl; replace ab := zbG ab hg bW; replace aX := Aside0.mk hbox; replace HB := zhL hbl HB aZ; clear hbox hg hbl))
         refine bodyPost_ret (results_ctt rfl _ _ bU 27 #[.bool false, .int .i64 0, .int .i64 0, .int .i64 0, .bool false, .int .i64 0, .bool false, .int .i64 0, .int .i64 0, .int .i64 0, .bool false, .int .i64 0, .bool false, .int .i64 0, .int .i64 0, .int .i64 0, .bool false, .int .i64 0, .bool false, .int .i64 0, .int .i64 0, .int .i64 0, .bool false, .int .i64 0, .bool false, .int .i64 0, .int .i64 0, .int .i64 0, .bool false, .int .i64 0, .bool false, .int .i64 0, .int .i64 0, .int .i64 0, .bool false, .int .i64 0, .bool false, .int .i64 0, .int .i64 0, .int .i64 0, .bool false, .int .i64 0, .int .i64 0] (0, 0) _ rfl (zbo aX) Try.underlying27 rfl (by kernel_rfl)) rfl ?_
         exact ⟨by first | rfl | (simp [errW_none, errW_some] <;> rfl) | (simp [*, errW_none, errW_some] <;> rfl), zho HB⟩
        ·rw [if_neg c26] at H
         have c26b0 : decide (aa < 0) = false := decide_eq_false c26
         clear c26
         by_cases c30 : 0 ≤ aa
         ·rw [if_pos c30] at H
          have c30b0 : decide (0 ≤ aa) = true := decide_eq_true c30
          clear c30
          by_cases c31 : aa < 7
          ·rw [if_pos c31] at H
           have c31b0 : decide (aa < 7) = true := decide_eq_true c31
           clear c31
           simp only [Option.some.injEq, Prod.mk.injEq] at H
           obtain ⟨rfl, rfl, rfl, rfl, rfl, rfl, rfl, rfl, rfl, rfl, rfl, rfl, rfl, rfl, rfl, rfl, rfl, rfl, rfl, rfl, rfl, rfl, rfl, rfl, rfl, rfl, rfl, rfl, rfl, rfl, rfl, rfl, rfl, rfl, rfl, rfl, rfl, rfl, rfl, rfl, rfl, rfl, rfl, rfl, rfl⟩ := H
           have hnb32 := bW.out
           have hnc32 := bV.out
           have hcz33_0 : wr.cell? ⟨ac, 0, none⟩ = some (.bool aM) := (blk_cell ab.out 0).trans rfl
           have hcz33_1 : wr.cell? ⟨ac, 1, none⟩ = some (.int .i64 aR) := (blk_cell ab.out 1).trans rfl
           have hcz33_2 : wr.cell? ⟨ac, 2, none⟩ = some (.int .i64 aS) := (blk_cell ab.out 2).trans rfl
           have hcz33_3 : wr.cell? ⟨ac, 3, none⟩ = some (.int .i64 aN) := (blk_cell ab.out 3).trans rfl
           have hcz33_4 : wr.cell? ⟨ac, 4, none⟩ = some (.bool aT) := (blk_cell ab.out 4).trans rfl
           have hcz33_5 : wr.cell? ⟨ac, 5, none⟩ = some (.int .i64 aU) := (blk_cell ab.out 5).trans rfl
           have hcz33_6 : wr.cell? ⟨ac, 6, none⟩ = some (.bool aO) := (blk_cell ab.out 6).trans rfl
           have hcz33_7 : wr.cell? ⟨ac, 7, none⟩ = some (.int .i64 aV) := (blk_cell ab.out 7).trans rfl
           have hcz33_8 : wr.cell? ⟨ac, 8, none⟩ = some (.int .i64 aW) := (blk_cell ab.out 8).trans rfl
           have hcz33_9 : wr.cell? ⟨ac, 9, none⟩ = some (.int .i64 aP) := (blk_cell ab.out 9).trans rfl
           have hcz33_10 : wr.cell? ⟨ac, 10, none⟩ = some (.bool ao) := (blk_cell ab.out 10).trans rfl
           have hcz33_11 : wr.cell? ⟨ac, 11, none⟩ = some (.int .i64 ap) := (blk_cell ab.out 11).trans rfl
           have hcz33_12 : wr.cell? ⟨ac, 12, none⟩ = some (.bool ae) := (blk_cell ab.out 12).trans rfl
           have hcz33_13 : wr.cell? ⟨ac, 13, none⟩ = some (.int .i64 aq) := (blk_cell ab.out 13).trans rfl
           have hcz33_14 : wr.cell? ⟨ac, 14, none⟩ = some (.int .i64 ar) := (blk_cell ab.out 14).trans rfl
           have hcz33_15 : wr.cell? ⟨ac, 15, none⟩ = some (.int .i64 af) := (blk_cell ab.out 15).trans rfl
           have hcz33_16 : wr.cell? ⟨ac, 16, none⟩ = some (.bool au) := (blk_cell ab.out 16).trans rfl
           have hcz33_17 : wr.cell? ⟨ac, 17, none⟩ = some (.int .i64 av) := (blk_cell ab.out 17).trans rfl
           have hcz33_18 : wr.cell? ⟨ac, 18, none⟩ = some (.bool ag) := (blk_cell ab.out 18).trans rfl
           have hcz33_19 : wr.cell? ⟨ac, 19, none⟩ = some (.int .i64 aw) := (blk_cell ab.out 19).trans rfl
           have hcz33_20 : wr.cell? ⟨ac, 20, none⟩ = some (.int .i64 ax) := (blk_cell ab.out 20).trans rfl
           have hcz33_21 : wr.cell? ⟨ac, 21, none⟩ = some (.int .i64 ah) := (blk_cell ab.out 21).trans rfl
           have hcz33_22 : wr.cell? ⟨ac, 22, none⟩ = some (.bool ay) := (blk_cell ab.out 22).trans rfl
           have hcz33_23 : wr.cell? ⟨ac, 23, none⟩ = some (.int .i64 az) := (blk_cell ab.out 23).trans rfl
           have hcz33_24 : wr.cell? ⟨ac, 24, none⟩ = some (.bool ai) := (blk_cell ab.out 24).trans rfl
           have hcz33_25 : wr.cell? ⟨ac, 25, none⟩ = some (.int .i64 aA) := (blk_cell ab.out 25).trans rfl
           have hcz33_26 : wr.cell? ⟨ac, 26, none⟩ = some (.int .i64 aB) := (blk_cell ab.out 26).trans rfl
           have hcz33_27 : wr.cell? ⟨ac, 27, none⟩ = some (.int .i64 aj) := (blk_cell ab.out 27).trans rfl
           have hcz33_28 : wr.cell? ⟨ac, 28, none⟩ = some (.bool aC) := (blk_cell ab.out 28).trans rfl
           have hcz33_29 : wr.cell? ⟨ac, 29, none⟩ = some (.int .i64 aD) := (blk_cell ab.out 29).trans rfl
           have hcz33_30 : wr.cell? ⟨ac, 30, none⟩ = some (.bool ak) := (blk_cell ab.out 30).trans rfl
           have hcz33_31 : wr.cell? ⟨ac, 31, none⟩ = some (.int .i64 aE) := (blk_cell ab.out 31).trans rfl
           have hcz33_32 : wr.cell? ⟨ac, 32, none⟩ = some (.int .i64 aF) := (blk_cell ab.out 32).trans rfl
           have hcz33_33 : wr.cell? ⟨ac, 33, none⟩ = some (.int .i64 al) := (blk_cell ab.out 33).trans rfl
           have hcz33_34 : wr.cell? ⟨ac, 34, none⟩ = some (.bool aG) := (blk_cell ab.out 34).trans rfl
           have hcz33_35 : wr.cell? ⟨ac, 35, none⟩ = some (.int .i64 aH) := (blk_cell ab.out 35).trans rfl
           have hcz33_36 : wr.cell? ⟨ac, 36, none⟩ = some (.bool am) := (blk_cell ab.out 36).trans rfl
           have hcz33_37 : wr.cell? ⟨ac, 37, none⟩ = some (.int .i64 aI) := (blk_cell ab.out 37).trans rfl
           have hcz33_38 : wr.cell? ⟨ac, 38, none⟩ = some (.int .i64 aJ) := (blk_cell ab.out 38).trans rfl
           have hcz33_39 : wr.cell? ⟨ac, 39, none⟩ = some (.int .i64 an) := (blk_cell ab.out 39).trans rfl
           have hcz33_40 : wr.cell? ⟨ac, 40, none⟩ = some (.bool aK) := (blk_cell ab.out 40).trans rfl
           have hcz33_41 : wr.cell? ⟨ac, 41, none⟩ = some (.int .i64 aL) := (blk_cell ab.out 41).trans rfl
           have hcz33_42 : wr.cell? ⟨ac, 42, none⟩ = some (.int .i64 ad) := (blk_cell ab.out 42).trans rfl
           have hfz33_0 := blk_frozen ab.out 0
           have hfz33_1 := blk_frozen ab.out 1
           have hfz33_2 := blk_frozen ab.out 2
           have hfz33_3 := blk_frozen ab.out 3
           have hfz33_4 := blk_frozen ab.out 4
           have hfz33_5 := blk_frozen ab.out 5
           have hfz33_6 := blk_frozen ab.out 6
           have hfz33_7 := blk_frozen ab.out 7
           have hfz33_8 := blk_frozen ab.out 8
           have hfz33_9 := blk_frozen ab.out 9
           have hfz33_10 := blk_frozen ab.out 10
           have hfz33_11 := blk_frozen ab.out 11
           have hfz33_12 := blk_frozen ab.out 12
           have hfz33_13 := blk_frozen ab.out 13
           have hfz33_14 := blk_frozen ab.out 14
           have hfz33_15 := blk_frozen ab.out 15
           have hfz33_16 := blk_frozen ab.out 16
           have hfz33_17 := blk_frozen ab.out 17
           have hfz33_18 := blk_frozen ab.out 18
           have hfz33_19 := blk_frozen ab.out 19
           have hfz33_20 := blk_frozen ab.out 20
           have hfz33_21 := blk_frozen ab.out 21
           have hfz33_22 := blk_frozen ab.out 22
           have hfz33_23 := blk_frozen ab.out 23
           have hfz33_24 := blk_frozen ab.out 24
           have hfz33_25 := blk_frozen ab.out 25
           have hfz33_26 := blk_frozen ab.out 26
           have hfz33_27 := blk_frozen ab.out 27
           have hfz33_28 := blk_frozen ab.out 28
           have hfz33_29 := blk_frozen ab.out 29
           have hfz33_30 := blk_frozen ab.out 30
           have hfz33_31 := blk_frozen ab.out 31
           have hfz33_32 := blk_frozen ab.out 32
           have hfz33_33 := blk_frozen ab.out 33
           have hfz33_34 := blk_frozen ab.out 34
           have hfz33_35 := blk_frozen ab.out 35
           have hfz33_36 := blk_frozen ab.out 36
           have hfz33_37 := blk_frozen ab.out 37
           have hfz33_38 := blk_frozen ab.out 38
           have hfz33_39 := blk_frozen ab.out 39
           have hfz33_40 := blk_frozen ab.out 40
           have hfz33_41 := blk_frozen ab.out 41
           have hfz33_42 := blk_frozen ab.out 42
           try go_wp2_with (first | ((with_reducible refine gate_store (t := 3) (p := 57) rfl ?_); refine store_event (t := 3) (p := 57) (v := ?vo_w34) (w1 := (wr.setCell ⟨ac, 42, none⟩ (.int .i64 (wrap64 (ad + 1))))) ?hg ?ho ?hn ?hr ?_; (case ho => rfl); (case hg => rfl); (case hn => rfl); (case hr => first | (go_simp; done) | (go_simp; rfl)); intro w34 hw; have n0_ : Aside0 (w34.heap[ac]? = some (.cells (Jt aM aR aS aN aT aU aO aV aW aP ao ap ae aq ar af au av ag aw ax ah ay az ai aA aB aj aC aD ak aE aF al aG aH am aI aJ an aK aL (wrap64 (ad + 1))) 27 (0, 0))) := ⟨(by rw [hw]; exact (by (with_reducible repeat (first | refine blk_drewN ?_ _ | refine blk_drew ?_ | refine blk_alloc ?_ _)); refine blk_put (cs := Jt aM aR aS aN aT aU aO aV aW aP ao ap ae aq ar af au av ag aw ax ah ay az ai aA aB aj aC aD ak aE aF al aG aH am aI aJ an aK aL ad) ?_ (42) _ rfl; (with_reducible repeat (first | refine blk_drewN ?_ _ | refine blk_drew ?_ | refine blk_alloc ?_ _)); exact ab.out))⟩; have n1_ : Aside0 (w34.heap[bU]? = some (.cells (Jt bc bd be bf bg bh bi bj bk bl bm bn bo bp bq br bs bt bu bv bw bx bz bA bB bC bD bE bF bG bH bI bJ bK bL bM bN bO bP bQ bR bS bT) 27 (0, 0))) := ⟨(by rw [hw]; exact (by (with_reducible repeat (first | refine blk_drewN ?_ _ | refine blk_drew ?_ | refine blk_alloc ?_ _)); refine blk_far ?_ bV.out _; (with_reducible repeat (first | refine blk_drewN ?_ _ | refine blk_drew ?_ | refine blk_alloc ?_ _)); exact aX.out))⟩; have n2_ : Aside0 (Below w.heap.size w w34) := ⟨(by rw [hw]; exact (zho HB))⟩; clear hw; clear ab; clear aX; clear HB; have ab := n0_; have aX := n1_; have HB := n2_; clear n0_ n1_ n2_; have hcz35_0 : w34.cell? ⟨ac, 0, none⟩ = some (.bool aM) := (blk_cell ab.out 0).trans rfl; have hcz35_1 : w34.cell? ⟨ac, 1, none⟩ = some (.int .i64 aR) := (blk_cell ab.out 1).trans rfl; have hcz35_2 : w34.cell? ⟨ac, 2, none⟩ = some (.int .i64 aS) := (blk_cell ab.out 2).trans rfl; have hcz35_3 : w34.cell? ⟨ac, 3, none⟩ = some (.int .i64 aN) := (blk_cell ab.out 3).trans rfl; have hcz35_4 : w34.cell? ⟨ac, 4, none⟩ = some (.bool aT) := (blk_cell ab.out 4).trans rfl; have hcz35_5 : w34.cell? ⟨ac, 5, none⟩ = some (.int .i64 aU) := (blk_cell ab.out 5).trans rfl; have hcz35_6 : w34.cell? ⟨ac, 6, none⟩ = some (.bool aO) := (blk_cell ab.out 6).trans rfl; have hcz35_7 : w34.cell? ⟨ac, 7, none⟩ = some (.int .i64 aV) := (blk_cell ab.out 7).trans rfl; have hcz35_8 : w34.cell? ⟨ac, 8, none⟩ = some (.int .i64 aW) := (blk_cell ab.out 8).trans rfl; have hcz35_9 : w34.cell? ⟨ac, 9, none⟩ = some (.int .i64 aP) := (blk_cell ab.out 9).trans rfl; have hcz35_10 : w34.cell? ⟨ac, 10, none⟩ = some (.bool ao) := (blk_cell ab.out 10).trans rfl; have hcz35_11 : w34.cell? ⟨ac, 11, none⟩ = some (.int .i64 ap) := (blk_cell ab.out 11).trans rfl; have hcz35_12 : w34.cell? ⟨ac, 12, none⟩ = some (.bool ae) := (blk_cell ab.out 12).trans rfl; have hcz35_13 : w34.cell? ⟨ac, 13, none⟩ = some (.int .i64 aq) := (blk_cell ab.out 13).trans rfl; have hcz35_14 : w34.cell? ⟨ac, 14, none⟩ = some (.int .i64 ar) := (blk_cell ab.out 14).trans rfl; have hcz35_15 : w34.cell? ⟨ac, 15, none⟩ = some (.int .i64 af) := (blk_cell ab.out 15).trans rfl; have hcz35_16 : w34.cell? ⟨ac, 16, none⟩ = some (.bool au) := (blk_cell ab.out 16).trans rfl; have hcz35_17 : w34.cell? ⟨ac, 17, none⟩ = some (.int .i64 av) := (blk_cell ab.out 17).trans rfl; have hcz35_18 : w34.cell? ⟨ac, 18, none⟩ = some (.bool ag) := (blk_cell ab.out 18).trans rfl; have hcz35_19 : w34.cell? ⟨ac, 19, none⟩ = some (.int .i64 aw) := (blk_cell ab.out 19).trans rfl; have hcz35_20 : w34.cell? ⟨ac, 20, none⟩ = some (.int .i64 ax) := (blk_cell ab.out 20).trans rfl; have hcz35_21 : w34.cell? ⟨ac, 21, none⟩ = some (.int .i64 ah) := (blk_cell ab.out 21).trans rfl; have hcz35_22 : w34.cell? ⟨ac, 22, none⟩ = some (.bool ay) := (blk_cell ab.out 22).trans rfl; have hcz35_23 : w34.cell? ⟨ac, 23, none⟩ = some (.int .i64 az) := (blk_cell ab.out 23).trans rfl; have hcz35_24 : w34.cell? ⟨ac, 24, none⟩ = some (.bool ai) := (blk_cell ab.out 24).trans rfl; have hcz35_25 : w34.cell? ⟨ac, 25, none⟩ = some (.int .i64 aA) := (blk_cell ab.out 25).trans rfl; have hcz35_26 : w34.cell? ⟨ac, 26, none⟩ = some (.int .i64 aB) := (blk_cell ab.out 26).trans rfl; have hcz35_27 : w34.cell? ⟨ac, 27, none⟩ = some (.int .i64 aj) := (blk_cell ab.out 27).trans rfl; have hcz35_28 : w34.cell? ⟨ac, 28, none⟩ = some (.bool aC) := (blk_cell ab.out 28).trans rfl; have hcz35_29 : w34.cell? ⟨ac, 29, none⟩ = some (.int .i64 aD) := (blk_cell ab.out 29).trans rfl; have hcz35_30 : w34.cell? ⟨ac, 30, none⟩ = some (.bool ak) := (blk_cell ab.out 30).trans rfl; have hcz35_31 : w34.cell? ⟨ac, 31, none⟩ = some (.int .i64 aE) := (blk_cell ab.out 31).trans rfl; have hcz35_32 : w34.cell? ⟨ac, 32, none⟩ = some (.int .i64 aF) := (blk_cell ab.out 32).trans rfl; have hcz35_33 : w34.cell? ⟨ac, 33, none⟩ = some (.int .i64 al) := (blk_cell ab.out 33).trans rfl; have hcz35_34 : w34.cell? ⟨ac, 34, none⟩ = some (.bool aG) := (blk_cell ab.out 34).trans rfl; have hcz35_35 : w34.cell? ⟨ac, 35, none⟩ = some (.int .i64 aH) := (blk_cell ab.out 35).trans rfl; have hcz35_36 : w34.cell? ⟨ac, 36, none⟩ = some (.bool am) := (blk_cell ab.out 36).trans rfl; have hcz35_37 : w34.cell? ⟨ac, 37, none⟩ = some (.int .i64 aI) := (blk_cell ab.out 37).trans rfl; have hcz35_38 : w34.cell? ⟨ac, 38, none⟩ = some (.int .i64 aJ) := (blk_cell ab.out 38).trans rfl; have hcz35_39 : w34.cell? ⟨ac, 39, none⟩ = some (.int .i64 an) := (blk_cell ab.out 39).trans rfl; have hcz35_40 : w34.cell? ⟨ac, 40, none⟩ = some (.bool aK) := (blk_cell ab.out 40).trans rfl; have hcz35_41 : w34.cell? ⟨ac, 41, none⟩ = some (.int .i64 aL) := (blk_cell ab.out 41).trans rfl; have hcz35_42 : w34.cell? ⟨ac, 42, none⟩ = some (.int .i64 (wrap64 (ad + 1))) := (blk_cell ab.out 42).trans rfl; have hfz35_0 := blk_frozen ab.out 0; have hfz35_1 := blk_frozen ab.out 1; have hfz35_2 := blk_frozen ab.out 2; have hfz35_3 := blk_frozen ab.out 3; have hfz35_4 := blk_frozen ab.out 4; have hfz35_5 := blk_frozen ab.out 5; have hfz35_6 := blk_frozen ab.out 6; have hfz35_7 := blk_frozen ab.out 7; have hfz35_8 := blk_frozen ab.out 8; have hfz35_9 := blk_frozen ab.out 9; have hfz35_10 := blk_frozen ab.out 10; have hfz35_11 := blk_frozen ab.out 11; have hfz35_12 := blk_frozen ab.out 12; have hfz35_13 := blk_frozen ab.out 13; have hfz35_14 := blk_frozen ab.out 14; have hfz35_15 := blk_frozen ab.out 15; have hfz35_16 := blk_frozen ab.out 16; have hfz35_17 := blk_frozen ab.out 17; have hfz35_18 := blk_frozen ab.out 18; have hfz35_19 := blk_frozen ab.out 19; have hfz35_20 := blk_frozen ab.out 20; have hfz35_21 := blk_frozen ab.out 21; have hfz35_22 := blk_frozen ab.out 22; have hfz35_23 := blk_frozen ab.out 23; have hfz35_24 := blk_frozen ab.out 24; have hfz35_25 := blk_frozen ab.out 25; have hfz35_26 := blk_frozen ab.out 26; have hfz35_27 := blk_frozen ab.out 27; have hfz35_28 := blk_frozen ab.out 28; have hfz35_29 := blk_frozen ab.out 29; have hfz35_30 := blk_frozen ab.out 30; have hfz35_31 := blk_frozen ab.out 31; have hfz35_32 := blk_frozen ab.out 32; have hfz35_33 := blk_frozen ab.out 33; have hfz35_34 := blk_frozen ab.out 34; have hfz35_35 := blk_frozen ab.out 35; have hfz35_36 := blk_frozen ab.out 36; have hfz35_37 := blk_frozen ab.out 37; have hfz35_38 := blk_frozen ab.out 38; have hfz35_39 := blk_frozen ab.out 39; have hfz35_40 := blk_frozen ab.out 40; have hfz35_41 := blk_frozen ab.out 41; have hfz35_42 := blk_frozen ab.out 42; have vp350 : (0 ≤ (aa : Int)) = True := eq_true (of_decide_eq_true (by first | (with_reducible assumption) | assumption)); have vq350 : ((aa : Int) < (7 : Int)) = True := eq_true (of_decide_eq_true (by first | (with_reducible assumption) | assumption)); have hvk36_0 := cellA27_0_0 (aa) (of_decide_eq_true (by first | (with_reducible assumption) | assumption)) (of_decide_eq_true (by first | (with_reducible assumption) | assumption)) ab.out; have hfk36_0 := blk_frozen ab.out (aa.toNat * 6); have hvk36_1 := cellA27_0_1 (aa) (of_decide_eq_true (by first | (with_reducible assumption) | assumption)) (of_decide_eq_true (by first | (with_reducible assumption) | assumption)) ab.out; have hfk36_1 := blk_frozen ab.out (aa.toNat * 6 + 1); have hvk36_2 := cellA27_0_2 (aa) (of_decide_eq_true (by first | (with_reducible assumption) | assumption)) (of_decide_eq_true (by first | (with_reducible assumption) | assumption)) ab.out; have hfk36_2 := blk_frozen ab.out (aa.toNat * 6 + 2); have hvk36_3 := cellA27_0_3 (aa) (of_decide_eq_true (by first | (with_reducible assumption) | assumption)) (of_decide_eq_true (by first | (with_reducible assumption) | assumption)) ab.out; have hfk36_3 := blk_frozen ab.out (aa.toNat * 6 + 3); have hvk36_4 := cellA27_0_4 (aa) (of_decide_eq_true (by first | (with_reducible assumption) | assumption)) (of_decide_eq_true (by first | (with_reducible assumption) | assumption)) ab.out; have hfk36_4 := blk_frozen ab.out (aa.toNat * 6 + 4); have hvk36_5 := cellA27_0_5 (aa) (of_decide_eq_true (by first | (with_reducible assumption) | assumption)) (of_decide_eq_true (by first | (with_reducible assumption) | assumption)) ab.out; have hfk36_5 := blk_frozen ab.out (aa.toNat * 6 + 5)) | ((with_reducible refine gate_store (t := 24) (p := 66) rfl ?_); refine store_event (t := 24) (p := 66) (v := ?vo_w37) (w1 := ((((((w34.setCell ⟨ac, aa.toNat * 6, none⟩ (.bool true)).setCell ⟨ac, aa.toNat * 6 + 1, none⟩ (.int .i64 (wrap64 (ad + 1)))).setCell ⟨ac, aa.toNat * 6 + 2, none⟩ (.int .i64 a1)).setCell ⟨ac, aa.toNat * 6 + 3, none⟩ (.int .i64 a2)).setCell ⟨ac, aa.toNat * 6 + 4, none⟩ (.bool false)).setCell ⟨ac, aa.toNat * 6 + 5, none⟩ (.int .i64 a3))) ?hg ?ho ?hn ?hr ?_; (case ho => rfl); (case hg => rfl); (case hn => rfl); (case hr => first | (go_simp; done) | (go_simp; rfl)); intro w37 hw; have n0_ : Aside0 (w37.heap[ac]? = some (.cells (Jt (pt 0 aa true aM) (pt 0 aa (wrap64 (ad + 1)) aR) (pt 0 aa a1 aS) (pt 0 aa a2 aN) (pt 0 aa false aT) (pt 0 aa a3 aU) (pt 1 aa true aO) (pt 1 aa (wrap64 (ad + 1)) aV) (pt 1 aa a1 aW) (pt 1 aa a2 aP) (pt 1 aa false ao) (pt 1 aa a3 ap) (pt 2 aa true ae) (pt 2 aa (wrap64 (ad + 1)) aq) (pt 2 aa a1 ar) (pt 2 aa a2 af) (pt 2 aa false au) (pt 2 aa a3 av) (pt 3 aa true ag) (pt 3 aa (wrap64 (ad + 1)) aw) (pt 3 aa a1 ax) (pt 3 aa a2 ah) (pt 3 aa false ay) (pt 3 aa a3 az) (pt 4 aa true ai) (pt 4 aa (wrap64 (ad + 1)) aA) (pt 4 aa a1 aB) (pt 4 aa a2 aj) (pt 4 aa false aC) (pt 4 aa a3 aD) (pt 5 aa true ak) (pt 5 aa (wrap64 (ad + 1)) aE) (pt 5 aa a1 aF) (pt 5 aa a2 al) (pt 5 aa false aG) (pt 5 aa a3 aH) (pt 6 aa true am) (pt 6 aa (wrap64 (ad + 1)) aI) (pt 6 aa a1 aJ) (pt 6 aa a2 an) (pt 6 aa false aK) (pt 6 aa a3 aL) (wrap64 (ad + 1))) 27 (0, 0))) := ⟨(by rw [hw]; exact (by (with_reducible repeat (first | refine blk_drewN ?_ _ | refine blk_drew ?_ | refine blk_alloc ?_ _)); refine blk_put (cs := Jt (pt 0 aa true aM) (pt 0 aa (wrap64 (ad + 1)) aR) (pt 0 aa a1 aS) (pt 0 aa a2 aN) (pt 0 aa false aT) aU (pt 1 aa true aO) (pt 1 aa (wrap64 (ad + 1)) aV) (pt 1 aa a1 aW) (pt 1 aa a2 aP) (pt 1 aa false ao) ap (pt 2 aa true ae) (pt 2 aa (wrap64 (ad + 1)) aq) (pt 2 aa a1 ar) (pt 2 aa a2 af) (pt 2 aa false au) av (pt 3 aa true ag) (pt 3 aa (wrap64 (ad + 1)) aw) (pt 3 aa a1 ax) (pt 3 aa a2 ah) (pt 3 aa false ay) az (pt 4 aa true ai) (pt 4 aa (wrap64 (ad + 1)) aA) (pt 4 aa a1 aB) (pt 4 aa a2 aj) (pt 4 aa false aC) aD (pt 5 aa true ak) (pt 5 aa (wrap64 (ad + 1)) aE) (pt 5 aa a1 aF) (pt 5 aa a2 al) (pt 5 aa false aG) aH (pt 6 aa true am) (pt 6 aa (wrap64 (ad + 1)) aI) (pt 6 aa a1 aJ) (pt 6 aa a2 an) (pt 6 aa false aK) aL (wrap64 (ad + 1))) ?_ (aa.toNat * 6 + 5) _ (putA27_0_5 aa (of_decide_eq_true (by first | (with_reducible assumption) | assumption)) (of_decide_eq_true (by first | (with_reducible assumption) | assumption)) a3); (with_reducible repeat (first | refine blk_drewN ?_ _ | refine blk_drew ?_ | refine blk_alloc ?_ _)); refine blk_put (cs := Jt (pt 0 aa true aM) (pt 0 aa (wrap64 (ad + 1)) aR) (pt 0 aa a1 aS) (pt 0 aa a2 aN) aT aU (pt 1 aa true aO) (pt 1 aa (wrap64 (ad + 1)) aV) (pt 1 aa a1 aW) (pt 1 aa a2 aP) ao ap (pt 2 aa true ae) (pt 2 aa (wrap64 (ad + 1)) aq) (pt 2 aa a1 ar) (pt 2 aa a2 af) au av (pt 3 aa true ag) (pt 3 aa (wrap64 (ad + 1)) aw) (pt 3 aa a1 ax) (pt 3 aa a2 ah) ay az (pt 4 aa true ai) (pt 4 aa (wrap64 (ad + 1)) aA) (pt 4 aa a1 aB) (pt 4 aa a2 aj) aC aD (pt 5 aa true ak) (pt 5 aa (wrap64 (ad + 1)) aE) (pt 5 aa a1 aF) (pt 5 aa a2 al) aG aH (pt 6 aa true am) (pt 6 aa (wrap64 (ad + 1)) aI) (pt 6 aa a1 aJ) (pt 6 aa a2 an) aK aL (wrap64 (ad + 1))) ?_ (aa.toNat * 6 + 4) _ (putA27_0_4 aa (of_decide_eq_true (by first | (with_reducible assumption) | assumption)) (of_decide_eq_true (by first | (with_reducible assumption) | assumption)) false); (with_reducible repeat (first | refine blk_drewN ?_ _ | refine blk_drew ?_ | refine blk_alloc ?_ _)); refine blk_put (cs := Jt (pt 0 aa true aM) (pt 0 aa (wrap64 (ad + 1)) aR) (pt 0 aa a1 aS) aN aT aU (pt 1 aa true aO) (pt 1 aa (wrap64 (ad + 1)) aV) (pt 1 aa a1 aW) aP ao ap (pt 2 aa true ae) (pt 2 aa (wrap64 (ad + 1)) aq) (pt 2 aa a1 ar) af au av (pt 3 aa true ag) (pt 3 aa (wrap64 (ad + 1)) aw) (pt 3 aa a1 ax) ah ay az (pt 4 aa true ai) (pt 4 aa (wrap64 (ad + 1)) aA) (pt 4 aa a1 aB) aj aC aD (pt 5 aa true ak) (pt 5 aa (wrap64 (ad + 1)) aE) (pt 5 aa a1 aF) al aG aH (pt 6 aa true am) (pt 6 aa (wrap64 (ad + 1)) aI) (pt 6 aa a1 aJ) an aK aL (wrap64 (ad + 1))) ?_ (aa.toNat * 6 + 3) _ (putA27_0_3 aa (of_decide_eq_true (by first | (with_reducible assumption) | assumption)) (of_decide_eq_true (by first | (with_reducible assumption) | assumption)) a2); (with_reducible repeat (first | refine blk_drewN ?_ _ | refine blk_drew ?_ | refine blk_alloc ?_ _)); refine blk_put (cs := Jt (pt 0 aa true aM) (pt 0 aa (wrap64 (ad + 1)) aR) aS aN aT aU (pt 1 aa true aO) (pt 1 aa (wrap64 (ad + 1)) aV) aW aP ao ap (pt 2 aa true ae) (pt 2 aa (wrap64 (ad + 1)) aq) ar af au av (pt 3 aa true ag) (pt 3 aa (wrap64 (ad + 1)) aw) ax ah ay az (pt 4 aa true ai) (pt 4 aa (wrap64 (ad + 1)) aA) aB aj aC aD (pt 5 aa true ak) (pt 5 aa (wrap64 (ad + 1)) aE) aF al aG aH (pt 6 aa true am) (pt 6 aa (wrap64 (ad + 1)) aI) aJ an aK aL (wrap64 (ad + 1))) ?_ (aa.toNat * 6 + 2) _ (putA27_0_2 aa (of_decide_eq_true (by first | (with_reducible assumption) | assumption)) (of_decide_eq_true (by first | (with_reducible assumption) | assumption)) a1); (with_reducible repeat (first | refine blk_drewN ?_ _ | refine blk_drew ?_ | refine blk_alloc ?_ _)); refine blk_put (cs := Jt (pt 0 aa true aM) aR aS aN aT aU (pt 1 aa true aO) aV aW aP ao ap (pt 2 aa true ae) aq ar af au av (pt 3 aa true ag) aw ax ah ay az (pt 4 aa true ai) aA aB aj aC aD (pt 5 aa true ak) aE aF al aG aH (pt 6 aa true am) aI aJ an aK aL (wrap64 (ad + 1))) ?_ (aa.toNat * 6 + 1) _ (putA27_0_1 aa (of_decide_eq_true (by first | (with_reducible assumption) | assumption)) (of_decide_eq_true (by first | (with_reducible assumption) | assumption)) (wrap64 (ad + 1))); (with_reducible repeat (first | refine blk_drewN ?_ _ | refine blk_drew ?_ | refine blk_alloc ?_ _)); refine blk_put (cs := Jt aM aR aS aN aT aU aO aV aW aP ao ap ae aq ar af au av ag aw ax ah ay az ai aA aB aj aC aD ak aE aF al aG aH am aI aJ an aK aL (wrap64 (ad + 1))) ?_ (aa.toNat * 6) _ (putA27_0_0 aa (of_decide_eq_true (by first | (with_reducible assumption) | assumption)) (of_decide_eq_true (by first | (with_reducible assumption) | assumption)) true); (with_reducible repeat (first | refine blk_drewN ?_ _ | refine blk_drew ?_ | refine blk_alloc ?_ _)); exact ab.out))⟩; have n1_ : Aside0 (w37.heap[bU]? = some (.cells (Jt bc bd be bf bg bh bi bj bk bl bm bn bo bp bq br bs bt bu bv bw bx bz bA bB bC bD bE bF bG bH bI bJ bK bL bM bN bO bP bQ bR bS bT) 27 (0, 0))) := ⟨(by rw [hw]; exact (by (with_reducible repeat (first | refine blk_drewN ?_ _ | refine blk_drew ?_ | refine blk_alloc ?_ _)); refine blk_far ?_ bV.out _; (with_reducible repeat (first | refine blk_drewN ?_ _ | refine blk_drew ?_ | refine blk_alloc ?_ _)); refine blk_far ?_ bV.out _; (with_reducible repeat (first | refine blk_drewN ?_ _ | refine blk_drew ?_ | refine blk_alloc ?_ _)); refine blk_far ?_ bV.out _; (with_reducible repeat (first | refine blk_drewN ?_ _ | refine blk_drew ?_ | refine blk_alloc ?_ _)); refine blk_far ?_ bV.out _; (with_reducible repeat (first | refine blk_drewN ?_ _ | refine blk_drew ?_ | refine blk_alloc ?_ _)); refine blk_far ?_ bV.out _; (with_reducible repeat (first | refine blk_drewN ?_ _ | refine blk_drew ?_ | refine blk_alloc ?_ _)); refine blk_far ?_ bV.out _; (with_reducible repeat (first | refine blk_drewN ?_ _ | refine blk_drew ?_ | refine blk_alloc ?_ _)); exact aX.out))⟩; have n2_ : Aside0 (Below w.heap.size w w37) := ⟨(by rw [hw]; exact (zho HB))⟩; clear hw; clear ab; clear aX; clear HB; have ab := n0_; have aX := n1_; have HB := n2_; clear n0_ n1_ n2_))
           have n0_ := Aside0.mk (blk_drew ab.out)
           have n1_ := Aside0.mk (blk_drew aX.out)
           have n2_ := Aside0.mk (below_drew1 HB.out)
           clear ab
           clear aX
           clear HB
           have ab := n0_
           have aX := n1_
           have HB := n2_
           clear n0_ n1_ n2_
           refine start_ (n := 6) (S := fun w' => w'.heap[ac]? = some (.cells (Jt (pt 0 aa true aM) (pt 0 aa (wrap64 (ad + 1)) aR) (pt 0 aa a1 aS) (pt 0 aa a2 aN) (pt 0 aa false aT) (pt 0 aa a3 aU) (pt 1 aa true aO) (pt 1 aa (wrap64 (ad + 1)) aV) (pt 1 aa a1 aW) (pt 1 aa a2 aP) (pt 1 aa false ao) (pt 1 aa a3 ap) (pt 2 aa true ae) (pt 2 aa (wrap64 (ad + 1)) aq) (pt 2 aa a1 ar) (pt 2 aa a2 af) (pt 2 aa false au) (pt 2 aa a3 av) (pt 3 aa true ag) (pt 3 aa (wrap64 (ad + 1)) aw) (pt 3 aa a1 ax) (pt 3 aa a2 ah) (pt 3 aa false ay) (pt 3 aa a3 az) (pt 4 aa true ai) (pt 4 aa (wrap64 (ad + 1)) aA) (pt 4 aa a1 aB) (pt 4 aa a2 aj) (pt 4 aa false aC) (pt 4 aa a3 aD) (pt 5 aa true ak) (pt 5 aa (wrap64 (ad + 1)) aE) (pt 5 aa a1 aF) (pt 5 aa a2 al) (pt 5 aa false aG) (pt 5 aa a3 aH) (pt 6 aa true am) (pt 6 aa (wrap64 (ad + 1)) aI) (pt 6 aa a1 aJ) (pt 6 aa a2 an) (pt 6 aa false aK) (pt 6 aa a3 aL) (wrap64 (ad + 1))) 27 (0, 0))) (ds := []) #[false, false, false, false, false, false] (by kernel_rfl) rfl rfl ab.out (fun hHeld => ?_)
           generalize w37.drew = w38 at ab aX HB hHeld ⊢
           refine pure_ (i := 1) (N := some 68) (v := ?_) (a' := ?_) #[false, true, false, false, false, false] rfl rfl (by kernel_rfl) (fun _ _ _ h => h) (Or.inl ⟨by rfl, ?_⟩) ?_ ?_
           rotate_left
           ·intro w'
            go_simp
            with_reducible rfl
           rotate_left
           ·simp only [Act.put, List.setIfInBounds_toArray, List.set_cons_zero, List.set_cons_succ, i64_w, i32_w]
            rfl
           refine take_ (i := 0) (N := some 67) (v := ?_) (a' := ?_) #[true, true, false, false, false, false] rfl rfl (by kernel_rfl) (fun _ _ _ h => h) (Or.inl ⟨by rfl, ?_⟩) hHeld ?_ ?_
           rotate_left
           ·rintro w' b_gb342
            first | (refine seg_load_run (t := 27) (p := ?p0) (g := ac) (off := 0) (T := 27) (cur := Jt (pt 0 aa true aM) (pt 0 aa (wrap64 (ad + 1)) aR) (pt 0 aa a1 aS) (pt 0 aa a2 aN) (pt 0 aa false aT) (pt 0 aa a3 aU) (pt 1 aa true aO) (pt 1 aa (wrap64 (ad + 1)) aV) (pt 1 aa a1 aW) (pt 1 aa a2 aP) (pt 1 aa false ao) (pt 1 aa a3 ap) (pt 2 aa true ae) (pt 2 aa (wrap64 (ad + 1)) aq) (pt 2 aa a1 ar) (pt 2 aa a2 af) (pt 2 aa false au) (pt 2 aa a3 av) (pt 3 aa true ag) (pt 3 aa (wrap64 (ad + 1)) aw) (pt 3 aa a1 ax) (pt 3 aa a2 ah) (pt 3 aa false ay) (pt 3 aa a3 az) (pt 4 aa true ai) (pt 4 aa (wrap64 (ad + 1)) aA) (pt 4 aa a1 aB) (pt 4 aa a2 aj) (pt 4 aa false aC) (pt 4 aa a3 aD) (pt 5 aa true ak) (pt 5 aa (wrap64 (ad + 1)) aE) (pt 5 aa a1 aF) (pt 5 aa a2 al) (pt 5 aa false aG) (pt 5 aa a3 aH) (pt 6 aa true am) (pt 6 aa (wrap64 (ad + 1)) aI) (pt 6 aa a1 aJ) (pt 6 aa a2 an) (pt 6 aa false aK) (pt 6 aa a3 aL) (wrap64 (ad + 1))) (vs := Vt (pt 0 aa true aM) (pt 0 aa (wrap64 (ad + 1)) aR) (pt 0 aa a1 aS) (pt 0 aa a2 aN) (pt 0 aa false aT) (pt 0 aa a3 aU) (pt 1 aa true aO) (pt 1 aa (wrap64 (ad + 1)) aV) (pt 1 aa a1 aW) (pt 1 aa a2 aP) (pt 1 aa false ao) (pt 1 aa a3 ap) (pt 2 aa true ae) (pt 2 aa (wrap64 (ad + 1)) aq) (pt 2 aa a1 ar) (pt 2 aa a2 af) (pt 2 aa false au) (pt 2 aa a3 av) (pt 3 aa true ag) (pt 3 aa (wrap64 (ad + 1)) aw) (pt 3 aa a1 ax) (pt 3 aa a2 ah) (pt 3 aa false ay) (pt 3 aa a3 az) (pt 4 aa true ai) (pt 4 aa (wrap64 (ad + 1)) aA) (pt 4 aa a1 aB) (pt 4 aa a2 aj) (pt 4 aa false aC) (pt 4 aa a3 aD) (pt 5 aa true ak) (pt 5 aa (wrap64 (ad + 1)) aE) (pt 5 aa a1 aF) (pt 5 aa a2 al) (pt 5 aa false aG) (pt 5 aa a3 aH) (pt 6 aa true am) (pt 6 aa (wrap64 (ad + 1)) aI) (pt 6 aa a1 aJ) (pt 6 aa a2 an) (pt 6 aa false aK) (pt 6 aa a3 aL) (wrap64 (ad + 1))) ?ho ?hp b_gb342 Try.underlying27 ?hd ?hi ?hw; (case ho => rfl); (case hp => rfl); (case hd => rfl); (case hi => kernel_rfl); (case hw => rfl)) | (have s0 : w'.cell? ⟨ac, 0, none⟩ = some (.bool (pt 0 aa true aM)) := (blk_cell b_gb342 0).trans rfl; have s1 : w'.cell? ⟨ac, 1, none⟩ = some (.int .i64 (pt 0 aa (wrap64 (ad + 1)) aR)) := (blk_cell b_gb342 1).trans rfl; have s2 : w'.cell? ⟨ac, 2, none⟩ = some (.int .i64 (pt 0 aa a1 aS)) := (blk_cell b_gb342 2).trans rfl; have s3 : w'.cell? ⟨ac, 3, none⟩ = some (.int .i64 (pt 0 aa a2 aN)) := (blk_cell b_gb342 3).trans rfl; have s4 : w'.cell? ⟨ac, 4, none⟩ = some (.bool (pt 0 aa false aT)) := (blk_cell b_gb342 4).trans rfl; have s5 : w'.cell? ⟨ac, 5, none⟩ = some (.int .i64 (pt 0 aa a3 aU)) := (blk_cell b_gb342 5).trans rfl; have s6 : w'.cell? ⟨ac, 6, none⟩ = some (.bool (pt 1 aa true aO)) := (blk_cell b_gb342 6).trans rfl; have s7 : w'.cell? ⟨ac, 7, none⟩ = some (.int .i64 (pt 1 aa (wrap64 (ad + 1)) aV)) := (blk_cell b_gb342 7).trans rfl; have s8 : w'.cell? ⟨ac, 8, none⟩ = some (.int .i64 (pt 1 aa a1 aW)) := (blk_cell b_gb342 8).trans rfl; have s9 : w'.cell? ⟨ac, 9, none⟩ = some (.int .i64 (pt 1 aa a2 aP)) := (blk_cell b_gb342 9).trans rfl; have s10 : w'.cell? ⟨ac, 10, none⟩ = some (.bool (pt 1 aa false ao)) := (blk_cell b_gb342 10).trans rfl; have s11 : w'.cell? ⟨ac, 11, none⟩ = some (.int .i64 (pt 1 aa a3 ap)) := (blk_cell b_gb342 11).trans rfl; have s12 : w'.cell? ⟨ac, 12, none⟩ = some (.bool (pt 2 aa true ae)) := (blk_cell b_gb342 12).trans rfl; have s13 : w'.cell? ⟨ac, 13, none⟩ = some (.int .i64 (pt 2 aa (wrap64 (ad + 1)) aq)) := (blk_cell b_gb342 13).trans rfl; have s14 : w'.cell? ⟨ac, 14, none⟩ = some (.int .i64 (pt 2 aa a1 ar)) := (blk_cell b_gb342 14).trans rfl; have s15 : w'.cell? ⟨ac, 15, none⟩ = some (.int .i64 (pt 2 aa a2 af)) := (blk_cell b_gb342 15).trans rfl; have s16 : w'.cell? ⟨ac, 16, none⟩ = some (.bool (pt 2 aa false au)) := (blk_cell b_gb342 16).trans rfl; have s17 : w'.cell? ⟨ac, 17, none⟩ = some (.int .i64 (pt 2 aa a3 av)) := (blk_cell b_gb342 17).trans rfl; have s18 : w'.cell? ⟨ac, 18, none⟩ = some (.bool (pt 3 aa true ag)) := (blk_cell b_gb342 18).trans rfl; have s19 : w'.cell? ⟨ac, 19, none⟩ = some (.int .i64 (pt 3 aa (wrap64 (ad + 1)) aw)) := (blk_cell b_gb342 19).trans rfl; have s20 : w'.cell? ⟨ac, 20, none⟩ = some (.int .i64 (pt 3 aa a1 ax)) := (blk_cell b_gb342 20).trans rfl; have s21 : w'.cell? ⟨ac, 21, none⟩ = some (.int .i64 (pt 3 aa a2 ah)) := (blk_cell b_gb342 21).trans rfl; have s22 : w'.cell? ⟨ac, 22, none⟩ = some (.bool (pt 3 aa false ay)) := (blk_cell b_gb342 22).trans rfl; have s23 : w'.cell? ⟨ac, 23, none⟩ = some (.int .i64 (pt 3 aa a3 az)) := (blk_cell b_gb342 23).trans rfl; have s24 : w'.cell? ⟨ac, 24, none⟩ = some (.bool (pt 4 aa true ai)) := (blk_cell b_gb342 24).trans rfl; have s25 : w'.cell? ⟨ac, 25, none⟩ = some (.int .i64 (pt 4 aa (wrap64 (ad + 1)) aA)) := (blk_cell b_gb342 25).trans rfl; have s26 : w'.cell? ⟨ac, 26, none⟩ = some (.int .i64 (pt 4 aa a1 aB)) := (blk_cell b_gb342 26).trans rfl; have s27 : w'.cell? ⟨ac, 27, none⟩ = some (.int .i64 (pt 4 aa a2 aj)) := (blk_cell b_gb342 27).trans rfl; have s28 : w'.cell? ⟨ac, 28, none⟩ = some (.bool (pt 4 aa false aC)) := (blk_cell b_gb342 28).trans rfl; have s29 : w'.cell? ⟨ac, 29, none⟩ = some (.int .i64 (pt 4 aa a3 aD)) := (blk_cell b_gb342 29).trans rfl; have s30 : w'.cell? ⟨ac, 30, none⟩ = some (.bool (pt 5 aa true ak)) := (blk_cell b_gb342 30).trans rfl; have s31 : w'.cell? ⟨ac, 31, none⟩ = some (.int .i64 (pt 5 aa (wrap64 (ad + 1)) aE)) := (blk_cell b_gb342 31).trans rfl; have s32 : w'.cell? ⟨ac, 32, none⟩ = some (.int .i64 (pt 5 aa a1 aF)) := (blk_cell b_gb342 32).trans rfl; have s33 : w'.cell? ⟨ac, 33, none⟩ = some (.int .i64 (pt 5 aa a2 al)) := (blk_cell b_gb342 33).trans rfl; have s34 : w'.cell? ⟨ac, 34, none⟩ = some (.bool (pt 5 aa false aG)) := (blk_cell b_gb342 34).trans rfl; have s35 : w'.cell? ⟨ac, 35, none⟩ = some (.int .i64 (pt 5 aa a3 aH)) := (blk_cell b_gb342 35).trans rfl; have s36 : w'.cell? ⟨ac, 36, none⟩ = some (.bool (pt 6 aa true am)) := (blk_cell b_gb342 36).trans rfl; have s37 : w'.cell? ⟨ac, 37, none⟩ = some (.int .i64 (pt 6 aa (wrap64 (ad + 1)) aI)) := (blk_cell b_gb342 37).trans rfl; have s38 : w'.cell? ⟨ac, 38, none⟩ = some (.int .i64 (pt 6 aa a1 aJ)) := (blk_cell b_gb342 38).trans rfl; have s39 : w'.cell? ⟨ac, 39, none⟩ = some (.int .i64 (pt 6 aa a2 an)) := (blk_cell b_gb342 39).trans rfl; have s40 : w'.cell? ⟨ac, 40, none⟩ = some (.bool (pt 6 aa false aK)) := (blk_cell b_gb342 40).trans rfl; have s41 : w'.cell? ⟨ac, 41, none⟩ = some (.int .i64 (pt 6 aa a3 aL)) := (blk_cell b_gb342 41).trans rfl; have s42 : w'.cell? ⟨ac, 42, none⟩ = some (.int .i64 (wrap64 (ad + 1))) := (blk_cell b_gb342 42).trans rfl; go_simp; with_reducible rfl)
           rotate_left
           ·simp only [Act.put, List.setIfInBounds_toArray, List.set_cons_zero, List.set_cons_succ, i64_w, i32_w]
            rfl
           refine take_ (i := 2) (N := some 69) (v := ?_) (a' := ?_) #[true, true, true, false, false, false] rfl rfl (by kernel_rfl) (fun _ _ _ h => h) (Or.inl ⟨by rfl, ?_⟩) hHeld ?_ ?_
           rotate_left
           ·rintro w' b_gb342
            first | (refine seg_load_run (t := 27) (p := ?p0) (g := ac) (off := 0) (T := 27) (cur := Jt (pt 0 aa true aM) (pt 0 aa (wrap64 (ad + 1)) aR) (pt 0 aa a1 aS) (pt 0 aa a2 aN) (pt 0 aa false aT) (pt 0 aa a3 aU) (pt 1 aa true aO) (pt 1 aa (wrap64 (ad + 1)) aV) (pt 1 aa a1 aW) (pt 1 aa a2 aP) (pt 1 aa false ao) (pt 1 aa a3 ap) (pt 2 aa true ae) (pt 2 aa (wrap64 (ad + 1)) aq) (pt 2 aa a1 ar) (pt 2 aa a2 af) (pt 2 aa false au) (pt 2 aa a3 av) (pt 3 aa true ag) (pt 3 aa (wrap64 (ad + 1)) aw) (pt 3 aa a1 ax) (pt 3 aa a2 ah) (pt 3 aa false ay) (pt 3 aa a3 az) (pt 4 aa true ai) (pt 4 aa (wrap64 (ad + 1)) aA) (pt 4 aa a1 aB) (pt 4 aa a2 aj) (pt 4 aa false aC) (pt 4 aa a3 aD) (pt 5 aa true ak) (pt 5 aa (wrap64 (ad + 1)) aE) (pt 5 aa a1 aF) (pt 5 aa a2 al) (pt 5 aa false aG) (pt 5 aa a3 aH) (pt 6 aa true am) (pt 6 aa (wrap64 (ad + 1)) aI) (pt 6 aa a1 aJ) (pt 6 aa a2 an) (pt 6 aa false aK) (pt 6 aa a3 aL) (wrap64 (ad + 1))) (vs := Vt (pt 0 aa true aM) (pt 0 aa (wrap64 (ad + 1)) aR) (pt 0 aa a1 aS) (pt 0 aa a2 aN) (pt 0 aa false aT) (pt 0 aa a3 aU) (pt 1 aa true aO) (pt 1 aa (wrap64 (ad + 1)) aV) (pt 1 aa a1 aW) (pt 1 aa a2 aP) (pt 1 aa false ao) (pt 1 aa a3 ap) (pt 2 aa true ae) (pt 2 aa (wrap64 (ad + 1)) aq) (pt 2 aa a1 ar) (pt 2 aa a2 af) (pt 2 aa false au) (pt 2 aa a3 av) (pt 3 aa true ag) (pt 3 aa (wrap64 (ad + 1)) aw) (pt 3 aa a1 ax) (pt 3 aa a2 ah) (pt 3 aa false ay) (pt 3 aa a3 az) (pt 4 aa true ai) (pt 4 aa (wrap64 (ad + 1)) aA) (pt 4 aa a1 aB) (pt 4 aa a2 aj) (pt 4 aa false aC) (pt 4 aa a3 aD) (pt 5 aa true ak) (pt 5 aa (wrap64 (ad + 1)) aE) (pt 5 aa a1 aF) (pt 5 aa a2 al) (pt 5 aa false aG) (pt 5 aa a3 aH) (pt 6 aa true am) (pt 6 aa (wrap64 (ad + 1)) aI) (pt 6 aa a1 aJ) (pt 6 aa a2 an) (pt 6 aa false aK) (pt 6 aa a3 aL) (wrap64 (ad + 1))) ?ho ?hp b_gb342 Try.underlying27 ?hd ?hi ?hw; (case ho => rfl); (case hp => rfl); (case hd => rfl); (case hi => kernel_rfl); (case hw => rfl)) | (have s0 : w'.cell? ⟨ac, 0, none⟩ = some (.bool (pt 0 aa true aM)) := (blk_cell b_gb342 0).trans rfl; have s1 : w'.cell? ⟨ac, 1, none⟩ = some (.int .i64 (pt 0 aa (wrap64 (ad + 1)) aR)) := (blk_cell b_gb342 1).trans rfl; have s2 : w'.cell? ⟨ac, 2, none⟩ = some (.int .i64 (pt 0 aa a1 aS)) := (blk_cell b_gb342 2).trans rfl; have s3 : w'.cell? ⟨ac, 3, none⟩ = some (.int .i64 (pt 0 aa a2 aN)) := (blk_cell b_gb342 3).trans rfl; have s4 : w'.cell? ⟨ac, 4, none⟩ = some (.bool (pt 0 aa false aT)) := (blk_cell b_gb342 4).trans rfl; have s5 : w'.cell? ⟨ac, 5, none⟩ = some (.int .i64 (pt 0 aa a3 aU)) := (blk_cell b_gb342 5).trans rfl; have s6 : w'.cell? ⟨ac, 6, none⟩ = some (.bool (pt 1 aa true aO)) := (blk_cell b_gb342 6).trans rfl; have s7 : w'.cell? ⟨ac, 7, none⟩ = some (.int .i64 (pt 1 aa (wrap64 (ad + 1)) aV)) := (blk_cell b_gb342 7).trans rfl; have s8 : w'.cell? ⟨ac, 8, none⟩ = some (.int .i64 (pt 1 aa a1 aW)) := (blk_cell b_gb342 8).trans rfl; have s9 : w'.cell? ⟨ac, 9, none⟩ = some (.int .i64 (pt 1 aa a2 aP)) := (blk_cell b_gb342 9).trans rfl; have s10 : w'.cell? ⟨ac, 10, none⟩ = some (.bool (pt 1 aa false ao)) := (blk_cell b_gb342 10).trans rfl; have s11 : w'.cell? ⟨ac, 11, none⟩ = some (.int .i64 (pt 1 aa a3 ap)) := (blk_cell b_gb342 11).trans rfl; have s12 : w'.cell? ⟨ac, 12, none⟩ = some (.bool (pt 2 aa true ae)) := (blk_cell b_gb342 12).trans rfl; have s13 : w'.cell? ⟨ac, 13, none⟩ = some (.int .i64 (pt 2 aa (wrap64 (ad + 1)) aq)) := (blk_cell b_gb342 13).trans rfl; have s14 : w'.cell? ⟨ac, 14, none⟩ = some (.int .i64 (pt 2 aa a1 ar)) := (blk_cell b_gb342 14).trans rfl; have s15 : w'.cell? ⟨ac, 15, none⟩ = some (.int .i64 (pt 2 aa a2 af)) := (blk_cell b_gb342 15).trans rfl; have s16 : w'.cell? ⟨ac, 16, none⟩ = some (.bool (pt 2 aa false au)) := (blk_cell b_gb342 16).trans rfl; have s17 : w'.cell? ⟨ac, 17, none⟩ = some (.int .i64 (pt 2 aa a3 av)) := (blk_cell b_gb342 17).trans rfl; have s18 : w'.cell? ⟨ac, 18, none⟩ = some (.bool (pt 3 aa true ag)) := (blk_cell b_gb342 18).trans rfl; have s19 : w'.cell? ⟨ac, 19, none⟩ = some (.int .i64 (pt 3 aa (wrap64 (ad + 1)) aw)) := (blk_cell b_gb342 19).trans rfl; have s20 : w'.cell? ⟨ac, 20, none⟩ = some (.int .i64 (pt 3 aa a1 ax)) := (blk_cell b_gb342 20).trans rfl; have s21 : w'.cell? ⟨ac, 21, none⟩ = some (.int .i64 (pt 3 aa a2 ah)) := (blk_cell b_gb342 21).trans rfl; have s22 : w'.cell? ⟨ac, 22, none⟩ = some (.bool (pt 3 aa false ay)) := (blk_cell b_gb342 22).trans rfl; have s23 : w'.cell? ⟨ac, 23, none⟩ = some (.int .i64 (pt 3 aa a3 az)) := (blk_cell b_gb342 23).trans rfl; have s24 : w'.cell? ⟨ac, 24, none⟩ = some (.bool (pt 4 aa true ai)) := (blk_cell b_gb342 24).trans rfl; have s25 : w'.cell? ⟨ac, 25, none⟩ = some (.int .i64 (pt 4 aa (wrap64 (ad + 1)) aA)) := (blk_cell b_gb342 25).trans rfl; have s26 : w'.cell? ⟨ac, 26, none⟩ = some (.int .i64 (pt 4 aa a1 aB)) := (blk_cell b_gb342 26).trans rfl; have s27 : w'.cell? ⟨ac, 27, none⟩ = some (.int .i64 (pt 4 aa a2 aj)) := (blk_cell b_gb342 27).trans rfl; have s28 : w'.cell? ⟨ac, 28, none⟩ = some (.bool (pt 4 aa false aC)) := (blk_cell b_gb342 28).trans rfl; have s29 : w'.cell? ⟨ac, 29, none⟩ = some (.int .i64 (pt 4 aa a3 aD)) := (blk_cell b_gb342 29).trans rfl; have s30 : w'.cell? ⟨ac, 30, none⟩ = some (.bool (pt 5 aa true ak)) := (blk_cell b_gb342 30).trans rfl; have s31 : w'.cell? ⟨ac, 31, none⟩ = some (.int .i64 (pt 5 aa (wrap64 (ad + 1)) aE)) := (blk_cell b_gb342 31).trans rfl; have s32 : w'.cell? ⟨ac, 32, none⟩ = some (.int .i64 (pt 5 aa a1 aF)) := (blk_cell b_gb342 32).trans rfl; have s33 : w'.cell? ⟨ac, 33, none⟩ = some (.int .i64 (pt 5 aa a2 al)) := (blk_cell b_gb342 33).trans rfl; have s34 : w'.cell? ⟨ac, 34, none⟩ = some (.bool (pt 5 aa false aG)) := (blk_cell b_gb342 34).trans rfl; have s35 : w'.cell? ⟨ac, 35, none⟩ = some (.int .i64 (pt 5 aa a3 aH)) := (blk_cell b_gb342 35).trans rfl; have s36 : w'.cell? ⟨ac, 36, none⟩ = some (.bool (pt 6 aa true am)) := (blk_cell b_gb342 36).trans rfl; have s37 : w'.cell? ⟨ac, 37, none⟩ = some (.int .i64 (pt 6 aa (wrap64 (ad + 1)) aI)) := (blk_cell b_gb342 37).trans rfl; have s38 : w'.cell? ⟨ac, 38, none⟩ = some (.int .i64 (pt 6 aa a1 aJ)) := (blk_cell b_gb342 38).trans rfl; have s39 : w'.cell? ⟨ac, 39, none⟩ = some (.int .i64 (pt 6 aa a2 an)) := (blk_cell b_gb342 39).trans rfl; have s40 : w'.cell? ⟨ac, 40, none⟩ = some (.bool (pt 6 aa false aK)) := (blk_cell b_gb342 40).trans rfl; have s41 : w'.cell? ⟨ac, 41, none⟩ = some (.int .i64 (pt 6 aa a3 aL)) := (blk_cell b_gb342 41).trans rfl; have s42 : w'.cell? ⟨ac, 42, none⟩ = some (.int .i64 (wrap64 (ad + 1))) := (blk_cell b_gb342 42).trans rfl; go_simp; with_reducible rfl)
           rotate_left
           ·simp only [Act.put, List.setIfInBounds_toArray, List.set_cons_zero, List.set_cons_succ, i64_w, i32_w]
            rfl
           refine one_ (i := 3) (N := none) #[true, true, true, true, false, false] rfl rfl (by kernel_rfl) (by decide) (fun K hK => ?_)
           refine seg_skip (t := 27) (p := 8) (g := bU) (off := 0) (T := 27) (cur := Jt bc bd be bf bg bh bi bj bk bl bm bn bo bp bq br bs bt bu bv bw bx bz bA bB bC bD bE bF bG bH bI bJ bK bL bM bN bO bP bQ bR bS bT) (vs := Vt (pt 0 aa true aM) (pt 0 aa (wrap64 (ad + 1)) aR) (pt 0 aa a1 aS) (pt 0 aa a2 aN) (pt 0 aa false aT) (pt 0 aa a3 aU) (pt 1 aa true aO) (pt 1 aa (wrap64 (ad + 1)) aV) (pt 1 aa a1 aW) (pt 1 aa a2 aP) (pt 1 aa false ao) (pt 1 aa a3 ap) (pt 2 aa true ae) (pt 2 aa (wrap64 (ad + 1)) aq) (pt 2 aa a1 ar) (pt 2 aa a2 af) (pt 2 aa false au) (pt 2 aa a3 av) (pt 3 aa true ag) (pt 3 aa (wrap64 (ad + 1)) aw) (pt 3 aa a1 ax) (pt 3 aa a2 ah) (pt 3 aa false ay) (pt 3 aa a3 az) (pt 4 aa true ai) (pt 4 aa (wrap64 (ad + 1)) aA) (pt 4 aa a1 aB) (pt 4 aa a2 aj) (pt 4 aa false aC) (pt 4 aa a3 aD) (pt 5 aa true ak) (pt 5 aa (wrap64 (ad + 1)) aE) (pt 5 aa a1 aF) (pt 5 aa a2 al) (pt 5 aa false aG) (pt 5 aa a3 aH) (pt 6 aa true am) (pt 6 aa (wrap64 (ad + 1)) aI) (pt 6 aa a1 aJ) (pt 6 aa a2 an) (pt 6 aa false aK) (pt 6 aa a3 aL) (wrap64 (ad + 1))) (new := Jt (pt 0 aa true aM) (pt 0 aa (wrap64 (ad + 1)) aR) (pt 0 aa a1 aS) (pt 0 aa a2 aN) (pt 0 aa false aT) (pt 0 aa a3 aU) (pt 1 aa true aO) (pt 1 aa (wrap64 (ad + 1)) aV) (pt 1 aa a1 aW) (pt 1 aa a2 aP) (pt 1 aa false ao) (pt 1 aa a3 ap) (pt 2 aa true ae) (pt 2 aa (wrap64 (ad + 1)) aq) (pt 2 aa a1 ar) (pt 2 aa a2 af) (pt 2 aa false au) (pt 2 aa a3 av) (pt 3 aa true ag) (pt 3 aa (wrap64 (ad + 1)) aw) (pt 3 aa a1 ax) (pt 3 aa a2 ah) (pt 3 aa false ay) (pt 3 aa a3 az) (pt 4 aa true ai) (pt 4 aa (wrap64 (ad + 1)) aA) (pt 4 aa a1 aB) (pt 4 aa a2 aj) (pt 4 aa false aC) (pt 4 aa a3 aD) (pt 5 aa true ak) (pt 5 aa (wrap64 (ad + 1)) aE) (pt 5 aa a1 aF) (pt 5 aa a2 al) (pt 5 aa false aG) (pt 5 aa a3 aH) (pt 6 aa true am) (pt 6 aa (wrap64 (ad + 1)) aI) (pt 6 aa a1 aJ) (pt 6 aa a2 an) (pt 6 aa false aK) (pt 6 aa a3 aL) (wrap64 (ad + 1))) (by rfl) rfl rfl rfl rfl aX.out (by kernel_rfl) (Nat.le_of_ble_eq_true rfl) rfl rfl (fun wz0_ hbox hg hbl => ?_)
           replace ab := zbG ab hg bW
           replace aX := Aside0.mk hbox
           replace HB := zhL hbl HB aZ
           clear hbox hg hbl
           have hbs0_ := ab.out
           refine hK.out _ _ hbs0_ (fun hHeld => ?_)
           clear hK K
           refine pure_ (i := 4) (N := some 9) (v := ?_) (a' := ?_) #[true, true, true, true, true, false] rfl rfl (by kernel_rfl) (fun _ _ _ h => h) (Or.inl ⟨by rfl, ?_⟩) ?_ ?_
           rotate_left
           ·intro w'
            go_simp
            with_reducible rfl
           rotate_left
           ·simp only [Act.put, List.setIfInBounds_toArray, List.set_cons_zero, List.set_cons_succ, i64_w, i32_w]
            rfl
           refine pure_ (i := 5) (N := some 10) (v := ?_) (a' := ?_) #[true, true, true, true, true, true] rfl rfl (by kernel_rfl) (fun _ _ _ h => h) (Or.inl ⟨by rfl, ?_⟩) ?_ ?_
           rotate_left
           ·intro w'
            go_simp
            with_reducible rfl
           rotate_left
           ·simp only [Act.put, List.setIfInBounds_toArray, List.set_cons_zero, List.set_cons_succ, i64_w, i32_w]
            rfl
           refine done_ (by kernel_rfl) ?_
           have n0_ := ab
           have n1_ := aX
           have n2_ := HB
           (try clear ab)
           (try clear aX)
           (try clear HB)
           generalize wz0_ = w82 at n0_ n1_ n2_ ⊢
           have ab := n0_
           have aX := n1_
           have HB := n2_
           clear n0_ n1_ n2_
           try go_wp2
           refine bodyPost_ret (results_ctt rfl _ _ bU 27 #[.bool (pt 0 aa true aM), .int .i64 (pt 0 aa (wrap64 (ad + 1)) aR), .int .i64 (pt 0 aa a1 aS), .int .i64 (pt 0 aa a2 aN), .bool (pt 0 aa false aT), .int .i64 (pt 0 aa a3 aU), .bool (pt 1 aa true aO), .int .i64 (pt 1 aa (wrap64 (ad + 1)) aV), .int .i64 (pt 1 aa a1 aW), .int .i64 (pt 1 aa a2 aP), .bool (pt 1 aa false ao), .int .i64 (pt 1 aa a3 ap), .bool (pt 2 aa true ae), .int .i64 (pt 2 aa (wrap64 (ad + 1)) aq), .int .i64 (pt 2 aa a1 ar), .int .i64 (pt 2 aa a2 af), .bool (pt 2 aa false au), .int .i64 (pt 2 aa a3 av), .bool (pt 3 aa true ag), .int .i64 (pt 3 aa (wrap64 (ad + 1)) aw), .int .i64 (pt 3 aa a1 ax), .int .i64 (pt 3 aa a2 ah), .bool (pt 3 aa false ay), .int .i64 (pt 3 aa a3 az), .bool (pt 4 aa true ai), .int .i64 (pt 4 aa (wrap64 (ad + 1)) aA), .int .i64 (pt 4 aa a1 aB), .int .i64 (pt 4 aa a2 aj), .bool (pt 4 aa false aC), .int .i64 (pt 4 aa a3 aD), .bool (pt 5 aa true ak), .int .i64 (pt 5 aa (wrap64 (ad + 1)) aE), .int .i64 (pt 5 aa a1 aF), .int .i64 (pt 5 aa a2 al), .bool (pt 5 aa false aG), .int .i64 (pt 5 aa a3 aH), .bool (pt 6 aa true am), .int .i64 (pt 6 aa (wrap64 (ad + 1)) aI), .int .i64 (pt 6 aa a1 aJ), .int .i64 (pt 6 aa a2 an), .bool (pt 6 aa false aK), .int .i64 (pt 6 aa a3 aL), .int .i64 (wrap64 (ad + 1))] (0, 0) _ rfl (zbo aX) Try.underlying27 rfl (by kernel_rfl)) rfl ?_
           exact ⟨by first | rfl | (simp [errW_none, errW_some] <;> rfl) | (simp [*, errW_none, errW_some] <;> rfl), zho HB⟩
          ·rw [if_neg c31] at H
           exact absurd H (by simp)
         ·rw [if_neg c30] at H
          exact absurd H (by simp)

end Go.Proofs.Ytjenkcgjpdappaa.P
