-- Printed by a session's own program (wip/turnprint.py, wip/myprint.sh) over the translation's print. -- slim -- short
import Derived.Test.YtjenkcgjpdappaaPx0
import Derived.Test.YtjenkcgjpdappaaPx11
namespace Go.Proofs.Ytjenkcgjpdappaa.P
open Go.RowKit Go.Proofs.YtjenkcgjpdappaaW.PrintWords Go.Proofs.YtjenkcgjpdappaaW.PrintLast Go.Proofs.YtjenkcgjpdappaaW.PrintMore
attribute [local go_sem] max2_int min2_int max_two min_two max_three min_three max_four min_four   -- for this text's walks alone
set_option linter.unusedVariables false
set_option linter.unusedSimpArgs false

/-! ### periluneref23_Ready: function 20 -/
mutual
def periluneref23_Ready.l0 : Nat → Int → Bool → Int → Int → Int → Bool → Int → Bool → Int → Int → Int → Bool → Int → Bool → Int → Int → Int → Bool → Int → Bool → Int → Int → Int → Bool → Int → Bool → Int → Int → Int → Bool → Int → Bool → Int → Int → Int → Bool → Int → Bool → Int → Int → Int → Bool → Int → Int → Option (Int × Bool)
 | 0, _, _, _, _, _, _, _, _, _, _, _, _, _, _, _, _, _, _, _, _, _, _, _, _, _, _, _, _, _, _, _, _, _, _, _, _, _, _, _, _, _, _, _, _ => none
 | k + 1, x4, aX, aY, aZ, bB, ba, bC, bb, bc, bd, bD, be, bE, bf, bg, bh, bF, bi, bG, bj, bk, bl, bH, bm, bI, bn, bo, bp, bJ, bq, bK, br, bs, bt, bL, bu, bM, bv, bw, bx, bN, bz, bO, bP => if x4 ≥ 1 then (periluneref23_Ready.l1 k x4 0 aX aY aZ bB ba bC bb bc bd bD be bE bf bg bh bF bi bG bj bk bl bH bm bI bn bo bp bJ bq bK br bs bt bL bu bM bv bw bx bN bz bO bP) else (some (0, false))
def periluneref23_Ready.l1 : Nat → Int → Int → Bool → Int → Int → Int → Bool → Int → Bool → Int → Int → Int → Bool → Int → Bool → Int → Int → Int → Bool → Int → Bool → Int → Int → Int → Bool → Int → Bool → Int → Int → Int → Bool → Int → Bool → Int → Int → Int → Bool → Int → Bool → Int → Int → Int → Bool → Int → Int → Option (Int × Bool)
 | 0, _, _, _, _, _, _, _, _, _, _, _, _, _, _, _, _, _, _, _, _, _, _, _, _, _, _, _, _, _, _, _, _, _, _, _, _, _, _, _, _, _, _, _, _, _ => none
 | k + 1, x4, x5, aX, aY, aZ, bB, ba, bC, bb, bc, bd, bD, be, bE, bf, bg, bh, bF, bi, bG, bj, bk, bl, bH, bm, bI, bn, bo, bp, bJ, bq, bK, br, bs, bt, bL, bu, bM, bv, bw, bx, bN, bz, bO, bP => if x5 < 7 then (if 0 ≤ x5 then (if pk7 aX bb bf bj bn br bv x5 = true then (if pk7 ba be bi bm bq bu bz x5 = true then (periluneref23_Ready.l1 k x4 (wrap64 (x5 + 1)) aX aY aZ bB ba bC bb bc bd bD be bE bf bg bh bF bi bG bj bk bl bH bm bI bn bo bp bJ bq bK br bs bt bL bu bM bv bw bx bN bz bO bP) else (if (pk7 aZ bd bh bl bp bt bx x5) = x4 then (some (pk7 aY bc bg bk bo bs bw x5, true)) else (periluneref23_Ready.l1 k x4 (wrap64 (x5 + 1)) aX aY aZ bB ba bC bb bc bd bD be bE bf bg bh bF bi bG bj bk bl bH bm bI bn bo bp bJ bq bK br bs bt bL bu bM bv bw bx bN bz bO bP))) else (periluneref23_Ready.l1 k x4 (wrap64 (x5 + 1)) aX aY aZ bB ba bC bb bc bd bD be bE bf bg bh bF bi bG bj bk bl bH bm bI bn bo bp bJ bq bK br bs bt bL bu bM bv bw bx bN bz bO bP)) else (none)) else (periluneref23_Ready.l0 k (wrap64 (x4 - 1)) aX aY aZ bB ba bC bb bc bd bD be bE bf bg bh bF bi bG bj bk bl bH bm bI bn bo bp bJ bq bK br bs bt bL bu bM bv bw bx bN bz bO bP)
end
def periluneref23_Ready.f (k : Nat) (az : Bool) (aR : Int) (aA : Int) (aT : Int) (aP : Bool) (aU : Int) (aB : Bool) (aS : Int) (aC : Int) (aV : Int) (al : Bool) (aD : Int) (ab : Bool) (au : Int) (ac : Int) (aE : Int) (am : Bool) (aF : Int) (ad : Bool) (av : Int) (ae : Int) (aG : Int) (an : Bool) (aH : Int) (af : Bool) (aw : Int) (ag : Int) (aI : Int) (ao : Bool) (aJ : Int) (ah : Bool) (ax : Int) (ai : Int) (aK : Int) (ap : Bool) (aL : Int) (aj : Bool) (ay : Int) (ak : Int) (aM : Int) (aq : Bool) (aN : Int) (aO : Int) : Option (Int × Bool) := (periluneref23_Valid.f k az aR aA aT aP aU aB aS aC aV al aD ab au ac aE am aF ad av ae aG an aH af aw ag aI ao aJ ah ax ai aK ap aL aj ay ak aM aq aN aO).bind fun bQ => (if bQ = true then (periluneref23_Ready.l0 k 63 az aR aA aT aP aU aB aS aC aV al aD ab au ac aE am aF ad av ae aG an aH af aw ag aI ao aJ ah ax ai aK ap aL aj ay ak aM aq aN aO) else (some (0, false)))
theorem periluneref23_Ready.mono_l : ∀ k, (∀ y0 y1 y2 y3 y4 y5 y6 y7 y8 y9 y10 y11 y12 y13 y14 y15 y16 y17 y18 y19 y20 y21 y22 y23 y24 y25 y26 y27 y28 y29 y30 y31 y32 y33 y34 y35 y36 y37 y38 y39 y40 y41 y42 y43, LeO (periluneref23_Ready.l0 k y0 y1 y2 y3 y4 y5 y6 y7 y8 y9 y10 y11 y12 y13 y14 y15 y16 y17 y18 y19 y20 y21 y22 y23 y24 y25 y26 y27 y28 y29 y30 y31 y32 y33 y34 y35 y36 y37 y38 y39 y40 y41 y42 y43) (periluneref23_Ready.l0 (k + 1) y0 y1 y2 y3 y4 y5 y6 y7 y8 y9 y10 y11 y12 y13 y14 y15 y16 y17 y18 y19 y20 y21 y22 y23 y24 y25 y26 y27 y28 y29 y30 y31 y32 y33 y34 y35 y36 y37 y38 y39 y40 y41 y42 y43)) ∧ (∀ y0 y1 y2 y3 y4 y5 y6 y7 y8 y9 y10 y11 y12 y13 y14 y15 y16 y17 y18 y19 y20 y21 y22 y23 y24 y25 y26 y27 y28 y29 y30 y31 y32 y33 y34 y35 y36 y37 y38 y39 y40 y41 y42 y43 y44, LeO (periluneref23_Ready.l1 k y0 y1 y2 y3 y4 y5 y6 y7 y8 y9 y10 y11 y12 y13 y14 y15 y16 y17 y18 y19 y20 y21 y22 y23 y24 y25 y26 y27 y28 y29 y30 y31 y32 y33 y34 y35 y36 y37 y38 y39 y40 y41 y42 y43 y44) (periluneref23_Ready.l1 (k + 1) y0 y1 y2 y3 y4 y5 y6 y7 y8 y9 y10 y11 y12 y13 y14 y15 y16 y17 y18 y19 y20 y21 y22 y23 y24 y25 y26 y27 y28 y29 y30 y31 y32 y33 y34 y35 y36 y37 y38 y39 y40 y41 y42 y43 y44))
 | 0 => ⟨fun _ _ _ _ _ _ _ _ _ _ _ _ _ _ _ _ _ _ _ _ _ _ _ _ _ _ _ _ _ _ _ _ _ _ _ _ _ _ _ _ _ _ _ _ r h => by simp [periluneref23_Ready.l0] at h, fun _ _ _ _ _ _ _ _ _ _ _ _ _ _ _ _ _ _ _ _ _ _ _ _ _ _ _ _ _ _ _ _ _ _ _ _ _ _ _ _ _ _ _ _ _ r h => by simp [periluneref23_Ready.l1] at h⟩
 | k + 1 => by
  obtain ⟨ih0, ih1⟩ := periluneref23_Ready.mono_l k
  refine ⟨?_, ?_⟩
  ·intro y0 y1 y2 y3 y4 y5 y6 y7 y8 y9 y10 y11 y12 y13 y14 y15 y16 y17 y18 y19 y20 y21 y22 y23 y24 y25 y26 y27 y28 y29 y30 y31 y32 y33 y34 y35 y36 y37 y38 y39 y40 y41 y42 y43
   unfold periluneref23_Ready.l0
   repeat' first
   | (with_reducible exact ih0 _ _ _ _ _ _ _ _ _ _ _ _ _ _ _ _ _ _ _ _ _ _ _ _ _ _ _ _ _ _ _ _ _ _ _ _ _ _ _ _ _ _ _ _)
   | (with_reducible exact ih1 _ _ _ _ _ _ _ _ _ _ _ _ _ _ _ _ _ _ _ _ _ _ _ _ _ _ _ _ _ _ _ _ _ _ _ _ _ _ _ _ _ _ _ _ _)
   | (with_reducible exact periluneref23_Valid.mono _ _ _ _ _ _ _ _ _ _ _ _ _ _ _ _ _ _ _ _ _ _ _ _ _ _ _ _ _ _ _ _ _ _ _ _ _ _ _ _ _ _ _ _)
   | (with_reducible exact LeO.refl _)
   | (with_reducible exact LeO.none _)
   | (with_reducible refine LeO.ite ?_ ?_)
   | (with_reducible refine LeO.bind ?_ (fun _ => ?_))
   | exact ih0 _ _ _ _ _ _ _ _ _ _ _ _ _ _ _ _ _ _ _ _ _ _ _ _ _ _ _ _ _ _ _ _ _ _ _ _ _ _ _ _ _ _ _ _
   | exact ih1 _ _ _ _ _ _ _ _ _ _ _ _ _ _ _ _ _ _ _ _ _ _ _ _ _ _ _ _ _ _ _ _ _ _ _ _ _ _ _ _ _ _ _ _ _
   | exact periluneref23_Valid.mono _ _ _ _ _ _ _ _ _ _ _ _ _ _ _ _ _ _ _ _ _ _ _ _ _ _ _ _ _ _ _ _ _ _ _ _ _ _ _ _ _ _ _ _
   | exact LeO.none _
   | refine LeO.ite ?_ ?_
   | refine LeO.bind ?_ (fun _ => ?_)
  ·intro y0 y1 y2 y3 y4 y5 y6 y7 y8 y9 y10 y11 y12 y13 y14 y15 y16 y17 y18 y19 y20 y21 y22 y23 y24 y25 y26 y27 y28 y29 y30 y31 y32 y33 y34 y35 y36 y37 y38 y39 y40 y41 y42 y43 y44
   unfold periluneref23_Ready.l1
   repeat' first
   | (with_reducible exact ih0 _ _ _ _ _ _ _ _ _ _ _ _ _ _ _ _ _ _ _ _ _ _ _ _ _ _ _ _ _ _ _ _ _ _ _ _ _ _ _ _ _ _ _ _)
   | (with_reducible exact ih1 _ _ _ _ _ _ _ _ _ _ _ _ _ _ _ _ _ _ _ _ _ _ _ _ _ _ _ _ _ _ _ _ _ _ _ _ _ _ _ _ _ _ _ _ _)
   | (with_reducible exact periluneref23_Valid.mono _ _ _ _ _ _ _ _ _ _ _ _ _ _ _ _ _ _ _ _ _ _ _ _ _ _ _ _ _ _ _ _ _ _ _ _ _ _ _ _ _ _ _ _)
   | (with_reducible exact LeO.refl _)
   | (with_reducible exact LeO.none _)
   | (with_reducible refine LeO.ite ?_ ?_)
   | (with_reducible refine LeO.bind ?_ (fun _ => ?_))
   | exact ih0 _ _ _ _ _ _ _ _ _ _ _ _ _ _ _ _ _ _ _ _ _ _ _ _ _ _ _ _ _ _ _ _ _ _ _ _ _ _ _ _ _ _ _ _
   | exact ih1 _ _ _ _ _ _ _ _ _ _ _ _ _ _ _ _ _ _ _ _ _ _ _ _ _ _ _ _ _ _ _ _ _ _ _ _ _ _ _ _ _ _ _ _ _
   | exact periluneref23_Valid.mono _ _ _ _ _ _ _ _ _ _ _ _ _ _ _ _ _ _ _ _ _ _ _ _ _ _ _ _ _ _ _ _ _ _ _ _ _ _ _ _ _ _ _ _
   | exact LeO.none _
   | refine LeO.ite ?_ ?_
   | refine LeO.bind ?_ (fun _ => ?_)
theorem periluneref23_Ready.mono : ∀ a0 a1 a2 a3 a4 a5 a6 a7 a8 a9 a10 a11 a12 a13 a14 a15 a16 a17 a18 a19 a20 a21 a22 a23 a24 a25 a26 a27 a28 a29 a30 a31 a32 a33 a34 a35 a36 a37 a38 a39 a40 a41 a42 k, LeO (periluneref23_Ready.f k a0 a1 a2 a3 a4 a5 a6 a7 a8 a9 a10 a11 a12 a13 a14 a15 a16 a17 a18 a19 a20 a21 a22 a23 a24 a25 a26 a27 a28 a29 a30 a31 a32 a33 a34 a35 a36 a37 a38 a39 a40 a41 a42) (periluneref23_Ready.f (k + 1) a0 a1 a2 a3 a4 a5 a6 a7 a8 a9 a10 a11 a12 a13 a14 a15 a16 a17 a18 a19 a20 a21 a22 a23 a24 a25 a26 a27 a28 a29 a30 a31 a32 a33 a34 a35 a36 a37 a38 a39 a40 a41 a42) := by
 intro a0 a1 a2 a3 a4 a5 a6 a7 a8 a9 a10 a11 a12 a13 a14 a15 a16 a17 a18 a19 a20 a21 a22 a23 a24 a25 a26 a27 a28 a29 a30 a31 a32 a33 a34 a35 a36 a37 a38 a39 a40 a41 a42 k
 obtain ⟨ih0, ih1⟩ := periluneref23_Ready.mono_l k
 unfold periluneref23_Ready.f
 repeat' first
   | (with_reducible exact ih0 _ _ _ _ _ _ _ _ _ _ _ _ _ _ _ _ _ _ _ _ _ _ _ _ _ _ _ _ _ _ _ _ _ _ _ _ _ _ _ _ _ _ _ _)
   | (with_reducible exact ih1 _ _ _ _ _ _ _ _ _ _ _ _ _ _ _ _ _ _ _ _ _ _ _ _ _ _ _ _ _ _ _ _ _ _ _ _ _ _ _ _ _ _ _ _ _)
   | (with_reducible exact periluneref23_Valid.mono _ _ _ _ _ _ _ _ _ _ _ _ _ _ _ _ _ _ _ _ _ _ _ _ _ _ _ _ _ _ _ _ _ _ _ _ _ _ _ _ _ _ _ _)
   | (with_reducible exact LeO.refl _)
   | (with_reducible exact LeO.none _)
   | (with_reducible refine LeO.ite ?_ ?_)
   | (with_reducible refine LeO.bind ?_ (fun _ => ?_))
   | exact ih0 _ _ _ _ _ _ _ _ _ _ _ _ _ _ _ _ _ _ _ _ _ _ _ _ _ _ _ _ _ _ _ _ _ _ _ _ _ _ _ _ _ _ _ _
   | exact ih1 _ _ _ _ _ _ _ _ _ _ _ _ _ _ _ _ _ _ _ _ _ _ _ _ _ _ _ _ _ _ _ _ _ _ _ _ _ _ _ _ _ _ _ _ _
   | exact periluneref23_Valid.mono _ _ _ _ _ _ _ _ _ _ _ _ _ _ _ _ _ _ _ _ _ _ _ _ _ _ _ _ _ _ _ _ _ _ _ _ _ _ _ _ _ _ _ _
   | exact LeO.none _
   | refine LeO.ite ?_ ?_
   | refine LeO.bind ?_ (fun _ => ?_)
set_option maxHeartbeats 8000000 in
set_option maxRecDepth 100000 in
theorem periluneref23_Ready.calls (k : Nat) (az : Bool) (aR : Int) (aA : Int) (aT : Int) (aP : Bool) (aU : Int) (aB : Bool) (aS : Int) (aC : Int) (aV : Int) (al : Bool) (aD : Int) (ab : Bool) (au : Int) (ac : Int) (aE : Int) (am : Bool) (aF : Int) (ad : Bool) (av : Int) (ae : Int) (aG : Int) (an : Bool) (aH : Int) (af : Bool) (aw : Int) (ag : Int) (aI : Int) (ao : Bool) (aJ : Int) (ah : Bool) (ax : Int) (ai : Int) (aK : Int) (ap : Bool) (aL : Int) (aj : Bool) (ay : Int) (ak : Int) (aM : Int) (aq : Bool) (aN : Int) (aO : Int) (r1 : Int) (r2 : Bool) (w : World) (h : periluneref23_Ready.f k az aR aA aT aP aU aB aS aC aV al aD ab au ac aE am aF ad av ae aG an aH af aw ag aI ao aJ ah ax ai aK ap aL aj ay ak aM aq aN aO = some (r1, r2)) :
  Calls Try.prog 20 #[.agg #[.bool az, .int .i64 aR, .int .i64 aA, .int .i64 aT, .bool aP, .int .i64 aU, .bool aB, .int .i64 aS, .int .i64 aC, .int .i64 aV, .bool al, .int .i64 aD, .bool ab, .int .i64 au, .int .i64 ac, .int .i64 aE, .bool am, .int .i64 aF, .bool ad, .int .i64 av, .int .i64 ae, .int .i64 aG, .bool an, .int .i64 aH, .bool af, .int .i64 aw, .int .i64 ag, .int .i64 aI, .bool ao, .int .i64 aJ, .bool ah, .int .i64 ax, .int .i64 ai, .int .i64 aK, .bool ap, .int .i64 aL, .bool aj, .int .i64 ay, .int .i64 ak, .int .i64 aM, .bool aq, .int .i64 aN, .int .i64 aO]] w fun e w' => e = .returned (.tuple #[.int .i64 r1, .bool r2]) ∧ Below w.heap.size w w' := by
 have hu27 := Try.underlying27
 have hu25 := Try.underlying25
 have HB := Aside0.mk (Below.refl w.heap.size w)
 have H : ((periluneref23_Valid.f k az aR aA aT aP aU aB aS aC aV al aD ab au ac aE am aF ad av ae aG an aH af aw ag aI ao aJ ah ax ai aK ap aL aj ay ak aM aq aN aO).bind fun bQ => (if bQ = true then (periluneref23_Ready.l0 k 63 az aR aA aT aP aU aB aS aC aV al aD ab au ac aE am aF ad av ae aG an aH af aw ag aI ao aJ ah ax ai aK ap aL aj ay ak aM aq aN aO) else (some (0, false)))) = some (r1, r2) := h
 clear h
 replace H := Option.bind_eq_some_iff.mp H
 obtain ⟨bQ, A20, H⟩ := H
 replace H : (if bQ = true then (periluneref23_Ready.l0 k 63 az aR aA aT aP aU aB aS aC aV al aD ab au ac aE am aF ad av ae aG an aH af aw ag aI ao aJ ah ax ai aK ap aL aj ay ak aM aq aN aO) else (some (0, false))) = some (r1, r2) := H
 have A2 := Aside0.mk A20
 clear A20
 by_cases c3 : bQ = true
 ·subst c3
  have H1 : (periluneref23_Ready.l0 k 63 az aR aA aT aP aU aB aS aC aV al aD ab au ac aE am aF ad av ae aG an aH af aw ag aI ao aJ ah ax ai aK ap aL aj ay ak aM aq aN aO) = some (r1, r2) := by rw [if_pos rfl] at H; exact H
  clear H
  have H := H1
  clear H1
  have H' := Aside0.mk H
  clear H
  go_enter Try.func20, Try.ntmps20
  go_wp2_with (first | ((with_reducible refine gate_dst (N := 1) rfl ?_); refine box_event ?hg (N := 1) ?hd (cs := #[.bool az, .int .i64 aR, .int .i64 aA, .int .i64 aT, .bool aP, .int .i64 aU, .bool aB, .int .i64 aS, .int .i64 aC, .int .i64 aV, .bool al, .int .i64 aD, .bool ab, .int .i64 au, .int .i64 ac, .int .i64 aE, .bool am, .int .i64 aF, .bool ad, .int .i64 av, .int .i64 ae, .int .i64 aG, .bool an, .int .i64 aH, .bool af, .int .i64 aw, .int .i64 ag, .int .i64 aI, .bool ao, .int .i64 aJ, .bool ah, .int .i64 ax, .int .i64 ai, .int .i64 aK, .bool ap, .int .i64 aL, .bool aj, .int .i64 ay, .int .i64 ak, .int .i64 aM, .bool aq, .int .i64 aN, .int .i64 aO]) (t := 27) ?hr ?_; (case hd => rfl); (case hg => rfl); (case hr => first | (go_simp; done) | (go_simp; rfl)); intro aQ hg w4 hbox hb; have n0_ := Aside0.mk (below_step (by repeat (first | (with_reducible first | exact HB.out | apply below_alloc | apply pw_below_drewN | apply below_drew1) | exact HB.out)) hb); have n1_ := Aside0.mk (hbox); have n2_ := Aside0.mk ((by rw [hg]; exact (below_size (by repeat (first | (with_reducible first | exact HB.out | apply below_alloc | apply pw_below_drewN | apply below_drew1) | exact HB.out))) : w.heap.size ≤ aQ)); have n3_ := Aside0.mk ((by rw [hg]; exact (below_size (by repeat (first | (with_reducible first | exact HB.out | apply below_alloc | apply pw_below_drewN | apply below_drew1) | exact HB.out))) : w.heap.size ≤ aQ)); clear HB; have HB := n0_; have ar := n1_; have GW293 := n2_; have aW := n3_; clear n0_ n1_ n2_ n3_; clear hb hbox hg) | ((with_reducible refine gate_dst (N := 6) rfl ?_); refine seg_load_on (t := 27) (p := 1) (g := aQ) (off := 0) (T := 27) (cur := #[.bool az, .int .i64 aR, .int .i64 aA, .int .i64 aT, .bool aP, .int .i64 aU, .bool aB, .int .i64 aS, .int .i64 aC, .int .i64 aV, .bool al, .int .i64 aD, .bool ab, .int .i64 au, .int .i64 ac, .int .i64 aE, .bool am, .int .i64 aF, .bool ad, .int .i64 av, .int .i64 ae, .int .i64 aG, .bool an, .int .i64 aH, .bool af, .int .i64 aw, .int .i64 ag, .int .i64 aI, .bool ao, .int .i64 aJ, .bool ah, .int .i64 ax, .int .i64 ai, .int .i64 aK, .bool ap, .int .i64 aL, .bool aj, .int .i64 ay, .int .i64 ak, .int .i64 aM, .bool aq, .int .i64 aN, .int .i64 aO]) (vs := [.bool az, .int .i64 aR, .int .i64 aA, .int .i64 aT, .bool aP, .int .i64 aU, .bool aB, .int .i64 aS, .int .i64 aC, .int .i64 aV, .bool al, .int .i64 aD, .bool ab, .int .i64 au, .int .i64 ac, .int .i64 aE, .bool am, .int .i64 aF, .bool ad, .int .i64 av, .int .i64 ae, .int .i64 aG, .bool an, .int .i64 aH, .bool af, .int .i64 aw, .int .i64 ag, .int .i64 aI, .bool ao, .int .i64 aJ, .bool ah, .int .i64 ax, .int .i64 ai, .int .i64 aK, .bool ap, .int .i64 aL, .bool aj, .int .i64 ay, .int .i64 ak, .int .i64 aM, .bool aq, .int .i64 aN, .int .i64 aO]) ?hg ?ho ?hp ?hb Try.underlying27 ?hd ?hi ?hw ?_; (case ho => rfl); (case hg => first | rfl | (go_simp; done) | (simp [Region.wanted, yielded, *]; done)); (case hp => rfl); (case hb => exact (by (with_reducible repeat (first | refine blk_drewN ?_ _ | refine blk_drew ?_ | refine blk_alloc ?_ _)); exact ar.out)); (case hd => rfl); (case hi => kernel_rfl); (case hw => rfl)) | ((with_reducible refine gate_callee (f := 14) rfl ?_); refine goesL_ (some 7) rfl rfl Try.func14 (by kernel_rfl) rfl #[.agg #[.bool az, .int .i64 aR, .int .i64 aA, .int .i64 aT, .bool aP, .int .i64 aU, .bool aB, .int .i64 aS, .int .i64 aC, .int .i64 aV, .bool al, .int .i64 aD, .bool ab, .int .i64 au, .int .i64 ac, .int .i64 aE, .bool am, .int .i64 aF, .bool ad, .int .i64 av, .int .i64 ae, .int .i64 aG, .bool an, .int .i64 aH, .bool af, .int .i64 aw, .int .i64 ag, .int .i64 aI, .bool ao, .int .i64 aJ, .bool ah, .int .i64 ax, .int .i64 ai, .int .i64 aK, .bool ap, .int .i64 aL, .bool aj, .int .i64 ay, .int .i64 ak, .int .i64 aM, .bool aq, .int .i64 aN, .int .i64 aO]] rfl (by (try simp only [List.map_toArray, List.map_cons, List.map_nil]); first | done | rfl | (simp only [List.length_drop, List.length_take]; rfl)) ?_; (with_reducible refine (periluneref23_Valid.calls k az aR aA aT aP aU aB aS aC aV al aD ab au ac aE am aF ad av ae aG an aH af aw ag aI ao aJ ah ax ai aK ap aL aj ay ak aM aq aN aO true _ A2.out).mono ?_); rintro e w5 ⟨rfl, hb⟩; refine ⟨_, rfl, ?_⟩; have n0_ := Aside0.mk (blk_below (g := aQ) (o := .cells #[.bool az, .int .i64 aR, .int .i64 aA, .int .i64 aT, .bool aP, .int .i64 aU, .bool aB, .int .i64 aS, .int .i64 aC, .int .i64 aV, .bool al, .int .i64 aD, .bool ab, .int .i64 au, .int .i64 ac, .int .i64 aE, .bool am, .int .i64 aF, .bool ad, .int .i64 av, .int .i64 ae, .int .i64 aG, .bool an, .int .i64 aH, .bool af, .int .i64 aw, .int .i64 ag, .int .i64 aI, .bool ao, .int .i64 aJ, .bool ah, .int .i64 ax, .int .i64 ai, .int .i64 aK, .bool ap, .int .i64 aL, .bool aj, .int .i64 ay, .int .i64 ak, .int .i64 aM, .bool aq, .int .i64 aN, .int .i64 aO] 27 (0, 0)) (by (with_reducible repeat (first | refine blk_drewN ?_ _ | refine blk_drew ?_ | refine blk_alloc ?_ _)); exact ar.out) hb); have n1_ := Aside0.mk (below_step (by repeat (first | (with_reducible first | exact HB.out | apply below_alloc | apply pw_below_drewN | apply below_drew1 | refine below_set ?_ aW.out) | exact HB.out)) hb); clear ar; clear HB; have ar := n0_; have HB := n1_; clear n0_ n1_; (try clear hb); (try clear hb2); (try clear hk); (try clear hi)))
  go_loopg [4] k (fun kq v4 w' => ∃ (bA : Int), v4 = .int .i64 bA ∧ Aside0 (periluneref23_Ready.l0 kq bA az aR aA aT aP aU aB aS aC aV al aD ab au ac aE am aF ad av ae aG an aH af aw ag aI ao aJ ah ax ai aK ap aL aj ay ak aM aq aN aO = some (r1, r2)) ∧ Aside0 (kq ≤ k) ∧ Aside0 (w'.heap[aQ]? = some (.cells #[.bool az, .int .i64 aR, .int .i64 aA, .int .i64 aT, .bool aP, .int .i64 aU, .bool aB, .int .i64 aS, .int .i64 aC, .int .i64 aV, .bool al, .int .i64 aD, .bool ab, .int .i64 au, .int .i64 ac, .int .i64 aE, .bool am, .int .i64 aF, .bool ad, .int .i64 av, .int .i64 ae, .int .i64 aG, .bool an, .int .i64 aH, .bool af, .int .i64 aw, .int .i64 ag, .int .i64 aI, .bool ao, .int .i64 aJ, .bool ah, .int .i64 ax, .int .i64 ai, .int .i64 aK, .bool ap, .int .i64 aL, .bool aj, .int .i64 ay, .int .i64 ak, .int .i64 aM, .bool aq, .int .i64 aN, .int .i64 aO] 27 (0, 0))) ∧ Aside0 (Below w.heap.size w w'))
  case atStart => exact ⟨(63), (by first | rfl | (simp; done) | (simp [*]; done)), H', ⟨Nat.le_refl _⟩, ⟨by (with_reducible repeat (first | refine blk_drewN ?_ _ | refine blk_drew ?_ | refine blk_alloc ?_ _)); exact ar.out⟩, ⟨by repeat (first | (with_reducible first | exact HB.out | apply below_alloc | apply pw_below_drewN | apply below_drew1 | refine below_set ?_ aW.out) | exact HB.out)⟩⟩
  case round =>
   clear H'
   try clear c1 c2 p2 c3
   obtain ⟨bA, rfl, HA, HK1, ar, HB⟩ := hrel
   cases gk with
   | zero => exact absurd HA.out (by simp [periluneref23_Ready.l0])
   | succ k1 =>
    have H := HA.out
    clear HA
    simp only [periluneref23_Ready.l0] at H
    by_cases c6 : bA ≥ 1
    ·rw [if_pos c6] at H
     have c6b0 : decide (1 ≤ bA) = true := decide_eq_true c6
     clear c6
     have H' := Aside0.mk H
     clear H
     go_wp2
     go_loopg [5] k1 (fun kq v5 w' => ∃ (aa : Int), v5 = .int .i64 aa ∧ Aside0 (periluneref23_Ready.l1 kq bA aa az aR aA aT aP aU aB aS aC aV al aD ab au ac aE am aF ad av ae aG an aH af aw ag aI ao aJ ah ax ai aK ap aL aj ay ak aM aq aN aO = some (r1, r2)) ∧ Aside0 (kq ≤ k1) ∧ Aside0 (w'.heap[aQ]? = some (.cells #[.bool az, .int .i64 aR, .int .i64 aA, .int .i64 aT, .bool aP, .int .i64 aU, .bool aB, .int .i64 aS, .int .i64 aC, .int .i64 aV, .bool al, .int .i64 aD, .bool ab, .int .i64 au, .int .i64 ac, .int .i64 aE, .bool am, .int .i64 aF, .bool ad, .int .i64 av, .int .i64 ae, .int .i64 aG, .bool an, .int .i64 aH, .bool af, .int .i64 aw, .int .i64 ag, .int .i64 aI, .bool ao, .int .i64 aJ, .bool ah, .int .i64 ax, .int .i64 ai, .int .i64 aK, .bool ap, .int .i64 aL, .bool aj, .int .i64 ay, .int .i64 ak, .int .i64 aM, .bool aq, .int .i64 aN, .int .i64 aO] 27 (0, 0))) ∧ Aside0 (Below w.heap.size w w'))
     case atStart => exact ⟨(0), (by first | rfl | (simp; done) | (simp [*]; done)), H', ⟨Nat.le_refl _⟩, ⟨by (with_reducible repeat (first | refine blk_drewN ?_ _ | refine blk_drew ?_ | refine blk_alloc ?_ _)); exact ar.out⟩, ⟨by repeat (first | (with_reducible first | exact HB.out | apply below_alloc | apply pw_below_drewN | apply below_drew1 | refine below_set ?_ aW.out) | exact HB.out)⟩⟩
     case round =>
      clear H'
      try clear c1 c2 p2 c3 c6 c6b0 p2
      obtain ⟨aa, rfl, HA, HK2, ar, HB⟩ := hrel
      cases gk with
      | zero => exact absurd HA.out (by simp [periluneref23_Ready.l1])
      | succ k2 =>
       have H := HA.out
       clear HA
       simp only [periluneref23_Ready.l1] at H
       by_cases c7 : aa < 7
       ·rw [if_pos c7] at H
        have c7b0 : decide (aa < 7) = true := decide_eq_true c7
        clear c7
        by_cases c8 : 0 ≤ aa
        ·rw [if_pos c8] at H
         have c8b0 : decide (0 ≤ aa) = true := decide_eq_true c8
         clear c8
         by_cases c9 : pk7 az aB ab ad af ah aj aa = true
         ·rw [if_pos c9] at H
          have c9b0 : pk7 az aB ab ad af ah aj aa = true := c9
          clear c9
          by_cases c10 : pk7 aP al am an ao ap aq aa = true
          ·rw [if_pos c10] at H
           have c10b0 : pk7 aP al am an ao ap aq aa = true := c10
           clear c10
           have H' := Aside0.mk H
           clear H
           have vp295 : (0 ≤ (aa : Int)) = True := eq_true (of_decide_eq_true (by first | (with_reducible assumption) | assumption))
           have vq295 : ((aa : Int) < (7 : Int)) = True := eq_true (of_decide_eq_true (by first | (with_reducible assumption) | assumption))
           have bR : wr.cell? ⟨aQ, aa.toNat * 6, none⟩ = some (.bool (pk7 az aB ab ad af ah aj aa)) := cellA27_0_0 (aa) (of_decide_eq_true (by first | (with_reducible assumption) | assumption)) (of_decide_eq_true (by first | (with_reducible assumption) | assumption)) ar.out
           have vp297 : (0 ≤ (aa : Int)) = True := eq_true (of_decide_eq_true (by first | (with_reducible assumption) | assumption))
           have vq297 : ((aa : Int) < (7 : Int)) = True := eq_true (of_decide_eq_true (by first | (with_reducible assumption) | assumption))
           have bS : wr.cell? ⟨aQ, aa.toNat * 6 + 4, none⟩ = some (.bool (pk7 aP al am an ao ap aq aa)) := cellA27_0_4 (aa) (of_decide_eq_true (by first | (with_reducible assumption) | assumption)) (of_decide_eq_true (by first | (with_reducible assumption) | assumption)) ar.out
           go_wp2
           go_roundg k2
           case measure => have := HK1.out; have := HK2.out; omega
           case rel => exact ⟨(wrap64 (aa + 1)), (by first | rfl | (simp; done) | (simp [*]; done)), H', ⟨by have := HK1.out; have := HK2.out; omega⟩, ⟨by (with_reducible repeat (first | refine blk_drewN ?_ _ | refine blk_drew ?_ | refine blk_alloc ?_ _)); exact ar.out⟩, ⟨by repeat (first | (with_reducible first | exact HB.out | apply below_alloc | apply pw_below_drewN | apply below_drew1 | refine below_set ?_ aW.out) | exact HB.out)⟩⟩
          ·rw [if_neg c10] at H
           have c10b0 : pk7 aP al am an ao ap aq aa = false := by simpa using c10
           clear c10
           by_cases c11 : (pk7 aA aC ac ae ag ai ak aa) = bA
           ·rw [if_pos c11] at H
            have c11b0 : ((pk7 aA aC ac ae ag ai ak aa) == bA) = true := beq_iff_eq.mpr c11
            have c11b1 : ((pk7 aA aC ac ae ag ai ak aa) != bA) = false := bne_eq_false_iff_eq.mpr c11
            clear c11
            simp only [Option.some.injEq, Prod.mk.injEq] at H
            obtain ⟨rfl, rfl⟩ := H
            have vp295 : (0 ≤ (aa : Int)) = True := eq_true (of_decide_eq_true (by first | (with_reducible assumption) | assumption))
            have vq295 : ((aa : Int) < (7 : Int)) = True := eq_true (of_decide_eq_true (by first | (with_reducible assumption) | assumption))
            have bR : wr.cell? ⟨aQ, aa.toNat * 6, none⟩ = some (.bool (pk7 az aB ab ad af ah aj aa)) := cellA27_0_0 (aa) (of_decide_eq_true (by first | (with_reducible assumption) | assumption)) (of_decide_eq_true (by first | (with_reducible assumption) | assumption)) ar.out
            have vp297 : (0 ≤ (aa : Int)) = True := eq_true (of_decide_eq_true (by first | (with_reducible assumption) | assumption))
            have vq297 : ((aa : Int) < (7 : Int)) = True := eq_true (of_decide_eq_true (by first | (with_reducible assumption) | assumption))
            have bS : wr.cell? ⟨aQ, aa.toNat * 6 + 4, none⟩ = some (.bool (pk7 aP al am an ao ap aq aa)) := cellA27_0_4 (aa) (of_decide_eq_true (by first | (with_reducible assumption) | assumption)) (of_decide_eq_true (by first | (with_reducible assumption) | assumption)) ar.out
            have vp299 : (0 ≤ (aa : Int)) = True := eq_true (of_decide_eq_true (by first | (with_reducible assumption) | assumption))
            have vq299 : ((aa : Int) < (7 : Int)) = True := eq_true (of_decide_eq_true (by first | (with_reducible assumption) | assumption))
            have bT : wr.cell? ⟨aQ, aa.toNat * 6 + 2, none⟩ = some (.int .i64 (pk7 aA aC ac ae ag ai ak aa)) := cellA27_0_2 (aa) (of_decide_eq_true (by first | (with_reducible assumption) | assumption)) (of_decide_eq_true (by first | (with_reducible assumption) | assumption)) ar.out
            have vp301 : (0 ≤ (aa : Int)) = True := eq_true (of_decide_eq_true (by first | (with_reducible assumption) | assumption))
            have vq301 : ((aa : Int) < (7 : Int)) = True := eq_true (of_decide_eq_true (by first | (with_reducible assumption) | assumption))
            have hv302_0 : wr.cell? ⟨aQ, aa.toNat * 6 + 1, none⟩ = some (.int .i64 (pk7 aR aS au av aw ax ay aa)) := cellA27_0_1 (aa) (of_decide_eq_true (by first | (with_reducible assumption) | assumption)) (of_decide_eq_true (by first | (with_reducible assumption) | assumption)) ar.out
            go_wp2
            go_ret2
            exact ⟨by first | rfl | (simp [errW_none, errW_some] <;> rfl) | (simp [*, errW_none, errW_some] <;> rfl), by repeat (first | (with_reducible first | exact HB.out | apply below_alloc | apply pw_below_drewN | apply below_drew1 | refine below_set ?_ aW.out) | exact HB.out)⟩
           ·rw [if_neg c11] at H
            have c11b0 : ((pk7 aA aC ac ae ag ai ak aa) == bA) = false := beq_eq_false_iff_ne.mpr c11
            have c11b1 : ((pk7 aA aC ac ae ag ai ak aa) != bA) = true := bne_iff_ne.mpr c11
            have H' := Aside0.mk H
            clear H
            have vp295 : (0 ≤ (aa : Int)) = True := eq_true (of_decide_eq_true (by first | (with_reducible assumption) | assumption))
            have vq295 : ((aa : Int) < (7 : Int)) = True := eq_true (of_decide_eq_true (by first | (with_reducible assumption) | assumption))
            have bR : wr.cell? ⟨aQ, aa.toNat * 6, none⟩ = some (.bool (pk7 az aB ab ad af ah aj aa)) := cellA27_0_0 (aa) (of_decide_eq_true (by first | (with_reducible assumption) | assumption)) (of_decide_eq_true (by first | (with_reducible assumption) | assumption)) ar.out
            have vp297 : (0 ≤ (aa : Int)) = True := eq_true (of_decide_eq_true (by first | (with_reducible assumption) | assumption))
            have vq297 : ((aa : Int) < (7 : Int)) = True := eq_true (of_decide_eq_true (by first | (with_reducible assumption) | assumption))
            have bS : wr.cell? ⟨aQ, aa.toNat * 6 + 4, none⟩ = some (.bool (pk7 aP al am an ao ap aq aa)) := cellA27_0_4 (aa) (of_decide_eq_true (by first | (with_reducible assumption) | assumption)) (of_decide_eq_true (by first | (with_reducible assumption) | assumption)) ar.out
            have vp299 : (0 ≤ (aa : Int)) = True := eq_true (of_decide_eq_true (by first | (with_reducible assumption) | assumption))
            have vq299 : ((aa : Int) < (7 : Int)) = True := eq_true (of_decide_eq_true (by first | (with_reducible assumption) | assumption))
            have bT : wr.cell? ⟨aQ, aa.toNat * 6 + 2, none⟩ = some (.int .i64 (pk7 aA aC ac ae ag ai ak aa)) := cellA27_0_2 (aa) (of_decide_eq_true (by first | (with_reducible assumption) | assumption)) (of_decide_eq_true (by first | (with_reducible assumption) | assumption)) ar.out
            go_wp2
            go_roundg k2
            case measure => have := HK1.out; have := HK2.out; omega
            case rel => exact ⟨(wrap64 (aa + 1)), (by first | rfl | (simp; done) | (simp [*]; done)), H', ⟨by have := HK1.out; have := HK2.out; omega⟩, ⟨by (with_reducible repeat (first | refine blk_drewN ?_ _ | refine blk_drew ?_ | refine blk_alloc ?_ _)); exact ar.out⟩, ⟨by repeat (first | (with_reducible first | exact HB.out | apply below_alloc | apply pw_below_drewN | apply below_drew1 | refine below_set ?_ aW.out) | exact HB.out)⟩⟩
         ·rw [if_neg c9] at H
          have c9b0 : pk7 az aB ab ad af ah aj aa = false := by simpa using c9
          clear c9
          have H' := Aside0.mk H
          clear H
          have vp295 : (0 ≤ (aa : Int)) = True := eq_true (of_decide_eq_true (by first | (with_reducible assumption) | assumption))
          have vq295 : ((aa : Int) < (7 : Int)) = True := eq_true (of_decide_eq_true (by first | (with_reducible assumption) | assumption))
          have bR : wr.cell? ⟨aQ, aa.toNat * 6, none⟩ = some (.bool (pk7 az aB ab ad af ah aj aa)) := cellA27_0_0 (aa) (of_decide_eq_true (by first | (with_reducible assumption) | assumption)) (of_decide_eq_true (by first | (with_reducible assumption) | assumption)) ar.out
          go_wp2
          go_roundg k2
          case measure => have := HK1.out; have := HK2.out; omega
          case rel => exact ⟨(wrap64 (aa + 1)), (by first | rfl | (simp; done) | (simp [*]; done)), H', ⟨by have := HK1.out; have := HK2.out; omega⟩, ⟨by (with_reducible repeat (first | refine blk_drewN ?_ _ | refine blk_drew ?_ | refine blk_alloc ?_ _)); exact ar.out⟩, ⟨by repeat (first | (with_reducible first | exact HB.out | apply below_alloc | apply pw_below_drewN | apply below_drew1 | refine below_set ?_ aW.out) | exact HB.out)⟩⟩
        ·rw [if_neg c8] at H
         exact absurd H (by simp)
       ·rw [if_neg c7] at H
        have c7b0 : decide (aa < 7) = false := decide_eq_false c7
        clear c7
        have H' := Aside0.mk H
        clear H
        go_wp2
        go_roundg k2
        case measure => have := HK1.out; have := HK2.out; omega
        case rel => exact ⟨(wrap64 (bA - 1)), (by first | rfl | (simp; done) | (simp [*]; done)), H', ⟨by have := HK1.out; have := HK2.out; omega⟩, ⟨by (with_reducible repeat (first | refine blk_drewN ?_ _ | refine blk_drew ?_ | refine blk_alloc ?_ _)); exact ar.out⟩, ⟨by repeat (first | (with_reducible first | exact HB.out | apply below_alloc | apply pw_below_drewN | apply below_drew1 | refine below_set ?_ aW.out) | exact HB.out)⟩⟩
    ·rw [if_neg c6] at H
     have c6b0 : decide (1 ≤ bA) = false := decide_eq_false c6
     clear c6
     simp only [Option.some.injEq, Prod.mk.injEq] at H
     obtain ⟨rfl, rfl⟩ := H
     go_wp2
     go_ret2
     exact ⟨by first | rfl | (simp [errW_none, errW_some] <;> rfl) | (simp [*, errW_none, errW_some] <;> rfl), by repeat (first | (with_reducible first | exact HB.out | apply below_alloc | apply pw_below_drewN | apply below_drew1 | refine below_set ?_ aW.out) | exact HB.out)⟩
 ·replace c3 := Bool.eq_false_iff.mpr c3
  subst c3
  have H1 : (some (0, false)) = some (r1, r2) := by rw [if_neg (show ¬ (false = true) by decide)] at H; exact H
  clear H
  have H := H1
  clear H1
  simp only [Option.some.injEq, Prod.mk.injEq] at H
  obtain ⟨rfl, rfl⟩ := H
  go_enter Try.func20, Try.ntmps20
  go_wp2_with (first | ((with_reducible refine gate_dst (N := 1) rfl ?_); refine box_event ?hg (N := 1) ?hd (cs := #[.bool az, .int .i64 aR, .int .i64 aA, .int .i64 aT, .bool aP, .int .i64 aU, .bool aB, .int .i64 aS, .int .i64 aC, .int .i64 aV, .bool al, .int .i64 aD, .bool ab, .int .i64 au, .int .i64 ac, .int .i64 aE, .bool am, .int .i64 aF, .bool ad, .int .i64 av, .int .i64 ae, .int .i64 aG, .bool an, .int .i64 aH, .bool af, .int .i64 aw, .int .i64 ag, .int .i64 aI, .bool ao, .int .i64 aJ, .bool ah, .int .i64 ax, .int .i64 ai, .int .i64 aK, .bool ap, .int .i64 aL, .bool aj, .int .i64 ay, .int .i64 ak, .int .i64 aM, .bool aq, .int .i64 aN, .int .i64 aO]) (t := 27) ?hr ?_; (case hd => rfl); (case hg => rfl); (case hr => first | (go_simp; done) | (go_simp; rfl)); intro aQ hg w12 hbox hb; have n0_ := Aside0.mk (below_step (by repeat (first | (with_reducible first | exact HB.out | apply below_alloc | apply pw_below_drewN | apply below_drew1) | exact HB.out)) hb); have n1_ := Aside0.mk (hbox); have n2_ := Aside0.mk ((by rw [hg]; exact (below_size (by repeat (first | (with_reducible first | exact HB.out | apply below_alloc | apply pw_below_drewN | apply below_drew1) | exact HB.out))) : w.heap.size ≤ aQ)); have n3_ := Aside0.mk ((by rw [hg]; exact (below_size (by repeat (first | (with_reducible first | exact HB.out | apply below_alloc | apply pw_below_drewN | apply below_drew1) | exact HB.out))) : w.heap.size ≤ aQ)); clear HB; have HB := n0_; have ar := n1_; have GW293 := n2_; have aW := n3_; clear n0_ n1_ n2_ n3_; clear hb hbox hg) | ((with_reducible refine gate_dst (N := 6) rfl ?_); refine seg_load_on (t := 27) (p := 1) (g := aQ) (off := 0) (T := 27) (cur := #[.bool az, .int .i64 aR, .int .i64 aA, .int .i64 aT, .bool aP, .int .i64 aU, .bool aB, .int .i64 aS, .int .i64 aC, .int .i64 aV, .bool al, .int .i64 aD, .bool ab, .int .i64 au, .int .i64 ac, .int .i64 aE, .bool am, .int .i64 aF, .bool ad, .int .i64 av, .int .i64 ae, .int .i64 aG, .bool an, .int .i64 aH, .bool af, .int .i64 aw, .int .i64 ag, .int .i64 aI, .bool ao, .int .i64 aJ, .bool ah, .int .i64 ax, .int .i64 ai, .int .i64 aK, .bool ap, .int .i64 aL, .bool aj, .int .i64 ay, .int .i64 ak, .int .i64 aM, .bool aq, .int .i64 aN, .int .i64 aO]) (vs := [.bool az, .int .i64 aR, .int .i64 aA, .int .i64 aT, .bool aP, .int .i64 aU, .bool aB, .int .i64 aS, .int .i64 aC, .int .i64 aV, .bool al, .int .i64 aD, .bool ab, .int .i64 au, .int .i64 ac, .int .i64 aE, .bool am, .int .i64 aF, .bool ad, .int .i64 av, .int .i64 ae, .int .i64 aG, .bool an, .int .i64 aH, .bool af, .int .i64 aw, .int .i64 ag, .int .i64 aI, .bool ao, .int .i64 aJ, .bool ah, .int .i64 ax, .int .i64 ai, .int .i64 aK, .bool ap, .int .i64 aL, .bool aj, .int .i64 ay, .int .i64 ak, .int .i64 aM, .bool aq, .int .i64 aN, .int .i64 aO]) ?hg ?ho ?hp ?hb Try.underlying27 ?hd ?hi ?hw ?_; (case ho => rfl); (case hg => first | rfl | (go_simp; done) | (simp [Region.wanted, yielded, *]; done)); (case hp => rfl); (case hb => exact (by (with_reducible repeat (first | refine blk_drewN ?_ _ | refine blk_drew ?_ | refine blk_alloc ?_ _)); exact ar.out)); (case hd => rfl); (case hi => kernel_rfl); (case hw => rfl)) | ((with_reducible refine gate_callee (f := 14) rfl ?_); refine goesL_ (some 7) rfl rfl Try.func14 (by kernel_rfl) rfl #[.agg #[.bool az, .int .i64 aR, .int .i64 aA, .int .i64 aT, .bool aP, .int .i64 aU, .bool aB, .int .i64 aS, .int .i64 aC, .int .i64 aV, .bool al, .int .i64 aD, .bool ab, .int .i64 au, .int .i64 ac, .int .i64 aE, .bool am, .int .i64 aF, .bool ad, .int .i64 av, .int .i64 ae, .int .i64 aG, .bool an, .int .i64 aH, .bool af, .int .i64 aw, .int .i64 ag, .int .i64 aI, .bool ao, .int .i64 aJ, .bool ah, .int .i64 ax, .int .i64 ai, .int .i64 aK, .bool ap, .int .i64 aL, .bool aj, .int .i64 ay, .int .i64 ak, .int .i64 aM, .bool aq, .int .i64 aN, .int .i64 aO]] rfl (by (try simp only [List.map_toArray, List.map_cons, List.map_nil]); first | done | rfl | (simp only [List.length_drop, List.length_take]; rfl)) ?_; (with_reducible refine (periluneref23_Valid.calls k az aR aA aT aP aU aB aS aC aV al aD ab au ac aE am aF ad av ae aG an aH af aw ag aI ao aJ ah ax ai aK ap aL aj ay ak aM aq aN aO false _ A2.out).mono ?_); rintro e w13 ⟨rfl, hb⟩; refine ⟨_, rfl, ?_⟩; have n0_ := Aside0.mk (blk_below (g := aQ) (o := .cells #[.bool az, .int .i64 aR, .int .i64 aA, .int .i64 aT, .bool aP, .int .i64 aU, .bool aB, .int .i64 aS, .int .i64 aC, .int .i64 aV, .bool al, .int .i64 aD, .bool ab, .int .i64 au, .int .i64 ac, .int .i64 aE, .bool am, .int .i64 aF, .bool ad, .int .i64 av, .int .i64 ae, .int .i64 aG, .bool an, .int .i64 aH, .bool af, .int .i64 aw, .int .i64 ag, .int .i64 aI, .bool ao, .int .i64 aJ, .bool ah, .int .i64 ax, .int .i64 ai, .int .i64 aK, .bool ap, .int .i64 aL, .bool aj, .int .i64 ay, .int .i64 ak, .int .i64 aM, .bool aq, .int .i64 aN, .int .i64 aO] 27 (0, 0)) (by (with_reducible repeat (first | refine blk_drewN ?_ _ | refine blk_drew ?_ | refine blk_alloc ?_ _)); exact ar.out) hb); have n1_ := Aside0.mk (below_step (by repeat (first | (with_reducible first | exact HB.out | apply below_alloc | apply pw_below_drewN | apply below_drew1 | refine below_set ?_ aW.out) | exact HB.out)) hb); clear ar; clear HB; have ar := n0_; have HB := n1_; clear n0_ n1_; (try clear hb); (try clear hb2); (try clear hk); (try clear hi)))
  go_ret2
  exact ⟨by first | rfl | (simp [errW_none, errW_some] <;> rfl) | (simp [*, errW_none, errW_some] <;> rfl), by repeat (first | (with_reducible first | exact HB.out | apply below_alloc | apply pw_below_drewN | apply below_drew1 | refine below_set ?_ aW.out) | exact HB.out)⟩

end Go.Proofs.Ytjenkcgjpdappaa.P
