-- Printed by a session's own program (wip/turnprint.py, wip/myprint.sh) over the translation's print. -- slim -- short -- s4
import Derived.Test.YtjenkcgjpdappaaPx0
import Derived.Test.YtjenkcgjpdappaaPx11
namespace Go.Proofs.Ytjenkcgjpdappaa.P
open Go.RowKit Go.Proofs.YtjenkcgjpdappaaW.PrintWords Go.Proofs.YtjenkcgjpdappaaW.PrintLast Go.Proofs.YtjenkcgjpdappaaW.PrintMore
attribute [local go_sem] max2_int min2_int max_two min_two max_three min_three max_four min_four   -- for this text's walks alone
set_option linter.unusedVariables false
set_option linter.unusedSimpArgs false

/-! ### periluneref23_Count: function 25 -/
mutual
def periluneref23_Count.l0 : Nat → Int → Int → Bool → Int → Int → Int → Bool → Int → Bool → Int → Int → Int → Bool → Int → Bool → Int → Int → Int → Bool → Int → Bool → Int → Int → Int → Bool → Int → Bool → Int → Int → Int → Bool → Int → Bool → Int → Int → Int → Bool → Int → Bool → Int → Int → Int → Bool → Int → Int → Option (Int)
 | 0, _, _, _, _, _, _, _, _, _, _, _, _, _, _, _, _, _, _, _, _, _, _, _, _, _, _, _, _, _, _, _, _, _, _, _, _, _, _, _, _, _, _, _, _, _ => none
 | k + 1, x3, x4, aV, bc, bd, be, bf, bg, aW, bh, bi, bj, bk, bl, aX, bm, bn, bo, bp, bq, aY, br, bs, bt, bu, bv, aZ, bw, bx, bz, bA, bB, ba, bC, bD, bE, bF, bG, bb, bH, bI, bJ, bK, bL, bM => if x4 < 7 then ((periluneref23_Valid.f k aV bc bd be bf bg aW bh bi bj bk bl aX bm bn bo bp bq aY br bs bt bu bv aZ bw bx bz bA bB ba bC bD bE bF bG bb bH bI bJ bK bL bM).bind fun bR => (periluneref23_Count.j1 k x3 x4 bR aV bc bd be bf bg aW bh bi bj bk bl aX bm bn bo bp bq aY br bs bt bu bv aZ bw bx bz bA bB ba bC bD bE bF bG bb bH bI bJ bK bL bM)) else (periluneref23_Count.j1 k x3 x4 false aV bc bd be bf bg aW bh bi bj bk bl aX bm bn bo bp bq aY br bs bt bu bv aZ bw bx bz bA bB ba bC bD bE bF bG bb bH bI bJ bK bL bM)
def periluneref23_Count.j1 : Nat → Int → Int → Bool → Bool → Int → Int → Int → Bool → Int → Bool → Int → Int → Int → Bool → Int → Bool → Int → Int → Int → Bool → Int → Bool → Int → Int → Int → Bool → Int → Bool → Int → Int → Int → Bool → Int → Bool → Int → Int → Int → Bool → Int → Bool → Int → Int → Int → Bool → Int → Int → Option (Int)
 | 0, _, _, _, _, _, _, _, _, _, _, _, _, _, _, _, _, _, _, _, _, _, _, _, _, _, _, _, _, _, _, _, _, _, _, _, _, _, _, _, _, _, _, _, _, _, _ => none
 | k + 1, x3, x4, x10, aV, bc, bd, be, bf, bg, aW, bh, bi, bj, bk, bl, aX, bm, bn, bo, bp, bq, aY, br, bs, bt, bu, bv, aZ, bw, bx, bz, bA, bB, ba, bC, bD, bE, bF, bG, bb, bH, bI, bJ, bK, bL, bM => if x10 = true then (if 0 ≤ x4 then (if x4 < 7 then (if pk7 aV aW aX aY aZ ba bb x4 = true then (periluneref23_Count.l0 k (wrap64 (x3 + 1)) (wrap64 (x4 + 1)) aV bc bd be bf bg aW bh bi bj bk bl aX bm bn bo bp bq aY br bs bt bu bv aZ bw bx bz bA bB ba bC bD bE bF bG bb bH bI bJ bK bL bM) else (periluneref23_Count.l0 k x3 (wrap64 (x4 + 1)) aV bc bd be bf bg aW bh bi bj bk bl aX bm bn bo bp bq aY br bs bt bu bv aZ bw bx bz bA bB ba bC bD bE bF bG bb bH bI bJ bK bL bM)) else (none)) else (none)) else (some x3)
end
def periluneref23_Count.f (k : Nat) (ag : Bool) (aM : Int) (aN : Int) (aO : Int) (aP : Bool) (aQ : Int) (ah : Bool) (aR : Int) (aS : Int) (aT : Int) (ai : Bool) (aj : Int) (ab : Bool) (ak : Int) (al : Int) (am : Int) (an : Bool) (ao : Int) (ac : Bool) (ap : Int) (aq : Int) (ar : Int) (au : Bool) (av : Int) (ad : Bool) (aw : Int) (ax : Int) (ay : Int) (az : Bool) (aA : Int) (ae : Bool) (aB : Int) (aC : Int) (aD : Int) (aE : Bool) (aF : Int) (af : Bool) (aG : Int) (aH : Int) (aI : Int) (aJ : Bool) (aK : Int) (aL : Int) : Option (Int) := periluneref23_Count.l0 k 0 0 ag aM aN aO aP aQ ah aR aS aT ai aj ab ak al am an ao ac ap aq ar au av ad aw ax ay az aA ae aB aC aD aE aF af aG aH aI aJ aK aL
theorem periluneref23_Count.mono_l : ∀ k, (∀ y0 y1 y2 y3 y4 y5 y6 y7 y8 y9 y10 y11 y12 y13 y14 y15 y16 y17 y18 y19 y20 y21 y22 y23 y24 y25 y26 y27 y28 y29 y30 y31 y32 y33 y34 y35 y36 y37 y38 y39 y40 y41 y42 y43 y44, LeO (periluneref23_Count.l0 k y0 y1 y2 y3 y4 y5 y6 y7 y8 y9 y10 y11 y12 y13 y14 y15 y16 y17 y18 y19 y20 y21 y22 y23 y24 y25 y26 y27 y28 y29 y30 y31 y32 y33 y34 y35 y36 y37 y38 y39 y40 y41 y42 y43 y44) (periluneref23_Count.l0 (k + 1) y0 y1 y2 y3 y4 y5 y6 y7 y8 y9 y10 y11 y12 y13 y14 y15 y16 y17 y18 y19 y20 y21 y22 y23 y24 y25 y26 y27 y28 y29 y30 y31 y32 y33 y34 y35 y36 y37 y38 y39 y40 y41 y42 y43 y44)) ∧ (∀ y0 y1 y2 y3 y4 y5 y6 y7 y8 y9 y10 y11 y12 y13 y14 y15 y16 y17 y18 y19 y20 y21 y22 y23 y24 y25 y26 y27 y28 y29 y30 y31 y32 y33 y34 y35 y36 y37 y38 y39 y40 y41 y42 y43 y44 y45, LeO (periluneref23_Count.j1 k y0 y1 y2 y3 y4 y5 y6 y7 y8 y9 y10 y11 y12 y13 y14 y15 y16 y17 y18 y19 y20 y21 y22 y23 y24 y25 y26 y27 y28 y29 y30 y31 y32 y33 y34 y35 y36 y37 y38 y39 y40 y41 y42 y43 y44 y45) (periluneref23_Count.j1 (k + 1) y0 y1 y2 y3 y4 y5 y6 y7 y8 y9 y10 y11 y12 y13 y14 y15 y16 y17 y18 y19 y20 y21 y22 y23 y24 y25 y26 y27 y28 y29 y30 y31 y32 y33 y34 y35 y36 y37 y38 y39 y40 y41 y42 y43 y44 y45))
 | 0 => ⟨fun _ _ _ _ _ _ _ _ _ _ _ _ _ _ _ _ _ _ _ _ _ _ _ _ _ _ _ _ _ _ _ _ _ _ _ _ _ _ _ _ _ _ _ _ _ r h => by simp [periluneref23_Count.l0] at h, fun _ _ _ _ _ _ _ _ _ _ _ _ _ _ _ _ _ _ _ _ _ _ _ _ _ _ _ _ _ _ _ _ _ _ _ _ _ _ _ _ _ _ _ _ _ _ r h => by simp [periluneref23_Count.j1] at h⟩
 | k + 1 => by
  obtain ⟨ih0, ih1⟩ := periluneref23_Count.mono_l k
  refine ⟨?_, ?_⟩
  ·intro y0 y1 y2 y3 y4 y5 y6 y7 y8 y9 y10 y11 y12 y13 y14 y15 y16 y17 y18 y19 y20 y21 y22 y23 y24 y25 y26 y27 y28 y29 y30 y31 y32 y33 y34 y35 y36 y37 y38 y39 y40 y41 y42 y43 y44
   unfold periluneref23_Count.l0
   repeat' first
   | (with_reducible exact ih0 _ _ _ _ _ _ _ _ _ _ _ _ _ _ _ _ _ _ _ _ _ _ _ _ _ _ _ _ _ _ _ _ _ _ _ _ _ _ _ _ _ _ _ _ _)
   | (with_reducible exact ih1 _ _ _ _ _ _ _ _ _ _ _ _ _ _ _ _ _ _ _ _ _ _ _ _ _ _ _ _ _ _ _ _ _ _ _ _ _ _ _ _ _ _ _ _ _ _)
   | (with_reducible apply periluneref23_Valid.mono)
   | (with_reducible exact LeO.refl _)
   | (with_reducible exact LeO.none _)
   | (with_reducible refine LeO.ite ?_ ?_)
   | (with_reducible refine LeO.bind ?_ (fun _ => ?_))
   | exact ih0 _ _ _ _ _ _ _ _ _ _ _ _ _ _ _ _ _ _ _ _ _ _ _ _ _ _ _ _ _ _ _ _ _ _ _ _ _ _ _ _ _ _ _ _ _
   | exact ih1 _ _ _ _ _ _ _ _ _ _ _ _ _ _ _ _ _ _ _ _ _ _ _ _ _ _ _ _ _ _ _ _ _ _ _ _ _ _ _ _ _ _ _ _ _ _
   | apply periluneref23_Valid.mono
   | exact LeO.none _
   | refine LeO.ite ?_ ?_
   | refine LeO.bind ?_ (fun _ => ?_)
  ·intro y0 y1 y2 y3 y4 y5 y6 y7 y8 y9 y10 y11 y12 y13 y14 y15 y16 y17 y18 y19 y20 y21 y22 y23 y24 y25 y26 y27 y28 y29 y30 y31 y32 y33 y34 y35 y36 y37 y38 y39 y40 y41 y42 y43 y44 y45
   unfold periluneref23_Count.j1
   repeat' first
   | (with_reducible exact ih0 _ _ _ _ _ _ _ _ _ _ _ _ _ _ _ _ _ _ _ _ _ _ _ _ _ _ _ _ _ _ _ _ _ _ _ _ _ _ _ _ _ _ _ _ _)
   | (with_reducible exact ih1 _ _ _ _ _ _ _ _ _ _ _ _ _ _ _ _ _ _ _ _ _ _ _ _ _ _ _ _ _ _ _ _ _ _ _ _ _ _ _ _ _ _ _ _ _ _)
   | (with_reducible apply periluneref23_Valid.mono)
   | (with_reducible exact LeO.refl _)
   | (with_reducible exact LeO.none _)
   | (with_reducible refine LeO.ite ?_ ?_)
   | (with_reducible refine LeO.bind ?_ (fun _ => ?_))
   | exact ih0 _ _ _ _ _ _ _ _ _ _ _ _ _ _ _ _ _ _ _ _ _ _ _ _ _ _ _ _ _ _ _ _ _ _ _ _ _ _ _ _ _ _ _ _ _
   | exact ih1 _ _ _ _ _ _ _ _ _ _ _ _ _ _ _ _ _ _ _ _ _ _ _ _ _ _ _ _ _ _ _ _ _ _ _ _ _ _ _ _ _ _ _ _ _ _
   | apply periluneref23_Valid.mono
   | exact LeO.none _
   | refine LeO.ite ?_ ?_
   | refine LeO.bind ?_ (fun _ => ?_)
theorem periluneref23_Count.mono : ∀ a0 a1 a2 a3 a4 a5 a6 a7 a8 a9 a10 a11 a12 a13 a14 a15 a16 a17 a18 a19 a20 a21 a22 a23 a24 a25 a26 a27 a28 a29 a30 a31 a32 a33 a34 a35 a36 a37 a38 a39 a40 a41 a42 k, LeO (periluneref23_Count.f k a0 a1 a2 a3 a4 a5 a6 a7 a8 a9 a10 a11 a12 a13 a14 a15 a16 a17 a18 a19 a20 a21 a22 a23 a24 a25 a26 a27 a28 a29 a30 a31 a32 a33 a34 a35 a36 a37 a38 a39 a40 a41 a42) (periluneref23_Count.f (k + 1) a0 a1 a2 a3 a4 a5 a6 a7 a8 a9 a10 a11 a12 a13 a14 a15 a16 a17 a18 a19 a20 a21 a22 a23 a24 a25 a26 a27 a28 a29 a30 a31 a32 a33 a34 a35 a36 a37 a38 a39 a40 a41 a42) := by
 intro a0 a1 a2 a3 a4 a5 a6 a7 a8 a9 a10 a11 a12 a13 a14 a15 a16 a17 a18 a19 a20 a21 a22 a23 a24 a25 a26 a27 a28 a29 a30 a31 a32 a33 a34 a35 a36 a37 a38 a39 a40 a41 a42 k
 obtain ⟨ih0, ih1⟩ := periluneref23_Count.mono_l k
 unfold periluneref23_Count.f
 repeat' first
   | (with_reducible exact ih0 _ _ _ _ _ _ _ _ _ _ _ _ _ _ _ _ _ _ _ _ _ _ _ _ _ _ _ _ _ _ _ _ _ _ _ _ _ _ _ _ _ _ _ _ _)
   | (with_reducible exact ih1 _ _ _ _ _ _ _ _ _ _ _ _ _ _ _ _ _ _ _ _ _ _ _ _ _ _ _ _ _ _ _ _ _ _ _ _ _ _ _ _ _ _ _ _ _ _)
   | (with_reducible apply periluneref23_Valid.mono)
   | (with_reducible exact LeO.refl _)
   | (with_reducible exact LeO.none _)
   | (with_reducible refine LeO.ite ?_ ?_)
   | (with_reducible refine LeO.bind ?_ (fun _ => ?_))
   | exact ih0 _ _ _ _ _ _ _ _ _ _ _ _ _ _ _ _ _ _ _ _ _ _ _ _ _ _ _ _ _ _ _ _ _ _ _ _ _ _ _ _ _ _ _ _ _
   | exact ih1 _ _ _ _ _ _ _ _ _ _ _ _ _ _ _ _ _ _ _ _ _ _ _ _ _ _ _ _ _ _ _ _ _ _ _ _ _ _ _ _ _ _ _ _ _ _
   | apply periluneref23_Valid.mono
   | exact LeO.none _
   | refine LeO.ite ?_ ?_
   | refine LeO.bind ?_ (fun _ => ?_)
set_option maxHeartbeats 8000000 in
set_option maxRecDepth 100000 in
theorem periluneref23_Count.calls (k : Nat) (ag : Bool) (aM : Int) (aN : Int) (aO : Int) (aP : Bool) (aQ : Int) (ah : Bool) (aR : Int) (aS : Int) (aT : Int) (ai : Bool) (aj : Int) (ab : Bool) (ak : Int) (al : Int) (am : Int) (an : Bool) (ao : Int) (ac : Bool) (ap : Int) (aq : Int) (ar : Int) (au : Bool) (av : Int) (ad : Bool) (aw : Int) (ax : Int) (ay : Int) (az : Bool) (aA : Int) (ae : Bool) (aB : Int) (aC : Int) (aD : Int) (aE : Bool) (aF : Int) (af : Bool) (aG : Int) (aH : Int) (aI : Int) (aJ : Bool) (aK : Int) (aL : Int) (r : Int) (w : World) (h : periluneref23_Count.f k ag aM aN aO aP aQ ah aR aS aT ai aj ab ak al am an ao ac ap aq ar au av ad aw ax ay az aA ae aB aC aD aE aF af aG aH aI aJ aK aL = some r) :
  Calls Try.prog 25 #[.agg #[.bool ag, .int .i64 aM, .int .i64 aN, .int .i64 aO, .bool aP, .int .i64 aQ, .bool ah, .int .i64 aR, .int .i64 aS, .int .i64 aT, .bool ai, .int .i64 aj, .bool ab, .int .i64 ak, .int .i64 al, .int .i64 am, .bool an, .int .i64 ao, .bool ac, .int .i64 ap, .int .i64 aq, .int .i64 ar, .bool au, .int .i64 av, .bool ad, .int .i64 aw, .int .i64 ax, .int .i64 ay, .bool az, .int .i64 aA, .bool ae, .int .i64 aB, .int .i64 aC, .int .i64 aD, .bool aE, .int .i64 aF, .bool af, .int .i64 aG, .int .i64 aH, .int .i64 aI, .bool aJ, .int .i64 aK, .int .i64 aL]] w fun e w' => e = .returned (.int .i64 r) ∧ Below w.heap.size w w' := by
 have hu27 := Try.underlying27
 have hu25 := Try.underlying25
 have HB := Aside0.mk (Below.refl w.heap.size w)
 have H := h
 unfold periluneref23_Count.f at H
 clear h
 have H' := Aside0.mk H
 clear H
 go_enter Try.func25, Try.ntmps25
 go_wp2_with (first | ((with_reducible refine gate_dst (N := 1) rfl ?_); refine box_event ?hg (N := 1) ?hd (cs := Jt ag aM aN aO aP aQ ah aR aS aT ai aj ab ak al am an ao ac ap aq ar au av ad aw ax ay az aA ae aB aC aD aE aF af aG aH aI aJ aK aL) (t := 27) ?hr ?_; (case hd => rfl); (case hg => rfl); (case hr => first | (go_simp; done) | (go_simp; rfl)); intro bN hg w2 hbox hb; have aU := Aside0.mk hbox; have GW355 := zhs HB hg; have bP := zhs HB hg; replace HB := zhB HB hb; clear hb hbox hg))
 go_loopg [3, 4] k (fun kq v3 v4 w' => ∃ (bO : Int) (aa : Int), v3 = .int .i64 bO ∧ v4 = .int .i64 aa ∧ Aside0 (periluneref23_Count.l0 kq bO aa ag aM aN aO aP aQ ah aR aS aT ai aj ab ak al am an ao ac ap aq ar au av ad aw ax ay az aA ae aB aC aD aE aF af aG aH aI aJ aK aL = some r) ∧ Aside0 (kq ≤ k) ∧ Aside0 (w'.heap[bN]? = some (.cells (Jt ag aM aN aO aP aQ ah aR aS aT ai aj ab ak al am an ao ac ap aq ar au av ad aw ax ay az aA ae aB aC aD aE aF af aG aH aI aJ aK aL) 27 (0, 0))) ∧ Aside0 (Below w.heap.size w w'))
 case atStart => exact ⟨(0), (0), (by first | rfl | (simp; done) | (simp [*]; done)), (by first | rfl | (simp; done) | (simp [*]; done)), H', ⟨Nat.le_refl _⟩, ⟨by (with_reducible repeat (first | refine blk_drewN ?_ _ | refine blk_drew ?_ | refine blk_alloc ?_ _)); exact aU.out⟩, ⟨zho HB⟩⟩
 case round =>
  clear H'
  try clear c2 p2
  obtain ⟨bO, aa, rfl, rfl, HA, HK1, aU, HB⟩ := hrel
  cases gk with
  | zero => exact absurd HA.out (by simp [periluneref23_Count.l0])
  | succ k1 =>
   have H := HA.out
   clear HA
   simp only [periluneref23_Count.l0] at H
   have HC3 := Aside0.mk H
   clear H
   go_upto_region 3 with (fail)
   go_cut [10] (fun v10 wc => ∃ (kq : Nat) (bQ : Bool), v10 = .bool bQ ∧ Aside0 (periluneref23_Count.j1 kq bO aa bQ ag aM aN aO aP aQ ah aR aS aT ai aj ab ak al am an ao ac ap aq ar au av ad aw ax ay az aA ae aB aC aD aE aF af aG aH aI aJ aK aL = some r) ∧ Aside0 (kq ≤ k1) ∧ Aside0 (wc.heap[bN]? = some (.cells (Jt ag aM aN aO aP aQ ah aR aS aT ai aj ab ak al am an ao ac ap aq ar au av ad aw ax ay az aA ae aB aC aD aE aF af aG aH aI aJ aK aL) 27 (0, 0))) ∧ Aside0 (Below w.heap.size w wc))
   case first =>
    have H := HC3.out
    clear HC3
    by_cases c4 : aa < 7
    ·rw [if_pos c4] at H
     have c4b0 : decide (aa < 7) = true := decide_eq_true c4
     clear c4
     (first | rw [c4b0] | (simp only [i64_w, i32_w]; rw [c4b0]) | rw [c4b1] | skip)
     replace H := Option.bind_eq_some_iff.mp H
     obtain ⟨bR, A50, H⟩ := H
     try dsimp only at H
     have A5 := Aside0.mk A50
     clear A50
     have H' := Aside0.mk H
     clear H
     go_wp2_with (first | ((with_reducible refine gate_dst (N := 8) rfl ?_); refine seg_load_on (t := 27) (p := 1) (g := bN) (off := 0) (T := 27) (cur := Jt ag aM aN aO aP aQ ah aR aS aT ai aj ab ak al am an ao ac ap aq ar au av ad aw ax ay az aA ae aB aC aD aE aF af aG aH aI aJ aK aL) (vs := Vt ag aM aN aO aP aQ ah aR aS aT ai aj ab ak al am an ao ac ap aq ar au av ad aw ax ay az aA ae aB aC aD aE aF af aG aH aI aJ aK aL) ?hg ?ho ?hp ?hb Try.underlying27 ?hd ?hi ?hw ?_; (case ho => rfl); (case hg => first | rfl | (go_simp; done) | (simp [Region.wanted, yielded, *]; done)); (case hp => rfl); (case hb => exact aU.out); (case hd => rfl); (case hi => kernel_rfl); (case hw => rfl)) | (go_at_call 14; (with_reducible refine (periluneref23_Valid.calls k1 ag aM aN aO aP aQ ah aR aS aT ai aj ab ak al am an ao ac ap aq ar au av ad aw ax ay az aA ae aB aC aD aE aF af aG aH aI aJ aK aL bR _ A5.out).mono ?_); rintro e w6 ⟨rfl, hb⟩; replace aU := zbB aU hb; replace HB := zhB HB hb; (try clear hb); (try clear hb2); (try clear hk); (try clear hi)))
     go_meet
     case rel => exact ⟨_, (bR), (by first | rfl | (simp; done) | (simp [*]; done)), H', ⟨by have := HK1.out; first | omega | exact Nat.le_refl _⟩, ⟨by (with_reducible repeat (first | refine blk_drewN ?_ _ | refine blk_drew ?_ | refine blk_alloc ?_ _)); exact aU.out⟩, ⟨zho HB⟩⟩
    ·rw [if_neg c4] at H
     have c4b0 : decide (aa < 7) = false := decide_eq_false c4
     clear c4
     (first | rw [c4b0] | (simp only [i64_w, i32_w]; rw [c4b0]) | rw [c4b1] | skip)
     have H' := Aside0.mk H
     clear H
     go_wp2
     go_meet
     case rel => exact ⟨_, (false), (by first | rfl | (simp; done) | (simp [*]; done)), H', ⟨by have := HK1.out; first | omega | exact Nat.le_refl _⟩, ⟨by (with_reducible repeat (first | refine blk_drewN ?_ _ | refine blk_drew ?_ | refine blk_alloc ?_ _)); exact aU.out⟩, ⟨zho HB⟩⟩
   case rest =>
    clear HC3
    try clear c2 p2 c4 c4b0 c4b1 p2
    obtain ⟨kq, bQ, rfl, HA, HJ2, aU, HB⟩ := hcut
    cases kq with
    | zero => exact absurd HA.out (by simp [periluneref23_Count.j1])
    | succ kj2 =>
     have H := HA.out
     clear HA
     simp only [periluneref23_Count.j1] at H
     by_cases c7 : bQ = true
     ·subst c7
      have H1 : (if 0 ≤ aa then (if aa < 7 then (if pk7 ag ah ab ac ad ae af aa = true then (periluneref23_Count.l0 kj2 (wrap64 (bO + 1)) (wrap64 (aa + 1)) ag aM aN aO aP aQ ah aR aS aT ai aj ab ak al am an ao ac ap aq ar au av ad aw ax ay az aA ae aB aC aD aE aF af aG aH aI aJ aK aL) else (periluneref23_Count.l0 kj2 bO (wrap64 (aa + 1)) ag aM aN aO aP aQ ah aR aS aT ai aj ab ak al am an ao ac ap aq ar au av ad aw ax ay az aA ae aB aC aD aE aF af aG aH aI aJ aK aL)) else (none)) else (none)) = some r := by rw [if_pos rfl] at H; exact H
      clear H
      have H := H1
      clear H1
      by_cases c8 : 0 ≤ aa
      ·rw [if_pos c8] at H
       have c8b0 : decide (0 ≤ aa) = true := decide_eq_true c8
       clear c8
       by_cases c9 : aa < 7
       ·rw [if_pos c9] at H
        have c9b0 : decide (aa < 7) = true := decide_eq_true c9
        clear c9
        by_cases c10 : pk7 ag ah ab ac ad ae af aa = true
        ·rw [if_pos c10] at H
         have c10b0 : pk7 ag ah ab ac ad ae af aa = true := c10
         clear c10
         have H' := Aside0.mk H
         clear H
         have vp357 : (0 ≤ (aa : Int)) = True := eq_true (of_decide_eq_true (by first | (with_reducible assumption) | assumption))
         have vq357 : ((aa : Int) < (7 : Int)) = True := eq_true (of_decide_eq_true (by first | (with_reducible assumption) | assumption))
         have bS : wc.cell? ⟨bN, aa.toNat * 6, none⟩ = some (.bool (pk7 ag ah ab ac ad ae af aa)) := cellA27_0_0 (aa) (of_decide_eq_true (by first | (with_reducible assumption) | assumption)) (of_decide_eq_true (by first | (with_reducible assumption) | assumption)) aU.out
         go_wp2
         go_roundg kj2
         case measure => have := HK1.out; have := HJ2.out; omega
         case rel => exact ⟨(wrap64 (bO + 1)), (wrap64 (aa + 1)), (by first | rfl | (simp; done) | (simp [*]; done)), (by first | rfl | (simp; done) | (simp [*]; done)), H', ⟨by have := HK1.out; have := HJ2.out; omega⟩, ⟨by (with_reducible repeat (first | refine blk_drewN ?_ _ | refine blk_drew ?_ | refine blk_alloc ?_ _)); exact aU.out⟩, ⟨zho HB⟩⟩
        ·rw [if_neg c10] at H
         have c10b0 : pk7 ag ah ab ac ad ae af aa = false := by simpa using c10
         clear c10
         have H' := Aside0.mk H
         clear H
         have vp357 : (0 ≤ (aa : Int)) = True := eq_true (of_decide_eq_true (by first | (with_reducible assumption) | assumption))
         have vq357 : ((aa : Int) < (7 : Int)) = True := eq_true (of_decide_eq_true (by first | (with_reducible assumption) | assumption))
         have bS : wc.cell? ⟨bN, aa.toNat * 6, none⟩ = some (.bool (pk7 ag ah ab ac ad ae af aa)) := cellA27_0_0 (aa) (of_decide_eq_true (by first | (with_reducible assumption) | assumption)) (of_decide_eq_true (by first | (with_reducible assumption) | assumption)) aU.out
         go_wp2
         go_roundg kj2
         case measure => have := HK1.out; have := HJ2.out; omega
         case rel => exact ⟨(bO), (wrap64 (aa + 1)), (by first | rfl | (simp; done) | (simp [*]; done)), (by first | rfl | (simp; done) | (simp [*]; done)), H', ⟨by have := HK1.out; have := HJ2.out; omega⟩, ⟨by (with_reducible repeat (first | refine blk_drewN ?_ _ | refine blk_drew ?_ | refine blk_alloc ?_ _)); exact aU.out⟩, ⟨zho HB⟩⟩
       ·rw [if_neg c9] at H
        exact absurd H (by simp)
      ·rw [if_neg c8] at H
       exact absurd H (by simp)
     ·replace c7 := Bool.eq_false_iff.mpr c7
      subst c7
      have H1 : (some bO) = some r := by rw [if_neg (show ¬ (false = true) by decide)] at H; exact H
      clear H
      have H := H1
      clear H1
      obtain rfl := Option.some.inj H
      go_wp2
      go_ret
      exact ⟨by first | rfl | (simp [errW_none, errW_some] <;> rfl) | (simp [*, errW_none, errW_some] <;> rfl), zho HB⟩

end Go.Proofs.Ytjenkcgjpdappaa.P
