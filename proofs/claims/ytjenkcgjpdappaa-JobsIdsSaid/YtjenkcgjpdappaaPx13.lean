-- Printed by a session's own program (wip/turnprint.py, wip/myprint.sh) over the translation's print. -- slim -- short -- s4
import Derived.Test.YtjenkcgjpdappaaPx0
import Derived.Test.YtjenkcgjpdappaaPx6
namespace Go.Proofs.Ytjenkcgjpdappaa.P
open Go.RowKit Go.Proofs.YtjenkcgjpdappaaW.PrintWords Go.Proofs.YtjenkcgjpdappaaW.PrintLast Go.Proofs.YtjenkcgjpdappaaW.PrintMore
attribute [local go_sem] max2_int min2_int max_two min_two max_three min_three max_four min_four   -- for this text's walks alone
set_option linter.unusedVariables false
set_option linter.unusedSimpArgs false

/-! ### periluneref23_set: function 41 -/
def periluneref23_set.l0 : Nat → Int → Int → Bool → Int → Int → Int → Bool → Int → Bool → Int → Int → Int → Bool → Int → Bool → Int → Int → Int → Bool → Int → Bool → Int → Int → Int → Bool → Int → Bool → Int → Int → Int → Bool → Int → Bool → Int → Int → Int → Bool → Int → Bool → Int → Int → Int → Bool → Int → Int → Option (Int)
 | 0, _, _, _, _, _, _, _, _, _, _, _, _, _, _, _, _, _, _, _, _, _, _, _, _, _, _, _, _, _, _, _, _, _, _, _, _, _, _, _, _, _, _, _, _, _ => none
 | k + 1, x1, x5, bh, bi, bv, bw, bx, bz, bj, bk, bA, bB, bC, bD, bl, bm, bE, bF, bG, bH, bn, bo, bI, bJ, bK, bL, bp, bq, bM, bN, bO, bP, br, bs, bQ, bR, bS, bT, bt, bu, bU, bV, bW, bX, bY => if x5 < 7 then (if 0 ≤ x5 then (if pk7 bh bj bl bn bp br bt x5 = true then (if (pk7 bi bk bm bo bq bs bu x5) = x1 then (some x5) else (periluneref23_set.l0 k x1 (wrap64 (x5 + 1)) bh bi bv bw bx bz bj bk bA bB bC bD bl bm bE bF bG bH bn bo bI bJ bK bL bp bq bM bN bO bP br bs bQ bR bS bT bt bu bU bV bW bX bY)) else (periluneref23_set.l0 k x1 (wrap64 (x5 + 1)) bh bi bv bw bx bz bj bk bA bB bC bD bl bm bE bF bG bH bn bo bI bJ bK bL bp bq bM bN bO bP br bs bQ bR bS bT bt bu bU bV bW bX bY)) else (none)) else (some (-1))
def periluneref23_set.f (k : Nat) (aL : Bool) (aJ : Int) (aP : Int) (aQ : Int) (aR : Bool) (aS : Int) (aM : Bool) (aK : Int) (aT : Int) (aU : Int) (al : Bool) (am : Int) (af : Bool) (aa : Int) (an : Int) (ao : Int) (ap : Bool) (aq : Int) (ag : Bool) (ab : Int) (ar : Int) (au : Int) (av : Bool) (aw : Int) (ah : Bool) (ac : Int) (ax : Int) (ay : Int) (az : Bool) (aA : Int) (ai : Bool) (ad : Int) (aB : Int) (aC : Int) (aD : Bool) (aE : Int) (aj : Bool) (ae : Int) (aF : Int) (aG : Int) (aH : Bool) (aI : Int) (aO : Int) (a1 : Int) : Option (Int) := periluneref23_set.l0 k a1 0 aL aJ aP aQ aR aS aM aK aT aU al am af aa an ao ap aq ag ab ar au av aw ah ac ax ay az aA ai ad aB aC aD aE aj ae aF aG aH aI aO
theorem periluneref23_set.mono_l : ∀ k, (∀ y0 y1 y2 y3 y4 y5 y6 y7 y8 y9 y10 y11 y12 y13 y14 y15 y16 y17 y18 y19 y20 y21 y22 y23 y24 y25 y26 y27 y28 y29 y30 y31 y32 y33 y34 y35 y36 y37 y38 y39 y40 y41 y42 y43 y44, LeO (periluneref23_set.l0 k y0 y1 y2 y3 y4 y5 y6 y7 y8 y9 y10 y11 y12 y13 y14 y15 y16 y17 y18 y19 y20 y21 y22 y23 y24 y25 y26 y27 y28 y29 y30 y31 y32 y33 y34 y35 y36 y37 y38 y39 y40 y41 y42 y43 y44) (periluneref23_set.l0 (k + 1) y0 y1 y2 y3 y4 y5 y6 y7 y8 y9 y10 y11 y12 y13 y14 y15 y16 y17 y18 y19 y20 y21 y22 y23 y24 y25 y26 y27 y28 y29 y30 y31 y32 y33 y34 y35 y36 y37 y38 y39 y40 y41 y42 y43 y44))
 | 0 => fun _ _ _ _ _ _ _ _ _ _ _ _ _ _ _ _ _ _ _ _ _ _ _ _ _ _ _ _ _ _ _ _ _ _ _ _ _ _ _ _ _ _ _ _ _ r h => by simp [periluneref23_set.l0] at h
 | k + 1 => by
  have ih0 := periluneref23_set.mono_l k
  ·intro y0 y1 y2 y3 y4 y5 y6 y7 y8 y9 y10 y11 y12 y13 y14 y15 y16 y17 y18 y19 y20 y21 y22 y23 y24 y25 y26 y27 y28 y29 y30 y31 y32 y33 y34 y35 y36 y37 y38 y39 y40 y41 y42 y43 y44
   unfold periluneref23_set.l0
   repeat' first
   | (with_reducible exact ih0 _ _ _ _ _ _ _ _ _ _ _ _ _ _ _ _ _ _ _ _ _ _ _ _ _ _ _ _ _ _ _ _ _ _ _ _ _ _ _ _ _ _ _ _ _)
   | (with_reducible exact LeO.refl _)
   | (with_reducible exact LeO.none _)
   | (with_reducible refine LeO.ite ?_ ?_)
   | (with_reducible refine LeO.bind ?_ (fun _ => ?_))
   | exact ih0 _ _ _ _ _ _ _ _ _ _ _ _ _ _ _ _ _ _ _ _ _ _ _ _ _ _ _ _ _ _ _ _ _ _ _ _ _ _ _ _ _ _ _ _ _
   | exact LeO.none _
   | refine LeO.ite ?_ ?_
   | refine LeO.bind ?_ (fun _ => ?_)
theorem periluneref23_set.mono : ∀ a0 a1 a2 a3 a4 a5 a6 a7 a8 a9 a10 a11 a12 a13 a14 a15 a16 a17 a18 a19 a20 a21 a22 a23 a24 a25 a26 a27 a28 a29 a30 a31 a32 a33 a34 a35 a36 a37 a38 a39 a40 a41 a42 a43 k, LeO (periluneref23_set.f k a0 a1 a2 a3 a4 a5 a6 a7 a8 a9 a10 a11 a12 a13 a14 a15 a16 a17 a18 a19 a20 a21 a22 a23 a24 a25 a26 a27 a28 a29 a30 a31 a32 a33 a34 a35 a36 a37 a38 a39 a40 a41 a42 a43) (periluneref23_set.f (k + 1) a0 a1 a2 a3 a4 a5 a6 a7 a8 a9 a10 a11 a12 a13 a14 a15 a16 a17 a18 a19 a20 a21 a22 a23 a24 a25 a26 a27 a28 a29 a30 a31 a32 a33 a34 a35 a36 a37 a38 a39 a40 a41 a42 a43) := by
 intro a0 a1 a2 a3 a4 a5 a6 a7 a8 a9 a10 a11 a12 a13 a14 a15 a16 a17 a18 a19 a20 a21 a22 a23 a24 a25 a26 a27 a28 a29 a30 a31 a32 a33 a34 a35 a36 a37 a38 a39 a40 a41 a42 a43 k
 have ih0 := periluneref23_set.mono_l k
 unfold periluneref23_set.f
 repeat' first
   | (with_reducible exact ih0 _ _ _ _ _ _ _ _ _ _ _ _ _ _ _ _ _ _ _ _ _ _ _ _ _ _ _ _ _ _ _ _ _ _ _ _ _ _ _ _ _ _ _ _ _)
   | (with_reducible exact LeO.refl _)
   | (with_reducible exact LeO.none _)
   | (with_reducible refine LeO.ite ?_ ?_)
   | (with_reducible refine LeO.bind ?_ (fun _ => ?_))
   | exact ih0 _ _ _ _ _ _ _ _ _ _ _ _ _ _ _ _ _ _ _ _ _ _ _ _ _ _ _ _ _ _ _ _ _ _ _ _ _ _ _ _ _ _ _ _ _
   | exact LeO.none _
   | refine LeO.ite ?_ ?_
   | refine LeO.bind ?_ (fun _ => ?_)
set_option maxHeartbeats 8000000 in
set_option maxRecDepth 100000 in
theorem periluneref23_set.calls (k : Nat) (aL : Bool) (aJ : Int) (aP : Int) (aQ : Int) (aR : Bool) (aS : Int) (aM : Bool) (aK : Int) (aT : Int) (aU : Int) (al : Bool) (am : Int) (af : Bool) (aa : Int) (an : Int) (ao : Int) (ap : Bool) (aq : Int) (ag : Bool) (ab : Int) (ar : Int) (au : Int) (av : Bool) (aw : Int) (ah : Bool) (ac : Int) (ax : Int) (ay : Int) (az : Bool) (aA : Int) (ai : Bool) (ad : Int) (aB : Int) (aC : Int) (aD : Bool) (aE : Int) (aj : Bool) (ae : Int) (aF : Int) (aG : Int) (aH : Bool) (aI : Int) (aO : Int) (a1 : Int) (r : Int) (w : World) (h : periluneref23_set.f k aL aJ aP aQ aR aS aM aK aT aU al am af aa an ao ap aq ag ab ar au av aw ah ac ax ay az aA ai ad aB aC aD aE aj ae aF aG aH aI aO a1 = some r) :
  Calls Try.prog 41 #[.agg #[.bool aL, .int .i64 aJ, .int .i64 aP, .int .i64 aQ, .bool aR, .int .i64 aS, .bool aM, .int .i64 aK, .int .i64 aT, .int .i64 aU, .bool al, .int .i64 am, .bool af, .int .i64 aa, .int .i64 an, .int .i64 ao, .bool ap, .int .i64 aq, .bool ag, .int .i64 ab, .int .i64 ar, .int .i64 au, .bool av, .int .i64 aw, .bool ah, .int .i64 ac, .int .i64 ax, .int .i64 ay, .bool az, .int .i64 aA, .bool ai, .int .i64 ad, .int .i64 aB, .int .i64 aC, .bool aD, .int .i64 aE, .bool aj, .int .i64 ae, .int .i64 aF, .int .i64 aG, .bool aH, .int .i64 aI, .int .i64 aO], .int .i64 a1] w fun e w' => e = .returned (.int .i64 r) ∧ Below w.heap.size w w' := by
 have hu27 := Try.underlying27
 have hu25 := Try.underlying25
 have HB := Aside0.mk (Below.refl w.heap.size w)
 have H := h
 unfold periluneref23_set.f at H
 clear h
 have H' := Aside0.mk H
 clear H
 go_enter Try.func41, Try.ntmps41
 go_wp2_with (first | ((with_reducible refine gate_dst (N := 2) rfl ?_); refine box_event ?hg (N := 2) ?hd (cs := Jt aL aJ aP aQ aR aS aM aK aT aU al am af aa an ao ap aq ag ab ar au av aw ah ac ax ay az aA ai ad aB aC aD aE aj ae aF aG aH aI aO) (t := 27) ?hr ?_; (case hd => rfl); (case hg => rfl); (case hr => first | (go_simp; done) | (go_simp; rfl)); intro bd hg w3 hbox hb; have bc := Aside0.mk hbox; have GW309 := zhs HB hg; have bg := zhs HB hg; replace HB := zhB HB hb; clear hb hbox hg))
 go_loopg [5] k (fun kq v5 w' => ∃ (aN : Int), v5 = .int .i64 aN ∧ Aside0 (periluneref23_set.l0 kq a1 aN aL aJ aP aQ aR aS aM aK aT aU al am af aa an ao ap aq ag ab ar au av aw ah ac ax ay az aA ai ad aB aC aD aE aj ae aF aG aH aI aO = some r) ∧ Aside0 (kq ≤ k) ∧ Aside0 (w'.heap[bd]? = some (.cells (Jt aL aJ aP aQ aR aS aM aK aT aU al am af aa an ao ap aq ag ab ar au av aw ah ac ax ay az aA ai ad aB aC aD aE aj ae aF aG aH aI aO) 27 (0, 0))) ∧ Aside0 (Below w.heap.size w w'))
 case atStart => exact ⟨(0), (by first | rfl | (simp; done) | (simp [*]; done)), H', ⟨Nat.le_refl _⟩, ⟨by (with_reducible repeat (first | refine blk_drewN ?_ _ | refine blk_drew ?_ | refine blk_alloc ?_ _)); exact bc.out⟩, ⟨zho HB⟩⟩
 case round =>
  clear H'
  try clear p2
  obtain ⟨aN, rfl, HA, HK1, bc, HB⟩ := hrel
  cases gk with
  | zero => exact absurd HA.out (by simp [periluneref23_set.l0])
  | succ k1 =>
   have H := HA.out
   clear HA
   simp only [periluneref23_set.l0] at H
   by_cases c4 : aN < 7
   ·rw [if_pos c4] at H
    have c4b0 : decide (aN < 7) = true := decide_eq_true c4
    clear c4
    by_cases c5 : 0 ≤ aN
    ·rw [if_pos c5] at H
     have c5b0 : decide (0 ≤ aN) = true := decide_eq_true c5
     clear c5
     by_cases c6 : pk7 aL aM af ag ah ai aj aN = true
     ·rw [if_pos c6] at H
      have c6b0 : pk7 aL aM af ag ah ai aj aN = true := c6
      clear c6
      by_cases c7 : (pk7 aJ aK aa ab ac ad ae aN) = a1
      ·rw [if_pos c7] at H
       have c7b0 : ((pk7 aJ aK aa ab ac ad ae aN) == a1) = true := beq_iff_eq.mpr c7
       have c7b1 : ((pk7 aJ aK aa ab ac ad ae aN) != a1) = false := bne_eq_false_iff_eq.mpr c7
       clear c7
       obtain rfl := Option.some.inj H
       have vp310 : (0 ≤ (aN : Int)) = True := eq_true (of_decide_eq_true (by assumption))
       have vq310 : ((aN : Int) < (7 : Int)) = True := eq_true (of_decide_eq_true (by assumption))
       have bZ : wr.cell? ⟨bd, aN.toNat * 6, none⟩ = some (.bool (pk7 aL aM af ag ah ai aj aN)) := cellA27_0_0 (aN) (of_decide_eq_true (by assumption)) (of_decide_eq_true (by assumption)) bc.out
       have vp312 : (0 ≤ (aN : Int)) = True := eq_true (of_decide_eq_true (by assumption))
       have vq312 : ((aN : Int) < (7 : Int)) = True := eq_true (of_decide_eq_true (by assumption))
       have b7 : wr.cell? ⟨bd, aN.toNat * 6 + 1, none⟩ = some (.int .i64 (pk7 aJ aK aa ab ac ad ae aN)) := cellA27_0_1 (aN) (of_decide_eq_true (by assumption)) (of_decide_eq_true (by assumption)) bc.out
       go_wp2
       go_ret
       exact ⟨by first | rfl | (simp [errW_none, errW_some] <;> rfl) | (simp [*, errW_none, errW_some] <;> rfl), zho HB⟩
      ·rw [if_neg c7] at H
       have c7b0 : ((pk7 aJ aK aa ab ac ad ae aN) == a1) = false := beq_eq_false_iff_ne.mpr c7
       have c7b1 : ((pk7 aJ aK aa ab ac ad ae aN) != a1) = true := bne_iff_ne.mpr c7
       have H' := Aside0.mk H
       clear H
       have vp310 : (0 ≤ (aN : Int)) = True := eq_true (of_decide_eq_true (by assumption))
       have vq310 : ((aN : Int) < (7 : Int)) = True := eq_true (of_decide_eq_true (by assumption))
       have bZ : wr.cell? ⟨bd, aN.toNat * 6, none⟩ = some (.bool (pk7 aL aM af ag ah ai aj aN)) := cellA27_0_0 (aN) (of_decide_eq_true (by assumption)) (of_decide_eq_true (by assumption)) bc.out
       have vp312 : (0 ≤ (aN : Int)) = True := eq_true (of_decide_eq_true (by assumption))
       have vq312 : ((aN : Int) < (7 : Int)) = True := eq_true (of_decide_eq_true (by assumption))
       have b7 : wr.cell? ⟨bd, aN.toNat * 6 + 1, none⟩ = some (.int .i64 (pk7 aJ aK aa ab ac ad ae aN)) := cellA27_0_1 (aN) (of_decide_eq_true (by assumption)) (of_decide_eq_true (by assumption)) bc.out
       go_wp2
       go_roundg k1
       case measure => have := HK1.out; omega
       case rel => exact ⟨(wrap64 (aN + 1)), (by first | rfl | (simp; done) | (simp [*]; done)), H', ⟨by have := HK1.out; omega⟩, ⟨by (with_reducible repeat (first | refine blk_drewN ?_ _ | refine blk_drew ?_ | refine blk_alloc ?_ _)); exact bc.out⟩, ⟨zho HB⟩⟩
     ·rw [if_neg c6] at H
      have c6b0 : pk7 aL aM af ag ah ai aj aN = false := by simpa using c6
      clear c6
      have H' := Aside0.mk H
      clear H
      have vp310 : (0 ≤ (aN : Int)) = True := eq_true (of_decide_eq_true (by assumption))
      have vq310 : ((aN : Int) < (7 : Int)) = True := eq_true (of_decide_eq_true (by assumption))
      have bZ : wr.cell? ⟨bd, aN.toNat * 6, none⟩ = some (.bool (pk7 aL aM af ag ah ai aj aN)) := cellA27_0_0 (aN) (of_decide_eq_true (by assumption)) (of_decide_eq_true (by assumption)) bc.out
      go_wp2
      go_roundg k1
      case measure => have := HK1.out; omega
      case rel => exact ⟨(wrap64 (aN + 1)), (by first | rfl | (simp; done) | (simp [*]; done)), H', ⟨by have := HK1.out; omega⟩, ⟨by (with_reducible repeat (first | refine blk_drewN ?_ _ | refine blk_drew ?_ | refine blk_alloc ?_ _)); exact bc.out⟩, ⟨zho HB⟩⟩
    ·rw [if_neg c5] at H
     exact absurd H (by simp)
   ·rw [if_neg c4] at H
    have c4b0 : decide (aN < 7) = false := decide_eq_false c4
    clear c4
    obtain rfl := Option.some.inj H
    go_wp2
    go_ret
    exact ⟨by first | rfl | (simp [errW_none, errW_some] <;> rfl) | (simp [*, errW_none, errW_some] <;> rfl), zho HB⟩

end Go.Proofs.Ytjenkcgjpdappaa.P
