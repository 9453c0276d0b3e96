-- Printed by a session's own program (wip/turnprint.py, wip/myprint.sh) over the translation's print. -- slim -- short -- s4
import Derived.Test.YtjenkcgjpdappaaPx0
import Derived.Test.YtjenkcgjpdappaaPx6
namespace Go.Proofs.Ytjenkcgjpdappaa.P
open Go.RowKit Go.Proofs.YtjenkcgjpdappaaW.PrintWords Go.Proofs.YtjenkcgjpdappaaW.PrintLast Go.Proofs.YtjenkcgjpdappaaW.PrintMore
attribute [local go_sem] max2_int min2_int max_two min_two max_three min_three max_four min_four   -- for this text's walks alone
set_option linter.unusedVariables false
set_option linter.unusedSimpArgs false

/-! ### jobs_SetPriority: function 36 -/
def jobs_SetPriority.j0 : Nat → Int → Int → Bool → Bool → Int → Int → Int → Bool → Int → Bool → Int → Int → Int → Bool → Int → Bool → Int → Int → Int → Bool → Int → Bool → Int → Int → Int → Bool → Int → Bool → Int → Int → Int → Bool → Int → Bool → Int → Int → Int → Bool → Int → Bool → Int → Int → Int → Bool → Int → Int → Option (Bool × Int × Int × Int × Bool × Int × Bool × Int × Int × Int × Bool × Int × Bool × Int × Int × Int × Bool × Int × Bool × Int × Int × Int × Bool × Int × Bool × Int × Int × Int × Bool × Int × Bool × Int × Int × Int × Bool × Int × Bool × Int × Int × Int × Bool × Int × Int × Int)
 | 0, _, _, _, _, _, _, _, _, _, _, _, _, _, _, _, _, _, _, _, _, _, _, _, _, _, _, _, _, _, _, _, _, _, _, _, _, _, _, _, _, _, _, _, _, _, _ => none
 | k + 1, x1, x2, x15, be, bf, bg, bh, bi, bj, bk, bl, bm, bn, bo, bp, bq, br, bs, bt, bu, bv, bw, bx, bz, bA, bB, bC, bD, bE, bF, bG, bH, bI, bJ, bK, bL, bM, bN, bO, bP, bQ, bR, bS, bT, bU, bV => if x15 = true then (some (false, 0, 0, 0, false, 0, false, 0, 0, 0, false, 0, false, 0, 0, 0, false, 0, false, 0, 0, 0, false, 0, false, 0, 0, 0, false, 0, false, 0, 0, 0, false, 0, false, 0, 0, 0, false, 0, 0, 2)) else ((jobs_find.f k be bf bg bh bi bj bk bl bm bn bo bp bq br bs bt bu bv bw bx bz bA bB bC bD bE bF bG bH bI bJ bK bL bM bN bO bP bQ bR bS bT bU bV x1).bind fun aW => (if aW.2 = 0 then (if 0 ≤ aW.1 then (if aW.1 < 7 then (some (be, bf, pt 0 aW.1 x2 bg, bh, bi, bj, bk, bl, pt 1 aW.1 x2 bm, bn, bo, bp, bq, br, pt 2 aW.1 x2 bs, bt, bu, bv, bw, bx, pt 3 aW.1 x2 bz, bA, bB, bC, bD, bE, pt 4 aW.1 x2 bF, bG, bH, bI, bJ, bK, pt 5 aW.1 x2 bL, bM, bN, bO, bP, bQ, pt 6 aW.1 x2 bR, bS, bT, bU, bV, 0)) else (none)) else (none)) else (some (false, 0, 0, 0, false, 0, false, 0, 0, 0, false, 0, false, 0, 0, 0, false, 0, false, 0, 0, 0, false, 0, false, 0, 0, 0, false, 0, false, 0, 0, 0, false, 0, false, 0, 0, 0, false, 0, 0, aW.2))))
def jobs_SetPriority.f (k : Nat) (aL : Bool) (aM : Int) (aN : Int) (aO : Int) (aP : Bool) (aQ : Int) (aR : Bool) (aS : Int) (aT : Int) (aU : Int) (ab : Bool) (ac : Int) (ad : Bool) (ae : Int) (af : Int) (ag : Int) (ah : Bool) (ai : Int) (aj : Bool) (ak : Int) (al : Int) (am : Int) (an : Bool) (ao : Int) (ap : Bool) (aq : Int) (ar : Int) (au : Int) (av : Bool) (aw : Int) (ax : Bool) (ay : Int) (az : Int) (aA : Int) (aB : Bool) (aC : Int) (aD : Bool) (aE : Int) (aF : Int) (aG : Int) (aH : Bool) (aI : Int) (aJ : Int) (a1 : Int) (a2 : Int) : Option (Bool × Int × Int × Int × Bool × Int × Bool × Int × Int × Int × Bool × Int × Bool × Int × Int × Int × Bool × Int × Bool × Int × Int × Int × Bool × Int × Bool × Int × Int × Int × Bool × Int × Bool × Int × Int × Int × Bool × Int × Bool × Int × Int × Int × Bool × Int × Int × Int) := if a2 < 1 then (jobs_SetPriority.j0 k a1 a2 true aL aM aN aO aP aQ aR aS aT aU ab ac ad ae af ag ah ai aj ak al am an ao ap aq ar au av aw ax ay az aA aB aC aD aE aF aG aH aI aJ) else (jobs_SetPriority.j0 k a1 a2 (decide (a2 > 63)) aL aM aN aO aP aQ aR aS aT aU ab ac ad ae af ag ah ai aj ak al am an ao ap aq ar au av aw ax ay az aA aB aC aD aE aF aG aH aI aJ)
theorem jobs_SetPriority.mono_l : ∀ k, (∀ y0 y1 y2 y3 y4 y5 y6 y7 y8 y9 y10 y11 y12 y13 y14 y15 y16 y17 y18 y19 y20 y21 y22 y23 y24 y25 y26 y27 y28 y29 y30 y31 y32 y33 y34 y35 y36 y37 y38 y39 y40 y41 y42 y43 y44 y45, LeO (jobs_SetPriority.j0 k y0 y1 y2 y3 y4 y5 y6 y7 y8 y9 y10 y11 y12 y13 y14 y15 y16 y17 y18 y19 y20 y21 y22 y23 y24 y25 y26 y27 y28 y29 y30 y31 y32 y33 y34 y35 y36 y37 y38 y39 y40 y41 y42 y43 y44 y45) (jobs_SetPriority.j0 (k + 1) y0 y1 y2 y3 y4 y5 y6 y7 y8 y9 y10 y11 y12 y13 y14 y15 y16 y17 y18 y19 y20 y21 y22 y23 y24 y25 y26 y27 y28 y29 y30 y31 y32 y33 y34 y35 y36 y37 y38 y39 y40 y41 y42 y43 y44 y45))
 | 0 => fun _ _ _ _ _ _ _ _ _ _ _ _ _ _ _ _ _ _ _ _ _ _ _ _ _ _ _ _ _ _ _ _ _ _ _ _ _ _ _ _ _ _ _ _ _ _ r h => by simp [jobs_SetPriority.j0] at h
 | k + 1 => by
  have ih0 := jobs_SetPriority.mono_l k
  ·intro y0 y1 y2 y3 y4 y5 y6 y7 y8 y9 y10 y11 y12 y13 y14 y15 y16 y17 y18 y19 y20 y21 y22 y23 y24 y25 y26 y27 y28 y29 y30 y31 y32 y33 y34 y35 y36 y37 y38 y39 y40 y41 y42 y43 y44 y45
   unfold jobs_SetPriority.j0
   repeat' first
   | (with_reducible exact ih0 _ _ _ _ _ _ _ _ _ _ _ _ _ _ _ _ _ _ _ _ _ _ _ _ _ _ _ _ _ _ _ _ _ _ _ _ _ _ _ _ _ _ _ _ _ _)
   | (with_reducible apply jobs_find.mono)
   | (with_reducible exact LeO.refl _)
   | (with_reducible exact LeO.none _)
   | (with_reducible refine LeO.ite ?_ ?_)
   | (with_reducible refine LeO.bind ?_ (fun _ => ?_))
   | exact ih0 _ _ _ _ _ _ _ _ _ _ _ _ _ _ _ _ _ _ _ _ _ _ _ _ _ _ _ _ _ _ _ _ _ _ _ _ _ _ _ _ _ _ _ _ _ _
   | apply jobs_find.mono
   | exact LeO.none _
   | refine LeO.ite ?_ ?_
   | refine LeO.bind ?_ (fun _ => ?_)
theorem jobs_SetPriority.mono : ∀ a0 a1 a2 a3 a4 a5 a6 a7 a8 a9 a10 a11 a12 a13 a14 a15 a16 a17 a18 a19 a20 a21 a22 a23 a24 a25 a26 a27 a28 a29 a30 a31 a32 a33 a34 a35 a36 a37 a38 a39 a40 a41 a42 a43 a44 k, LeO (jobs_SetPriority.f k a0 a1 a2 a3 a4 a5 a6 a7 a8 a9 a10 a11 a12 a13 a14 a15 a16 a17 a18 a19 a20 a21 a22 a23 a24 a25 a26 a27 a28 a29 a30 a31 a32 a33 a34 a35 a36 a37 a38 a39 a40 a41 a42 a43 a44) (jobs_SetPriority.f (k + 1) a0 a1 a2 a3 a4 a5 a6 a7 a8 a9 a10 a11 a12 a13 a14 a15 a16 a17 a18 a19 a20 a21 a22 a23 a24 a25 a26 a27 a28 a29 a30 a31 a32 a33 a34 a35 a36 a37 a38 a39 a40 a41 a42 a43 a44) := by
 intro a0 a1 a2 a3 a4 a5 a6 a7 a8 a9 a10 a11 a12 a13 a14 a15 a16 a17 a18 a19 a20 a21 a22 a23 a24 a25 a26 a27 a28 a29 a30 a31 a32 a33 a34 a35 a36 a37 a38 a39 a40 a41 a42 a43 a44 k
 have ih0 := jobs_SetPriority.mono_l k
 unfold jobs_SetPriority.f
 repeat' first
   | (with_reducible exact ih0 _ _ _ _ _ _ _ _ _ _ _ _ _ _ _ _ _ _ _ _ _ _ _ _ _ _ _ _ _ _ _ _ _ _ _ _ _ _ _ _ _ _ _ _ _ _)
   | (with_reducible apply jobs_find.mono)
   | (with_reducible exact LeO.refl _)
   | (with_reducible exact LeO.none _)
   | (with_reducible refine LeO.ite ?_ ?_)
   | (with_reducible refine LeO.bind ?_ (fun _ => ?_))
   | exact ih0 _ _ _ _ _ _ _ _ _ _ _ _ _ _ _ _ _ _ _ _ _ _ _ _ _ _ _ _ _ _ _ _ _ _ _ _ _ _ _ _ _ _ _ _ _ _
   | apply jobs_find.mono
   | exact LeO.none _
   | refine LeO.ite ?_ ?_
   | refine LeO.bind ?_ (fun _ => ?_)
set_option maxHeartbeats 8000000 in
set_option maxRecDepth 100000 in
theorem jobs_SetPriority.calls (k : Nat) (aL : Bool) (aM : Int) (aN : Int) (aO : Int) (aP : Bool) (aQ : Int) (aR : Bool) (aS : Int) (aT : Int) (aU : Int) (ab : Bool) (ac : Int) (ad : Bool) (ae : Int) (af : Int) (ag : Int) (ah : Bool) (ai : Int) (aj : Bool) (ak : Int) (al : Int) (am : Int) (an : Bool) (ao : Int) (ap : Bool) (aq : Int) (ar : Int) (au : Int) (av : Bool) (aw : Int) (ax : Bool) (ay : Int) (az : Int) (aA : Int) (aB : Bool) (aC : Int) (aD : Bool) (aE : Int) (aF : Int) (aG : Int) (aH : Bool) (aI : Int) (aJ : Int) (a1 : Int) (a2 : Int) (r1 : Bool) (r2 : Int) (r3 : Int) (r4 : Int) (r5 : Bool) (r6 : Int) (r7 : Bool) (r8 : Int) (r9 : Int) (r10 : Int) (r11 : Bool) (r12 : Int) (r13 : Bool) (r14 : Int) (r15 : Int) (r16 : Int) (r17 : Bool) (r18 : Int) (r19 : Bool) (r20 : Int) (r21 : Int) (r22 : Int) (r23 : Bool) (r24 : Int) (r25 : Bool) (r26 : Int) (r27 : Int) (r28 : Int) (r29 : Bool) (r30 : Int) (r31 : Bool) (r32 : Int) (r33 : Int) (r34 : Int) (r35 : Bool) (r36 : Int) (r37 : Bool) (r38 : Int) (r39 : Int) (r40 : Int) (r41 : Bool) (r42 : Int) (r43 : Int) (r44 : Int) (w : World) (h : jobs_SetPriority.f k aL aM aN aO aP aQ aR aS aT aU ab ac ad ae af ag ah ai aj ak al am an ao ap aq ar au av aw ax ay az aA aB aC aD aE aF aG aH aI aJ a1 a2 = some (r1, r2, r3, r4, r5, r6, r7, r8, r9, r10, r11, r12, r13, r14, r15, r16, r17, r18, r19, r20, r21, r22, r23, r24, r25, r26, r27, r28, r29, r30, r31, r32, r33, r34, r35, r36, r37, r38, r39, r40, r41, r42, r43, r44)) :
  Calls Try.prog 36 #[.agg #[.bool aL, .int .i64 aM, .int .i64 aN, .int .i64 aO, .bool aP, .int .i64 aQ, .bool aR, .int .i64 aS, .int .i64 aT, .int .i64 aU, .bool ab, .int .i64 ac, .bool ad, .int .i64 ae, .int .i64 af, .int .i64 ag, .bool ah, .int .i64 ai, .bool aj, .int .i64 ak, .int .i64 al, .int .i64 am, .bool an, .int .i64 ao, .bool ap, .int .i64 aq, .int .i64 ar, .int .i64 au, .bool av, .int .i64 aw, .bool ax, .int .i64 ay, .int .i64 az, .int .i64 aA, .bool aB, .int .i64 aC, .bool aD, .int .i64 aE, .int .i64 aF, .int .i64 aG, .bool aH, .int .i64 aI, .int .i64 aJ], .int .i64 a1, .int .i64 a2] w fun e w' => e = .returned (.tuple #[.agg #[.bool r1, .int .i64 r2, .int .i64 r3, .int .i64 r4, .bool r5, .int .i64 r6, .bool r7, .int .i64 r8, .int .i64 r9, .int .i64 r10, .bool r11, .int .i64 r12, .bool r13, .int .i64 r14, .int .i64 r15, .int .i64 r16, .bool r17, .int .i64 r18, .bool r19, .int .i64 r20, .int .i64 r21, .int .i64 r22, .bool r23, .int .i64 r24, .bool r25, .int .i64 r26, .int .i64 r27, .int .i64 r28, .bool r29, .int .i64 r30, .bool r31, .int .i64 r32, .int .i64 r33, .int .i64 r34, .bool r35, .int .i64 r36, .bool r37, .int .i64 r38, .int .i64 r39, .int .i64 r40, .bool r41, .int .i64 r42, .int .i64 r43], .int .i64 r44]) ∧ Below w.heap.size w w' := by
 have hu27 := Try.underlying27
 have hu25 := Try.underlying25
 have HB := Aside0.mk (Below.refl w.heap.size w)
 have H := h
 unfold jobs_SetPriority.f at H
 clear h
 have HC4 := Aside0.mk H
 clear H
 go_enter Try.func36, Try.ntmps36
 go_upto_region 1 with (first | ((with_reducible refine gate_dst (N := 3) rfl ?_); refine box_event ?hg (N := 3) ?hd (cs := Jt aL aM aN aO aP aQ aR aS aT aU ab ac ad ae af ag ah ai aj ak al am an ao ap aq ar au av aw ax ay az aA aB aC aD aE aF aG aH aI aJ) (t := 27) ?hr ?_; (case hd => rfl); (case hg => rfl); (case hr => first | (go_simp; done) | (go_simp; rfl)); intro aX hg w5 hbox hb; have aK := Aside0.mk hbox; have GW699 := zhs HB hg; have aY := zhs HB hg; replace HB := zhB HB hb; clear hb hbox hg) | ((with_reducible refine gate_dst (N := 6) rfl ?_); refine box_event ?hg (N := 6) ?hd (cs := Jt false 0 0 0 false 0 false 0 0 0 false 0 false 0 0 0 false 0 false 0 0 0 false 0 false 0 0 0 false 0 false 0 0 0 false 0 false 0 0 0 false 0 0) (t := 27) ?hr ?_; (case hd => rfl); (case hg => rfl); (case hr => first | (go_simp; done) | (go_simp; rfl)); intro aZ hg w6 hbox hb; have aV := Aside0.mk hbox; have GW700 := zhs HB hg; have ba := zhs HB hg; have bc := znl aK hg; have bW := zng aK hg; replace aK := zbB aK hb; replace HB := zhB HB hb; clear hb hbox hg))
 (try simp only [Act.put, List.setIfInBounds_toArray, List.set_cons_zero, List.set_cons_succ])
 go_cut [15] (fun v15 wc => ∃ (kq : Nat) (bd : Bool), v15 = .bool bd ∧ Aside0 (jobs_SetPriority.j0 kq a1 a2 bd aL aM aN aO aP aQ aR aS aT aU ab ac ad ae af ag ah ai aj ak al am an ao ap aq ar au av aw ax ay az aA aB aC aD aE aF aG aH aI aJ = some (r1, r2, r3, r4, r5, r6, r7, r8, r9, r10, r11, r12, r13, r14, r15, r16, r17, r18, r19, r20, r21, r22, r23, r24, r25, r26, r27, r28, r29, r30, r31, r32, r33, r34, r35, r36, r37, r38, r39, r40, r41, r42, r43, r44)) ∧ Aside0 (kq ≤ k) ∧ Aside0 (wc.heap[aX]? = some (.cells (Jt aL aM aN aO aP aQ aR aS aT aU ab ac ad ae af ag ah ai aj ak al am an ao ap aq ar au av aw ax ay az aA aB aC aD aE aF aG aH aI aJ) 27 (0, 0))) ∧ Aside0 (wc.heap[aZ]? = some (.cells (Jt false 0 0 0 false 0 false 0 0 0 false 0 false 0 0 0 false 0 false 0 0 0 false 0 false 0 0 0 false 0 false 0 0 0 false 0 false 0 0 0 false 0 0) 27 (0, 0))) ∧ Aside0 (Below w.heap.size w wc))
 case first =>
  have H := HC4.out
  clear HC4
  by_cases c7 : a2 < 1
  ·rw [if_pos c7] at H
   have c7b0 : decide (a2 < 1) = true := decide_eq_true c7
   clear c7
   (first | rw [c7b0] | (simp only [i64_w, i32_w]; rw [c7b0]) | rw [c7b1] | skip)
   have H' := Aside0.mk H
   clear H
   go_wp2
   go_meet
   case rel => exact ⟨_, (true), (by first | rfl | (simp; done) | (simp [*]; done)), H', ⟨by first | omega | exact Nat.le_refl _⟩, ⟨by (with_reducible repeat (first | refine blk_drewN ?_ _ | refine blk_drew ?_ | refine blk_alloc ?_ _)); exact aK.out⟩, ⟨by (with_reducible repeat (first | refine blk_drewN ?_ _ | refine blk_drew ?_ | refine blk_alloc ?_ _)); exact aV.out⟩, ⟨zho HB⟩⟩
  ·rw [if_neg c7] at H
   have c7b0 : decide (a2 < 1) = false := decide_eq_false c7
   clear c7
   (first | rw [c7b0] | (simp only [i64_w, i32_w]; rw [c7b0]) | rw [c7b1] | skip)
   have H' := Aside0.mk H
   clear H
   go_wp2
   go_meet
   case rel => exact ⟨_, (decide (a2 > 63)), (by first | rfl | (simp; done) | (simp [*]; done)), H', ⟨by first | omega | exact Nat.le_refl _⟩, ⟨by (with_reducible repeat (first | refine blk_drewN ?_ _ | refine blk_drew ?_ | refine blk_alloc ?_ _)); exact aK.out⟩, ⟨by (with_reducible repeat (first | refine blk_drewN ?_ _ | refine blk_drew ?_ | refine blk_alloc ?_ _)); exact aV.out⟩, ⟨zho HB⟩⟩
 case rest =>
  clear HC4
  try clear p2 c3 c7 c7b0 c7b1
  obtain ⟨kq, bd, rfl, HA, HJ3, aK, aV, HB⟩ := hcut
  cases kq with
  | zero => exact absurd HA.out (by simp [jobs_SetPriority.j0])
  | succ kj3 =>
   have H := HA.out
   clear HA
   simp only [jobs_SetPriority.j0] at H
   by_cases c8 : bd = true
   ·subst c8
    have H1 : (some (false, 0, 0, 0, false, 0, false, 0, 0, 0, false, 0, false, 0, 0, 0, false, 0, false, 0, 0, 0, false, 0, false, 0, 0, 0, false, 0, false, 0, 0, 0, false, 0, false, 0, 0, 0, false, 0, 0, 2)) = some (r1, r2, r3, r4, r5, r6, r7, r8, r9, r10, r11, r12, r13, r14, r15, r16, r17, r18, r19, r20, r21, r22, r23, r24, r25, r26, r27, r28, r29, r30, r31, r32, r33, r34, r35, r36, r37, r38, r39, r40, r41, r42, r43, r44) := by rw [if_pos rfl] at H; exact H
    clear H
    have H := H1
    clear H1
    simp only [Option.some.injEq, Prod.mk.injEq] at H
    obtain ⟨rfl, rfl, rfl, rfl, rfl, rfl, rfl, rfl, rfl, rfl, rfl, rfl, rfl, rfl, rfl, rfl, rfl, rfl, rfl, rfl, rfl, rfl, rfl, rfl, rfl, rfl, rfl, rfl, rfl, rfl, rfl, rfl, rfl, rfl, rfl, rfl, rfl, rfl, rfl, rfl, rfl, rfl, rfl, rfl⟩ := H
    go_wp2_with (first | ((with_reducible refine gate_store (t := 27) (p := 6) rfl ?_); refine seg_event (t := 27) (p := 6) (x := ?xo_w9) (g := aZ) (off := 0) (T := 27) (cur := Jt false 0 0 0 false 0 false 0 0 0 false 0 false 0 0 0 false 0 false 0 0 0 false 0 false 0 0 0 false 0 false 0 0 0 false 0 false 0 0 0 false 0 0) (vs := Vt false 0 0 0 false 0 false 0 0 0 false 0 false 0 0 0 false 0 false 0 0 0 false 0 false 0 0 0 false 0 false 0 0 0 false 0 false 0 0 0 false 0 0) (new := Jt false 0 0 0 false 0 false 0 0 0 false 0 false 0 0 0 false 0 false 0 0 0 false 0 false 0 0 0 false 0 false 0 0 0 false 0 false 0 0 0 false 0 0) ?hg ?ho ?hn ?hp ?hv ?hb ?hi ?hf ?h1 ?hw ?_; (case ho => rfl); (case hg => rfl); (case hn => rfl); (case hp => rfl); (case hv => first | rfl | (go_simp; done) | (simp [*]; done)); (case hb => exact aV.out); (case hi => kernel_rfl); (case hf => exact Nat.le_of_ble_eq_true rfl); (case h1 => rfl); (case hw => rfl); intro w9 hbox hg hbl; replace aK := zbG aK hg bc; replace aV := Aside0.mk hbox; replace HB := zhL hbl HB ba; clear hbox hg hbl))
    refine bodyPost_ret (results_ct rfl _ _ aZ 27 #[.bool false, .int .i64 0, .int .i64 0, .int .i64 0, .bool false, .int .i64 0, .bool false, .int .i64 0, .int .i64 0, .int .i64 0, .bool false, .int .i64 0, .bool false, .int .i64 0, .int .i64 0, .int .i64 0, .bool false, .int .i64 0, .bool false, .int .i64 0, .int .i64 0, .int .i64 0, .bool false, .int .i64 0, .bool false, .int .i64 0, .int .i64 0, .int .i64 0, .bool false, .int .i64 0, .bool false, .int .i64 0, .int .i64 0, .int .i64 0, .bool false, .int .i64 0, .bool false, .int .i64 0, .int .i64 0, .int .i64 0, .bool false, .int .i64 0, .int .i64 0] (0, 0) _ rfl (zbo aV) Try.underlying27 rfl (by kernel_rfl)) rfl ?_
    exact ⟨by first | rfl | (simp [errW_none, errW_some] <;> rfl) | (simp [*, errW_none, errW_some] <;> rfl), zho HB⟩
   ·replace c8 := Bool.eq_false_iff.mpr c8
    subst c8
    have H1 : ((jobs_find.f kj3 aL aM aN aO aP aQ aR aS aT aU ab ac ad ae af ag ah ai aj ak al am an ao ap aq ar au av aw ax ay az aA aB aC aD aE aF aG aH aI aJ a1).bind fun aW => (if aW.2 = 0 then (if 0 ≤ aW.1 then (if aW.1 < 7 then (some (aL, aM, pt 0 aW.1 a2 aN, aO, aP, aQ, aR, aS, pt 1 aW.1 a2 aT, aU, ab, ac, ad, ae, pt 2 aW.1 a2 af, ag, ah, ai, aj, ak, pt 3 aW.1 a2 al, am, an, ao, ap, aq, pt 4 aW.1 a2 ar, au, av, aw, ax, ay, pt 5 aW.1 a2 az, aA, aB, aC, aD, aE, pt 6 aW.1 a2 aF, aG, aH, aI, aJ, 0)) else (none)) else (none)) else (some (false, 0, 0, 0, false, 0, false, 0, 0, 0, false, 0, false, 0, 0, 0, false, 0, false, 0, 0, 0, false, 0, false, 0, 0, 0, false, 0, false, 0, 0, 0, false, 0, false, 0, 0, 0, false, 0, 0, aW.2)))) = some (r1, r2, r3, r4, r5, r6, r7, r8, r9, r10, r11, r12, r13, r14, r15, r16, r17, r18, r19, r20, r21, r22, r23, r24, r25, r26, r27, r28, r29, r30, r31, r32, r33, r34, r35, r36, r37, r38, r39, r40, r41, r42, r43, r44) := by rw [if_neg (show ¬ (false = true) by decide)] at H; exact H
    clear H
    have H := H1
    clear H1
    replace H := Option.bind_eq_some_iff.mp H
    obtain ⟨⟨aa, bb⟩, A100, H⟩ := H
    try dsimp only at H
    have A10 := Aside0.mk A100
    clear A100
    by_cases c11 : bb = 0
    ·rw [if_pos c11] at H
     have c11b0 : (bb == 0) = true := beq_iff_eq.mpr c11
     have c11b1 : (bb != 0) = false := bne_eq_false_iff_eq.mpr c11
     clear c11
     by_cases c12 : 0 ≤ aa
     ·rw [if_pos c12] at H
      have c12b0 : decide (0 ≤ aa) = true := decide_eq_true c12
      clear c12
      by_cases c13 : aa < 7
      ·rw [if_pos c13] at H
       have c13b0 : decide (aa < 7) = true := decide_eq_true c13
       clear c13
       simp only [Option.some.injEq, Prod.mk.injEq] at H
       obtain ⟨rfl, rfl, rfl, rfl, rfl, rfl, rfl, rfl, rfl, rfl, rfl, rfl, rfl, rfl, rfl, rfl, rfl, rfl, rfl, rfl, rfl, rfl, rfl, rfl, rfl, rfl, rfl, rfl, rfl, rfl, rfl, rfl, rfl, rfl, rfl, rfl, rfl, rfl, rfl, rfl, rfl, rfl, rfl, rfl⟩ := H
       go_wp2_with (first | ((with_reducible refine gate_dst (N := 18) rfl ?_); refine seg_load_on (t := 27) (p := 3) (g := aX) (off := 0) (T := 27) (cur := Jt aL aM aN aO aP aQ aR aS aT aU ab ac ad ae af ag ah ai aj ak al am an ao ap aq ar au av aw ax ay az aA aB aC aD aE aF aG aH aI aJ) (vs := Vt aL aM aN aO aP aQ aR aS aT aU ab ac ad ae af ag ah ai aj ak al am an ao ap aq ar au av aw ax ay az aA aB aC aD aE aF aG aH aI aJ) ?hg ?ho ?hp ?hb Try.underlying27 ?hd ?hi ?hw ?_; (case ho => rfl); (case hg => first | rfl | (go_simp; done) | (simp [Region.wanted, yielded, *]; done)); (case hp => rfl); (case hb => exact aK.out); (case hd => rfl); (case hi => kernel_rfl); (case hw => rfl)) | ((with_reducible refine gate_callee (f := 40) rfl ?_); refine goesL_ (some 20) rfl rfl Try.func40 (by kernel_rfl) rfl #[.agg #[.bool aL, .int .i64 aM, .int .i64 aN, .int .i64 aO, .bool aP, .int .i64 aQ, .bool aR, .int .i64 aS, .int .i64 aT, .int .i64 aU, .bool ab, .int .i64 ac, .bool ad, .int .i64 ae, .int .i64 af, .int .i64 ag, .bool ah, .int .i64 ai, .bool aj, .int .i64 ak, .int .i64 al, .int .i64 am, .bool an, .int .i64 ao, .bool ap, .int .i64 aq, .int .i64 ar, .int .i64 au, .bool av, .int .i64 aw, .bool ax, .int .i64 ay, .int .i64 az, .int .i64 aA, .bool aB, .int .i64 aC, .bool aD, .int .i64 aE, .int .i64 aF, .int .i64 aG, .bool aH, .int .i64 aI, .int .i64 aJ], .int .i64 a1] rfl (by (try simp only [List.map_toArray, List.map_cons, List.map_nil]); first | done | rfl | (simp only [List.length_drop, List.length_take]; rfl)) ?_; (with_reducible refine (jobs_find.calls kj3 aL aM aN aO aP aQ aR aS aT aU ab ac ad ae af ag ah ai aj ak al am an ao ap aq ar au av aw ax ay az aA aB aC aD aE aF aG aH aI aJ a1 aa bb _ A10.out).mono ?_); rintro e w14 ⟨rfl, hb⟩; refine ⟨_, rfl, ?_⟩; replace aK := zbB aK hb; replace aV := zbB aV hb; replace HB := zhB HB hb; (try clear hb); (try clear hb2); (try clear hk); (try clear hi); have vp703 : (0 ≤ (aa : Int)) = True := eq_true (of_decide_eq_true (by first | (with_reducible assumption) | assumption)); have vq703 : ((aa : Int) < (7 : Int)) = True := eq_true (of_decide_eq_true (by first | (with_reducible assumption) | assumption)); have hvk15_0 := cellA27_0_2 (aa) (of_decide_eq_true (by first | (with_reducible assumption) | assumption)) (of_decide_eq_true (by first | (with_reducible assumption) | assumption)) aK.out; have hfk15_0 := blk_frozen aK.out (aa.toNat * 6 + 2)) | ((with_reducible refine gate_store (t := 3) (p := 31) rfl ?_); refine store_event (t := 3) (p := 31) (v := ?vo_w16) (w1 := (w14.setCell ⟨aX, aa.toNat * 6 + 2, none⟩ (.int .i64 a2))) ?hg ?ho ?hn ?hr ?_; (case ho => rfl); (case hg => rfl); (case hn => rfl); (case hr => first | (go_simp; done) | (go_simp; rfl)); intro w16 hw; have n0_ : Aside0 (w16.heap[aX]? = some (.cells (Jt aL aM (pt 0 aa a2 aN) aO aP aQ aR aS (pt 1 aa a2 aT) aU ab ac ad ae (pt 2 aa a2 af) ag ah ai aj ak (pt 3 aa a2 al) am an ao ap aq (pt 4 aa a2 ar) au av aw ax ay (pt 5 aa a2 az) aA aB aC aD aE (pt 6 aa a2 aF) aG aH aI aJ) 27 (0, 0))) := ⟨(by rw [hw]; exact (by (with_reducible repeat (first | refine blk_drewN ?_ _ | refine blk_drew ?_ | refine blk_alloc ?_ _)); refine blk_put (cs := Jt aL aM aN aO aP aQ aR aS aT aU ab ac ad ae af ag ah ai aj ak al am an ao ap aq ar au av aw ax ay az aA aB aC aD aE aF aG aH aI aJ) ?_ (aa.toNat * 6 + 2) _ (putA27_0_2 aa (of_decide_eq_true (by first | (with_reducible assumption) | assumption)) (of_decide_eq_true (by first | (with_reducible assumption) | assumption)) a2); (with_reducible repeat (first | refine blk_drewN ?_ _ | refine blk_drew ?_ | refine blk_alloc ?_ _)); exact aK.out))⟩; have n1_ : Aside0 (w16.heap[aZ]? = some (.cells (Jt false 0 0 0 false 0 false 0 0 0 false 0 false 0 0 0 false 0 false 0 0 0 false 0 false 0 0 0 false 0 false 0 0 0 false 0 false 0 0 0 false 0 0) 27 (0, 0))) := ⟨(by rw [hw]; exact (by (with_reducible repeat (first | refine blk_drewN ?_ _ | refine blk_drew ?_ | refine blk_alloc ?_ _)); refine blk_far ?_ bW.out _; (with_reducible repeat (first | refine blk_drewN ?_ _ | refine blk_drew ?_ | refine blk_alloc ?_ _)); exact aV.out))⟩; have n2_ : Aside0 (Below w.heap.size w w16) := ⟨(by rw [hw]; exact (zho HB))⟩; clear hw; clear aK; clear aV; clear HB; have aK := n0_; have aV := n1_; have HB := n2_; clear n0_ n1_ n2_) | ((with_reducible refine gate_dst (N := 32) rfl ?_); refine seg_load_on (t := 27) (p := 3) (g := aX) (off := 0) (T := 27) (cur := Jt aL aM (pt 0 aa a2 aN) aO aP aQ aR aS (pt 1 aa a2 aT) aU ab ac ad ae (pt 2 aa a2 af) ag ah ai aj ak (pt 3 aa a2 al) am an ao ap aq (pt 4 aa a2 ar) au av aw ax ay (pt 5 aa a2 az) aA aB aC aD aE (pt 6 aa a2 aF) aG aH aI aJ) (vs := Vt aL aM (pt 0 aa a2 aN) aO aP aQ aR aS (pt 1 aa a2 aT) aU ab ac ad ae (pt 2 aa a2 af) ag ah ai aj ak (pt 3 aa a2 al) am an ao ap aq (pt 4 aa a2 ar) au av aw ax ay (pt 5 aa a2 az) aA aB aC aD aE (pt 6 aa a2 aF) aG aH aI aJ) ?hg ?ho ?hp ?hb Try.underlying27 ?hd ?hi ?hw ?_; (case ho => rfl); (case hg => first | rfl | (go_simp; done) | (simp [Region.wanted, yielded, *]; done)); (case hp => rfl); (case hb => exact aK.out); (case hd => rfl); (case hi => kernel_rfl); (case hw => rfl)) | ((with_reducible refine gate_store (t := 27) (p := 6) rfl ?_); refine seg_event (t := 27) (p := 6) (x := ?xo_w17) (g := aZ) (off := 0) (T := 27) (cur := Jt false 0 0 0 false 0 false 0 0 0 false 0 false 0 0 0 false 0 false 0 0 0 false 0 false 0 0 0 false 0 false 0 0 0 false 0 false 0 0 0 false 0 0) (vs := Vt aL aM (pt 0 aa a2 aN) aO aP aQ aR aS (pt 1 aa a2 aT) aU ab ac ad ae (pt 2 aa a2 af) ag ah ai aj ak (pt 3 aa a2 al) am an ao ap aq (pt 4 aa a2 ar) au av aw ax ay (pt 5 aa a2 az) aA aB aC aD aE (pt 6 aa a2 aF) aG aH aI aJ) (new := Jt aL aM (pt 0 aa a2 aN) aO aP aQ aR aS (pt 1 aa a2 aT) aU ab ac ad ae (pt 2 aa a2 af) ag ah ai aj ak (pt 3 aa a2 al) am an ao ap aq (pt 4 aa a2 ar) au av aw ax ay (pt 5 aa a2 az) aA aB aC aD aE (pt 6 aa a2 aF) aG aH aI aJ) ?hg ?ho ?hn ?hp ?hv ?hb ?hi ?hf ?h1 ?hw ?_; (case ho => rfl); (case hg => rfl); (case hn => rfl); (case hp => rfl); (case hv => first | rfl | (go_simp; done) | (simp [*]; done)); (case hb => exact aV.out); (case hi => kernel_rfl); (case hf => exact Nat.le_of_ble_eq_true rfl); (case h1 => rfl); (case hw => rfl); intro w17 hbox hg hbl; replace aK := zbG aK hg bc; replace aV := Aside0.mk hbox; replace HB := zhL hbl HB ba; clear hbox hg hbl))
       refine bodyPost_ret (results_ct rfl _ _ aZ 27 #[.bool aL, .int .i64 aM, .int .i64 (pt 0 aa a2 aN), .int .i64 aO, .bool aP, .int .i64 aQ, .bool aR, .int .i64 aS, .int .i64 (pt 1 aa a2 aT), .int .i64 aU, .bool ab, .int .i64 ac, .bool ad, .int .i64 ae, .int .i64 (pt 2 aa a2 af), .int .i64 ag, .bool ah, .int .i64 ai, .bool aj, .int .i64 ak, .int .i64 (pt 3 aa a2 al), .int .i64 am, .bool an, .int .i64 ao, .bool ap, .int .i64 aq, .int .i64 (pt 4 aa a2 ar), .int .i64 au, .bool av, .int .i64 aw, .bool ax, .int .i64 ay, .int .i64 (pt 5 aa a2 az), .int .i64 aA, .bool aB, .int .i64 aC, .bool aD, .int .i64 aE, .int .i64 (pt 6 aa a2 aF), .int .i64 aG, .bool aH, .int .i64 aI, .int .i64 aJ] (0, 0) _ rfl (zbo aV) Try.underlying27 rfl (by kernel_rfl)) rfl ?_
       exact ⟨by first | rfl | (simp [errW_none, errW_some] <;> rfl) | (simp [*, errW_none, errW_some] <;> rfl), zho HB⟩
      ·rw [if_neg c13] at H
       exact absurd H (by simp)
     ·rw [if_neg c12] at H
      exact absurd H (by simp)
    ·rw [if_neg c11] at H
     have c11b0 : (bb == 0) = false := beq_eq_false_iff_ne.mpr c11
     have c11b1 : (bb != 0) = true := bne_iff_ne.mpr c11
     simp only [Option.some.injEq, Prod.mk.injEq] at H
     obtain ⟨rfl, rfl, rfl, rfl, rfl, rfl, rfl, rfl, rfl, rfl, rfl, rfl, rfl, rfl, rfl, rfl, rfl, rfl, rfl, rfl, rfl, rfl, rfl, rfl, rfl, rfl, rfl, rfl, rfl, rfl, rfl, rfl, rfl, rfl, rfl, rfl, rfl, rfl, rfl, rfl, rfl, rfl, rfl, rfl⟩ := H
     go_wp2_with (first | ((with_reducible refine gate_dst (N := 18) rfl ?_); refine seg_load_on (t := 27) (p := 3) (g := aX) (off := 0) (T := 27) (cur := Jt aL aM aN aO aP aQ aR aS aT aU ab ac ad ae af ag ah ai aj ak al am an ao ap aq ar au av aw ax ay az aA aB aC aD aE aF aG aH aI aJ) (vs := Vt aL aM aN aO aP aQ aR aS aT aU ab ac ad ae af ag ah ai aj ak al am an ao ap aq ar au av aw ax ay az aA aB aC aD aE aF aG aH aI aJ) ?hg ?ho ?hp ?hb Try.underlying27 ?hd ?hi ?hw ?_; (case ho => rfl); (case hg => first | rfl | (go_simp; done) | (simp [Region.wanted, yielded, *]; done)); (case hp => rfl); (case hb => exact aK.out); (case hd => rfl); (case hi => kernel_rfl); (case hw => rfl)) | ((with_reducible refine gate_callee (f := 40) rfl ?_); refine goesL_ (some 20) rfl rfl Try.func40 (by kernel_rfl) rfl #[.agg #[.bool aL, .int .i64 aM, .int .i64 aN, .int .i64 aO, .bool aP, .int .i64 aQ, .bool aR, .int .i64 aS, .int .i64 aT, .int .i64 aU, .bool ab, .int .i64 ac, .bool ad, .int .i64 ae, .int .i64 af, .int .i64 ag, .bool ah, .int .i64 ai, .bool aj, .int .i64 ak, .int .i64 al, .int .i64 am, .bool an, .int .i64 ao, .bool ap, .int .i64 aq, .int .i64 ar, .int .i64 au, .bool av, .int .i64 aw, .bool ax, .int .i64 ay, .int .i64 az, .int .i64 aA, .bool aB, .int .i64 aC, .bool aD, .int .i64 aE, .int .i64 aF, .int .i64 aG, .bool aH, .int .i64 aI, .int .i64 aJ], .int .i64 a1] rfl (by (try simp only [List.map_toArray, List.map_cons, List.map_nil]); first | done | rfl | (simp only [List.length_drop, List.length_take]; rfl)) ?_; (with_reducible refine (jobs_find.calls kj3 aL aM aN aO aP aQ aR aS aT aU ab ac ad ae af ag ah ai aj ak al am an ao ap aq ar au av aw ax ay az aA aB aC aD aE aF aG aH aI aJ a1 aa bb _ A10.out).mono ?_); rintro e w18 ⟨rfl, hb⟩; refine ⟨_, rfl, ?_⟩; replace aK := zbB aK hb; replace aV := zbB aV hb; replace HB := zhB HB hb; (try clear hb); (try clear hb2); (try clear hk); (try clear hi)) | ((with_reducible refine gate_store (t := 27) (p := 6) rfl ?_); refine seg_event (t := 27) (p := 6) (x := ?xo_w19) (g := aZ) (off := 0) (T := 27) (cur := Jt false 0 0 0 false 0 false 0 0 0 false 0 false 0 0 0 false 0 false 0 0 0 false 0 false 0 0 0 false 0 false 0 0 0 false 0 false 0 0 0 false 0 0) (vs := Vt false 0 0 0 false 0 false 0 0 0 false 0 false 0 0 0 false 0 false 0 0 0 false 0 false 0 0 0 false 0 false 0 0 0 false 0 false 0 0 0 false 0 0) (new := Jt false 0 0 0 false 0 false 0 0 0 false 0 false 0 0 0 false 0 false 0 0 0 false 0 false 0 0 0 false 0 false 0 0 0 false 0 false 0 0 0 false 0 0) ?hg ?ho ?hn ?hp ?hv ?hb ?hi ?hf ?h1 ?hw ?_; (case ho => rfl); (case hg => rfl); (case hn => rfl); (case hp => rfl); (case hv => first | rfl | (go_simp; done) | (simp [*]; done)); (case hb => exact aV.out); (case hi => kernel_rfl); (case hf => exact Nat.le_of_ble_eq_true rfl); (case h1 => rfl); (case hw => rfl); intro w19 hbox hg hbl; replace aK := zbG aK hg bc; replace aV := Aside0.mk hbox; replace HB := zhL hbl HB ba; clear hbox hg hbl))
     refine bodyPost_ret (results_ct rfl _ _ aZ 27 #[.bool false, .int .i64 0, .int .i64 0, .int .i64 0, .bool false, .int .i64 0, .bool false, .int .i64 0, .int .i64 0, .int .i64 0, .bool false, .int .i64 0, .bool false, .int .i64 0, .int .i64 0, .int .i64 0, .bool false, .int .i64 0, .bool false, .int .i64 0, .int .i64 0, .int .i64 0, .bool false, .int .i64 0, .bool false, .int .i64 0, .int .i64 0, .int .i64 0, .bool false, .int .i64 0, .bool false, .int .i64 0, .int .i64 0, .int .i64 0, .bool false, .int .i64 0, .bool false, .int .i64 0, .int .i64 0, .int .i64 0, .bool false, .int .i64 0, .int .i64 0] (0, 0) _ rfl (zbo aV) Try.underlying27 rfl (by kernel_rfl)) rfl ?_
     exact ⟨by first | rfl | (simp [errW_none, errW_some] <;> rfl) | (simp [*, errW_none, errW_some] <;> rfl), zho HB⟩

end Go.Proofs.Ytjenkcgjpdappaa.P
