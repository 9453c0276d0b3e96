-- Printed by a session's own program (wip/turnprint.py, wip/myprint.sh) over the translation's print. -- slim -- short -- s4
import Derived.Test.YtjenkcgjpdappaaPx0
import Derived.Test.YtjenkcgjpdappaaPx4
namespace Go.Proofs.Ytjenkcgjpdappaa.P
open Go.RowKit Go.Proofs.YtjenkcgjpdappaaW.PrintWords Go.Proofs.YtjenkcgjpdappaaW.PrintLast Go.Proofs.YtjenkcgjpdappaaW.PrintMore
attribute [local go_sem] max2_int min2_int max_two min_two max_three min_three max_four min_four   -- for this text's walks alone
set_option linter.unusedVariables false
set_option linter.unusedSimpArgs false

/-! ### jobs_find: function 40 -/
def jobs_find.l0 : Nat → Int → Int → Bool → Int → Int → Int → Bool → Int → Bool → Int → Int → Int → Bool → Int → Bool → Int → Int → Int → Bool → Int → Bool → Int → Int → Int → Bool → Int → Bool → Int → Int → Int → Bool → Int → Bool → Int → Int → Int → Bool → Int → Bool → Int → Int → Int → Bool → Int → Option (Int × Int)
 | 0, _, _, _, _, _, _, _, _, _, _, _, _, _, _, _, _, _, _, _, _, _, _, _, _, _, _, _, _, _, _, _, _, _, _, _, _, _, _, _, _, _, _, _, _ => none
 | k + 1, x1, br, bc, bd, bs, bt, bu, bv, be, bf, bw, bx, bz, bA, bg, bh, bB, bC, bD, bE, bi, bj, bF, bG, bH, bI, bk, bl, bJ, bK, bL, bM, bm, bn, bN, bO, bP, bQ, bo, bp, bR, bS, bT, bU => if br < 7 then (if 0 ≤ br then (if pk7 bc be bg bi bk bm bo br = true then (if (pk7 bd bf bh bj bl bn bp br) = x1 then (some (br, 0)) else (jobs_find.l0 k x1 (wrap64 (br + 1)) bc bd bs bt bu bv be bf bw bx bz bA bg bh bB bC bD bE bi bj bF bG bH bI bk bl bJ bK bL bM bm bn bN bO bP bQ bo bp bR bS bT bU)) else (jobs_find.l0 k x1 (wrap64 (br + 1)) bc bd bs bt bu bv be bf bw bx bz bA bg bh bB bC bD bE bi bj bF bG bH bI bk bl bJ bK bL bM bm bn bN bO bP bQ bo bp bR bS bT bU)) else (none)) else (some (0, 7))
def jobs_find.f (k : Nat) (aM : Bool) (aK : Int) (aO : Int) (aP : Int) (aQ : Bool) (aR : Int) (aN : Bool) (aL : Int) (aS : Int) (aT : Int) (al : Bool) (am : Int) (ag : Bool) (ab : Int) (an : Int) (ao : Int) (ap : Bool) (aq : Int) (ah : Bool) (ac : Int) (ar : Int) (au : Int) (av : Bool) (aw : Int) (ai : Bool) (ad : Int) (ax : Int) (ay : Int) (az : Bool) (aA : Int) (aj : Bool) (ae : Int) (aB : Int) (aC : Int) (aD : Bool) (aE : Int) (ak : Bool) (af : Int) (aF : Int) (aG : Int) (aH : Bool) (aI : Int) (aW : Int) (a1 : Int) : Option (Int × Int) := (jobs_Valid.f k aM aK aO aP aQ aR aN aL aS aT al am ag ab an ao ap aq ah ac ar au av aw ai ad ax ay az aA aj ae aB aC aD aE ak af aF aG aH aI aW).bind fun bq => (if bq = true then (jobs_find.l0 k a1 0 aM aK aO aP aQ aR aN aL aS aT al am ag ab an ao ap aq ah ac ar au av aw ai ad ax ay az aA aj ae aB aC aD aE ak af aF aG aH aI) else (some (0, 2)))
theorem jobs_find.mono_l : ∀ k, (∀ y0 y1 y2 y3 y4 y5 y6 y7 y8 y9 y10 y11 y12 y13 y14 y15 y16 y17 y18 y19 y20 y21 y22 y23 y24 y25 y26 y27 y28 y29 y30 y31 y32 y33 y34 y35 y36 y37 y38 y39 y40 y41 y42 y43, LeO (jobs_find.l0 k y0 y1 y2 y3 y4 y5 y6 y7 y8 y9 y10 y11 y12 y13 y14 y15 y16 y17 y18 y19 y20 y21 y22 y23 y24 y25 y26 y27 y28 y29 y30 y31 y32 y33 y34 y35 y36 y37 y38 y39 y40 y41 y42 y43) (jobs_find.l0 (k + 1) y0 y1 y2 y3 y4 y5 y6 y7 y8 y9 y10 y11 y12 y13 y14 y15 y16 y17 y18 y19 y20 y21 y22 y23 y24 y25 y26 y27 y28 y29 y30 y31 y32 y33 y34 y35 y36 y37 y38 y39 y40 y41 y42 y43))
 | 0 => fun _ _ _ _ _ _ _ _ _ _ _ _ _ _ _ _ _ _ _ _ _ _ _ _ _ _ _ _ _ _ _ _ _ _ _ _ _ _ _ _ _ _ _ _ r h => by simp [jobs_find.l0] at h
 | k + 1 => by
  have ih0 := jobs_find.mono_l k
  ·intro y0 y1 y2 y3 y4 y5 y6 y7 y8 y9 y10 y11 y12 y13 y14 y15 y16 y17 y18 y19 y20 y21 y22 y23 y24 y25 y26 y27 y28 y29 y30 y31 y32 y33 y34 y35 y36 y37 y38 y39 y40 y41 y42 y43
   unfold jobs_find.l0
   repeat' first
   | (with_reducible exact ih0 _ _ _ _ _ _ _ _ _ _ _ _ _ _ _ _ _ _ _ _ _ _ _ _ _ _ _ _ _ _ _ _ _ _ _ _ _ _ _ _ _ _ _ _)
   | (with_reducible apply jobs_Valid.mono)
   | (with_reducible exact LeO.refl _)
   | (with_reducible exact LeO.none _)
   | (with_reducible refine LeO.ite ?_ ?_)
   | (with_reducible refine LeO.bind ?_ (fun _ => ?_))
   | exact ih0 _ _ _ _ _ _ _ _ _ _ _ _ _ _ _ _ _ _ _ _ _ _ _ _ _ _ _ _ _ _ _ _ _ _ _ _ _ _ _ _ _ _ _ _
   | apply jobs_Valid.mono
   | exact LeO.none _
   | refine LeO.ite ?_ ?_
   | refine LeO.bind ?_ (fun _ => ?_)
theorem jobs_find.mono : ∀ a0 a1 a2 a3 a4 a5 a6 a7 a8 a9 a10 a11 a12 a13 a14 a15 a16 a17 a18 a19 a20 a21 a22 a23 a24 a25 a26 a27 a28 a29 a30 a31 a32 a33 a34 a35 a36 a37 a38 a39 a40 a41 a42 a43 k, LeO (jobs_find.f k a0 a1 a2 a3 a4 a5 a6 a7 a8 a9 a10 a11 a12 a13 a14 a15 a16 a17 a18 a19 a20 a21 a22 a23 a24 a25 a26 a27 a28 a29 a30 a31 a32 a33 a34 a35 a36 a37 a38 a39 a40 a41 a42 a43) (jobs_find.f (k + 1) a0 a1 a2 a3 a4 a5 a6 a7 a8 a9 a10 a11 a12 a13 a14 a15 a16 a17 a18 a19 a20 a21 a22 a23 a24 a25 a26 a27 a28 a29 a30 a31 a32 a33 a34 a35 a36 a37 a38 a39 a40 a41 a42 a43) := by
 intro a0 a1 a2 a3 a4 a5 a6 a7 a8 a9 a10 a11 a12 a13 a14 a15 a16 a17 a18 a19 a20 a21 a22 a23 a24 a25 a26 a27 a28 a29 a30 a31 a32 a33 a34 a35 a36 a37 a38 a39 a40 a41 a42 a43 k
 have ih0 := jobs_find.mono_l k
 unfold jobs_find.f
 repeat' first
   | (with_reducible exact ih0 _ _ _ _ _ _ _ _ _ _ _ _ _ _ _ _ _ _ _ _ _ _ _ _ _ _ _ _ _ _ _ _ _ _ _ _ _ _ _ _ _ _ _ _)
   | (with_reducible apply jobs_Valid.mono)
   | (with_reducible exact LeO.refl _)
   | (with_reducible exact LeO.none _)
   | (with_reducible refine LeO.ite ?_ ?_)
   | (with_reducible refine LeO.bind ?_ (fun _ => ?_))
   | exact ih0 _ _ _ _ _ _ _ _ _ _ _ _ _ _ _ _ _ _ _ _ _ _ _ _ _ _ _ _ _ _ _ _ _ _ _ _ _ _ _ _ _ _ _ _
   | apply jobs_Valid.mono
   | exact LeO.none _
   | refine LeO.ite ?_ ?_
   | refine LeO.bind ?_ (fun _ => ?_)
set_option maxHeartbeats 8000000 in
set_option maxRecDepth 100000 in
theorem jobs_find.calls (k : Nat) (aM : Bool) (aK : Int) (aO : Int) (aP : Int) (aQ : Bool) (aR : Int) (aN : Bool) (aL : Int) (aS : Int) (aT : Int) (al : Bool) (am : Int) (ag : Bool) (ab : Int) (an : Int) (ao : Int) (ap : Bool) (aq : Int) (ah : Bool) (ac : Int) (ar : Int) (au : Int) (av : Bool) (aw : Int) (ai : Bool) (ad : Int) (ax : Int) (ay : Int) (az : Bool) (aA : Int) (aj : Bool) (ae : Int) (aB : Int) (aC : Int) (aD : Bool) (aE : Int) (ak : Bool) (af : Int) (aF : Int) (aG : Int) (aH : Bool) (aI : Int) (aW : Int) (a1 : Int) (r1 : Int) (r2 : Int) (w : World) (h : jobs_find.f k aM aK aO aP aQ aR aN aL aS aT al am ag ab an ao ap aq ah ac ar au av aw ai ad ax ay az aA aj ae aB aC aD aE ak af aF aG aH aI aW a1 = some (r1, r2)) :
  Calls Try.prog 40 #[.agg #[.bool aM, .int .i64 aK, .int .i64 aO, .int .i64 aP, .bool aQ, .int .i64 aR, .bool aN, .int .i64 aL, .int .i64 aS, .int .i64 aT, .bool al, .int .i64 am, .bool ag, .int .i64 ab, .int .i64 an, .int .i64 ao, .bool ap, .int .i64 aq, .bool ah, .int .i64 ac, .int .i64 ar, .int .i64 au, .bool av, .int .i64 aw, .bool ai, .int .i64 ad, .int .i64 ax, .int .i64 ay, .bool az, .int .i64 aA, .bool aj, .int .i64 ae, .int .i64 aB, .int .i64 aC, .bool aD, .int .i64 aE, .bool ak, .int .i64 af, .int .i64 aF, .int .i64 aG, .bool aH, .int .i64 aI, .int .i64 aW], .int .i64 a1] w fun e w' => e = .returned (.tuple #[.int .i64 r1, .int .i64 r2]) ∧ Below w.heap.size w w' := by
 have hu27 := Try.underlying27
 have hu25 := Try.underlying25
 have hu24 := Try.underlying24
 have HB := Aside0.mk (Below.refl w.heap.size w)
 have H := h
 unfold jobs_find.f at H
 clear h
 replace H := Option.bind_eq_some_iff.mp H
 obtain ⟨bq, A30, H⟩ := H
 try dsimp only at H
 have A3 := Aside0.mk A30
 clear A30
 by_cases c4 : bq = true
 ·subst c4
  have H1 : (jobs_find.l0 k a1 0 aM aK aO aP aQ aR aN aL aS aT al am ag ab an ao ap aq ah ac ar au av aw ai ad ax ay az aA aj ae aB aC aD aE ak af aF aG aH aI) = some (r1, r2) := by rw [if_pos rfl] at H; exact H
  clear H
  have H := H1
  clear H1
  have H' := Aside0.mk H
  clear H
  go_enter Try.func40, Try.ntmps40
  go_wp2_with (first | ((with_reducible refine gate_dst (N := 2) rfl ?_); refine box_event ?hg (N := 2) ?hd (cs := Jt aM aK aO aP aQ aR aN aL aS aT al am ag ab an ao ap aq ah ac ar au av aw ai ad ax ay az aA aj ae aB aC aD aE ak af aF aG aH aI aW) (t := 27) ?hr ?_; (case hd => rfl); (case hg => rfl); (case hr => first | (go_simp; done) | (go_simp; rfl)); intro aX hg w5 hbox hb; have aU := Aside0.mk hbox; have GW125 := zhs HB hg; have aY := zhs HB hg; replace HB := zhB HB hb; clear hb hbox hg) | ((with_reducible refine gate_dst (N := 8) rfl ?_); refine seg_load_on (t := 27) (p := 2) (g := aX) (off := 0) (T := 27) (cur := Jt aM aK aO aP aQ aR aN aL aS aT al am ag ab an ao ap aq ah ac ar au av aw ai ad ax ay az aA aj ae aB aC aD aE ak af aF aG aH aI aW) (vs := Vt aM aK aO aP aQ aR aN aL aS aT al am ag ab an ao ap aq ah ac ar au av aw ai ad ax ay az aA aj ae aB aC aD aE ak af aF aG aH aI aW) ?hg ?ho ?hp ?hb Try.underlying27 ?hd ?hi ?hw ?_; (case ho => rfl); (case hg => first | rfl | (go_simp; done) | (simp [Region.wanted, yielded, *]; done)); (case hp => rfl); (case hb => exact aU.out); (case hd => rfl); (case hi => kernel_rfl); (case hw => rfl)) | ((with_reducible refine gate_callee (f := 23) rfl ?_); refine goesL_ (some 9) rfl rfl Try.func23 (by kernel_rfl) rfl #[.agg #[.bool aM, .int .i64 aK, .int .i64 aO, .int .i64 aP, .bool aQ, .int .i64 aR, .bool aN, .int .i64 aL, .int .i64 aS, .int .i64 aT, .bool al, .int .i64 am, .bool ag, .int .i64 ab, .int .i64 an, .int .i64 ao, .bool ap, .int .i64 aq, .bool ah, .int .i64 ac, .int .i64 ar, .int .i64 au, .bool av, .int .i64 aw, .bool ai, .int .i64 ad, .int .i64 ax, .int .i64 ay, .bool az, .int .i64 aA, .bool aj, .int .i64 ae, .int .i64 aB, .int .i64 aC, .bool aD, .int .i64 aE, .bool ak, .int .i64 af, .int .i64 aF, .int .i64 aG, .bool aH, .int .i64 aI, .int .i64 aW]] rfl (by (try simp only [List.map_toArray, List.map_cons, List.map_nil]); first | done | rfl | (simp only [List.length_drop, List.length_take]; rfl)) ?_; (with_reducible refine (jobs_Valid.calls k aM aK aO aP aQ aR aN aL aS aT al am ag ab an ao ap aq ah ac ar au av aw ai ad ax ay az aA aj ae aB aC aD aE ak af aF aG aH aI aW true _ A3.out).mono ?_); rintro e w6 ⟨rfl, hb⟩; refine ⟨_, rfl, ?_⟩; replace aU := zbB aU hb; replace HB := zhB HB hb; (try clear hb); (try clear hb2); (try clear hk); (try clear hi)) | ((with_reducible refine gate_dst (N := 12) rfl ?_); refine seg_load_on (t := 25) (p := 11) (g := aX) (off := 0) (T := 27) (cur := Jt aM aK aO aP aQ aR aN aL aS aT al am ag ab an ao ap aq ah ac ar au av aw ai ad ax ay az aA aj ae aB aC aD aE ak af aF aG aH aI aW) (vs := [.bool aM, .int .i64 aK, .int .i64 aO, .int .i64 aP, .bool aQ, .int .i64 aR, .bool aN, .int .i64 aL, .int .i64 aS, .int .i64 aT, .bool al, .int .i64 am, .bool ag, .int .i64 ab, .int .i64 an, .int .i64 ao, .bool ap, .int .i64 aq, .bool ah, .int .i64 ac, .int .i64 ar, .int .i64 au, .bool av, .int .i64 aw, .bool ai, .int .i64 ad, .int .i64 ax, .int .i64 ay, .bool az, .int .i64 aA, .bool aj, .int .i64 ae, .int .i64 aB, .int .i64 aC, .bool aD, .int .i64 aE, .bool ak, .int .i64 af, .int .i64 aF, .int .i64 aG, .bool aH, .int .i64 aI]) ?hg ?ho ?hp ?hb Try.underlying25 ?hd ?hi ?hw ?_; (case ho => rfl); (case hg => first | rfl | (go_simp; done) | (simp [Region.wanted, yielded, *]; done)); (case hp => rfl); (case hb => exact aU.out); (case hd => rfl); (case hi => kernel_rfl); (case hw => rfl)))
  go_loopg [13] k (fun kq v13 w' => ∃ (aa : Int), v13 = .int .i64 aa ∧ Aside0 (jobs_find.l0 kq a1 aa aM aK aO aP aQ aR aN aL aS aT al am ag ab an ao ap aq ah ac ar au av aw ai ad ax ay az aA aj ae aB aC aD aE ak af aF aG aH aI = some (r1, r2)) ∧ Aside0 (kq ≤ k) ∧ Aside0 (w'.heap[aX]? = some (.cells (Jt aM aK aO aP aQ aR aN aL aS aT al am ag ab an ao ap aq ah ac ar au av aw ai ad ax ay az aA aj ae aB aC aD aE ak af aF aG aH aI aW) 27 (0, 0))) ∧ Aside0 (Below w.heap.size w w'))
  case atStart => exact ⟨(0), (by first | rfl | (simp; done) | (simp [*]; done)), H', ⟨Nat.le_refl _⟩, ⟨by (with_reducible repeat (first | refine blk_drewN ?_ _ | refine blk_drew ?_ | refine blk_alloc ?_ _)); exact aU.out⟩, ⟨zho HB⟩⟩
  case round =>
   clear H'
   try clear c2 p2 c4
   obtain ⟨aa, rfl, HA, HK1, aU, HB⟩ := hrel
   cases gk with
   | zero => exact absurd HA.out (by simp [jobs_find.l0])
   | succ k1 =>
    have H := HA.out
    clear HA
    simp only [jobs_find.l0] at H
    by_cases c7 : aa < 7
    ·rw [if_pos c7] at H
     have c7b0 : decide (aa < 7) = true := decide_eq_true c7
     clear c7
     by_cases c8 : 0 ≤ aa
     ·rw [if_pos c8] at H
      have c8b0 : decide (0 ≤ aa) = true := decide_eq_true c8
      clear c8
      by_cases c9 : pk7 aM aN ag ah ai aj ak aa = true
      ·rw [if_pos c9] at H
       have c9b0 : pk7 aM aN ag ah ai aj ak aa = true := c9
       clear c9
       by_cases c10 : (pk7 aK aL ab ac ad ae af aa) = a1
       ·rw [if_pos c10] at H
        have c10b0 : ((pk7 aK aL ab ac ad ae af aa) == a1) = true := beq_iff_eq.mpr c10
        have c10b1 : ((pk7 aK aL ab ac ad ae af aa) != a1) = false := bne_eq_false_iff_eq.mpr c10
        clear c10
        simp only [Option.some.injEq, Prod.mk.injEq] at H
        obtain ⟨rfl, rfl⟩ := H
        have vi127 := fun (W_ : World) => idxA25 aM aK aO aP aQ aR aN aL aS aT al am ag ab an ao ap aq ah ac ar au av aw ai ad ax ay az aA aj ae aB aC aD aE ak af aF aG aH aI .i64 (aa) (of_decide_eq_true (by first | (with_reducible assumption) | assumption)) (of_decide_eq_true (by first | (with_reducible assumption) | assumption)) W_
        go_wp2_with (first | ((with_reducible refine gate_dst (N := 7) rfl ?_); refine box_event ?hg (N := 7) ?hd (cs := #[.bool false, .int .i64 0, .int .i64 0, .int .i64 0, .bool false, .int .i64 0]) (t := 24) ?hr ?_; (case hd => rfl); (case hg => rfl); (case hr => first | (go_simp; done) | (go_simp; rfl)); intro aV hg w11 hbox hb; have aJ := Aside0.mk hbox; have bV := zhs HB hg; have ba := zhs HB hg; have aZ := znl aU hg; have bb := zng aU hg; replace aU := zbB aU hb; replace HB := zhB HB hb; clear hb hbox hg) | ((with_reducible refine gate_store (t := 24) (p := 7) rfl ?_); refine seg_event (t := 24) (p := 7) (x := ?xo_w12) (g := aV) (off := 0) (T := 24) (cur := #[.bool false, .int .i64 0, .int .i64 0, .int .i64 0, .bool false, .int .i64 0]) (vs := [.bool (pk7 aM aN ag ah ai aj ak aa), .int .i64 (pk7 aK aL ab ac ad ae af aa), .int .i64 (pk7 aO aS an ar ax aB aF aa), .int .i64 (pk7 aP aT ao au ay aC aG aa), .bool (pk7 aQ al ap av az aD aH aa), .int .i64 (pk7 aR am aq aw aA aE aI aa)]) (new := #[.bool (pk7 aM aN ag ah ai aj ak aa), .int .i64 (pk7 aK aL ab ac ad ae af aa), .int .i64 (pk7 aO aS an ar ax aB aF aa), .int .i64 (pk7 aP aT ao au ay aC aG aa), .bool (pk7 aQ al ap av az aD aH aa), .int .i64 (pk7 aR am aq aw aA aE aI aa)]) ?hg ?ho ?hn ?hp ?hv ?hb ?hi ?hf ?h1 ?hw ?_; (case ho => rfl); (case hg => rfl); (case hn => rfl); (case hp => rfl); (case hv => first | rfl | (go_simp; done) | (simp [*]; done)); (case hb => exact aJ.out); (case hi => kernel_rfl); (case hf => exact Nat.le_of_ble_eq_true rfl); (case h1 => rfl); (case hw => rfl); intro w12 hbox hg hbl; replace aU := zbG aU hg aZ; replace aJ := Aside0.mk hbox; replace HB := zhL hbl HB ba; clear hbox hg hbl; have hnb13 := bb.out; have hnc13 := aZ.out; have hcz14_0 : w12.cell? ⟨aV, 0, none⟩ = some (.bool (pk7 aM aN ag ah ai aj ak aa)) := (blk_cell aJ.out 0).trans rfl; have hcz14_1 : w12.cell? ⟨aV, 1, none⟩ = some (.int .i64 (pk7 aK aL ab ac ad ae af aa)) := (blk_cell aJ.out 1).trans rfl; have hcz14_2 : w12.cell? ⟨aV, 2, none⟩ = some (.int .i64 (pk7 aO aS an ar ax aB aF aa)) := (blk_cell aJ.out 2).trans rfl; have hcz14_3 : w12.cell? ⟨aV, 3, none⟩ = some (.int .i64 (pk7 aP aT ao au ay aC aG aa)) := (blk_cell aJ.out 3).trans rfl; have hcz14_4 : w12.cell? ⟨aV, 4, none⟩ = some (.bool (pk7 aQ al ap av az aD aH aa)) := (blk_cell aJ.out 4).trans rfl; have hcz14_5 : w12.cell? ⟨aV, 5, none⟩ = some (.int .i64 (pk7 aR am aq aw aA aE aI aa)) := (blk_cell aJ.out 5).trans rfl; have hfz14_0 := blk_frozen aJ.out 0; have hfz14_1 := blk_frozen aJ.out 1; have hfz14_2 := blk_frozen aJ.out 2; have hfz14_3 := blk_frozen aJ.out 3; have hfz14_4 := blk_frozen aJ.out 4; have hfz14_5 := blk_frozen aJ.out 5))
        go_ret2
        exact ⟨by first | rfl | (simp [errW_none, errW_some] <;> rfl) | (simp [*, errW_none, errW_some] <;> rfl), zho HB⟩
       ·rw [if_neg c10] at H
        have c10b0 : ((pk7 aK aL ab ac ad ae af aa) == a1) = false := beq_eq_false_iff_ne.mpr c10
        have c10b1 : ((pk7 aK aL ab ac ad ae af aa) != a1) = true := bne_iff_ne.mpr c10
        have H' := Aside0.mk H
        clear H
        have vi127 := fun (W_ : World) => idxA25 aM aK aO aP aQ aR aN aL aS aT al am ag ab an ao ap aq ah ac ar au av aw ai ad ax ay az aA aj ae aB aC aD aE ak af aF aG aH aI .i64 (aa) (of_decide_eq_true (by first | (with_reducible assumption) | assumption)) (of_decide_eq_true (by first | (with_reducible assumption) | assumption)) W_
        go_wp2_with (first | ((with_reducible refine gate_dst (N := 7) rfl ?_); refine box_event ?hg (N := 7) ?hd (cs := #[.bool false, .int .i64 0, .int .i64 0, .int .i64 0, .bool false, .int .i64 0]) (t := 24) ?hr ?_; (case hd => rfl); (case hg => rfl); (case hr => first | (go_simp; done) | (go_simp; rfl)); intro aV hg w15 hbox hb; have aJ := Aside0.mk hbox; have bV := zhs HB hg; have ba := zhs HB hg; have aZ := znl aU hg; have bb := zng aU hg; replace aU := zbB aU hb; replace HB := zhB HB hb; clear hb hbox hg) | ((with_reducible refine gate_store (t := 24) (p := 7) rfl ?_); refine seg_event (t := 24) (p := 7) (x := ?xo_w16) (g := aV) (off := 0) (T := 24) (cur := #[.bool false, .int .i64 0, .int .i64 0, .int .i64 0, .bool false, .int .i64 0]) (vs := [.bool (pk7 aM aN ag ah ai aj ak aa), .int .i64 (pk7 aK aL ab ac ad ae af aa), .int .i64 (pk7 aO aS an ar ax aB aF aa), .int .i64 (pk7 aP aT ao au ay aC aG aa), .bool (pk7 aQ al ap av az aD aH aa), .int .i64 (pk7 aR am aq aw aA aE aI aa)]) (new := #[.bool (pk7 aM aN ag ah ai aj ak aa), .int .i64 (pk7 aK aL ab ac ad ae af aa), .int .i64 (pk7 aO aS an ar ax aB aF aa), .int .i64 (pk7 aP aT ao au ay aC aG aa), .bool (pk7 aQ al ap av az aD aH aa), .int .i64 (pk7 aR am aq aw aA aE aI aa)]) ?hg ?ho ?hn ?hp ?hv ?hb ?hi ?hf ?h1 ?hw ?_; (case ho => rfl); (case hg => rfl); (case hn => rfl); (case hp => rfl); (case hv => first | rfl | (go_simp; done) | (simp [*]; done)); (case hb => exact aJ.out); (case hi => kernel_rfl); (case hf => exact Nat.le_of_ble_eq_true rfl); (case h1 => rfl); (case hw => rfl); intro w16 hbox hg hbl; replace aU := zbG aU hg aZ; replace aJ := Aside0.mk hbox; replace HB := zhL hbl HB ba; clear hbox hg hbl; have hnb17 := bb.out; have hnc17 := aZ.out; have hcz18_0 : w16.cell? ⟨aV, 0, none⟩ = some (.bool (pk7 aM aN ag ah ai aj ak aa)) := (blk_cell aJ.out 0).trans rfl; have hcz18_1 : w16.cell? ⟨aV, 1, none⟩ = some (.int .i64 (pk7 aK aL ab ac ad ae af aa)) := (blk_cell aJ.out 1).trans rfl; have hcz18_2 : w16.cell? ⟨aV, 2, none⟩ = some (.int .i64 (pk7 aO aS an ar ax aB aF aa)) := (blk_cell aJ.out 2).trans rfl; have hcz18_3 : w16.cell? ⟨aV, 3, none⟩ = some (.int .i64 (pk7 aP aT ao au ay aC aG aa)) := (blk_cell aJ.out 3).trans rfl; have hcz18_4 : w16.cell? ⟨aV, 4, none⟩ = some (.bool (pk7 aQ al ap av az aD aH aa)) := (blk_cell aJ.out 4).trans rfl; have hcz18_5 : w16.cell? ⟨aV, 5, none⟩ = some (.int .i64 (pk7 aR am aq aw aA aE aI aa)) := (blk_cell aJ.out 5).trans rfl; have hfz18_0 := blk_frozen aJ.out 0; have hfz18_1 := blk_frozen aJ.out 1; have hfz18_2 := blk_frozen aJ.out 2; have hfz18_3 := blk_frozen aJ.out 3; have hfz18_4 := blk_frozen aJ.out 4; have hfz18_5 := blk_frozen aJ.out 5))
        go_roundg k1
        case measure => have := HK1.out; omega
        case rel => exact ⟨(wrap64 (aa + 1)), (by first | rfl | (simp; done) | (simp [*]; done)), H', ⟨by have := HK1.out; omega⟩, ⟨by (with_reducible repeat (first | refine blk_drewN ?_ _ | refine blk_drew ?_ | refine blk_alloc ?_ _)); exact aU.out⟩, ⟨zho HB⟩⟩
      ·rw [if_neg c9] at H
       have c9b0 : pk7 aM aN ag ah ai aj ak aa = false := by simpa using c9
       clear c9
       have H' := Aside0.mk H
       clear H
       have vi127 := fun (W_ : World) => idxA25 aM aK aO aP aQ aR aN aL aS aT al am ag ab an ao ap aq ah ac ar au av aw ai ad ax ay az aA aj ae aB aC aD aE ak af aF aG aH aI .i64 (aa) (of_decide_eq_true (by first | (with_reducible assumption) | assumption)) (of_decide_eq_true (by first | (with_reducible assumption) | assumption)) W_
       go_wp2_with (first | ((with_reducible refine gate_dst (N := 7) rfl ?_); refine box_event ?hg (N := 7) ?hd (cs := #[.bool false, .int .i64 0, .int .i64 0, .int .i64 0, .bool false, .int .i64 0]) (t := 24) ?hr ?_; (case hd => rfl); (case hg => rfl); (case hr => first | (go_simp; done) | (go_simp; rfl)); intro aV hg w19 hbox hb; have aJ := Aside0.mk hbox; have bV := zhs HB hg; have ba := zhs HB hg; have aZ := znl aU hg; have bb := zng aU hg; replace aU := zbB aU hb; replace HB := zhB HB hb; clear hb hbox hg) | ((with_reducible refine gate_store (t := 24) (p := 7) rfl ?_); refine seg_event (t := 24) (p := 7) (x := ?xo_w20) (g := aV) (off := 0) (T := 24) (cur := #[.bool false, .int .i64 0, .int .i64 0, .int .i64 0, .bool false, .int .i64 0]) (vs := [.bool (pk7 aM aN ag ah ai aj ak aa), .int .i64 (pk7 aK aL ab ac ad ae af aa), .int .i64 (pk7 aO aS an ar ax aB aF aa), .int .i64 (pk7 aP aT ao au ay aC aG aa), .bool (pk7 aQ al ap av az aD aH aa), .int .i64 (pk7 aR am aq aw aA aE aI aa)]) (new := #[.bool (pk7 aM aN ag ah ai aj ak aa), .int .i64 (pk7 aK aL ab ac ad ae af aa), .int .i64 (pk7 aO aS an ar ax aB aF aa), .int .i64 (pk7 aP aT ao au ay aC aG aa), .bool (pk7 aQ al ap av az aD aH aa), .int .i64 (pk7 aR am aq aw aA aE aI aa)]) ?hg ?ho ?hn ?hp ?hv ?hb ?hi ?hf ?h1 ?hw ?_; (case ho => rfl); (case hg => rfl); (case hn => rfl); (case hp => rfl); (case hv => first | rfl | (go_simp; done) | (simp [*]; done)); (case hb => exact aJ.out); (case hi => kernel_rfl); (case hf => exact Nat.le_of_ble_eq_true rfl); (case h1 => rfl); (case hw => rfl); intro w20 hbox hg hbl; replace aU := zbG aU hg aZ; replace aJ := Aside0.mk hbox; replace HB := zhL hbl HB ba; clear hbox hg hbl; have hnb21 := bb.out; have hnc21 := aZ.out; have hcz22_0 : w20.cell? ⟨aV, 0, none⟩ = some (.bool (pk7 aM aN ag ah ai aj ak aa)) := (blk_cell aJ.out 0).trans rfl; have hcz22_1 : w20.cell? ⟨aV, 1, none⟩ = some (.int .i64 (pk7 aK aL ab ac ad ae af aa)) := (blk_cell aJ.out 1).trans rfl; have hcz22_2 : w20.cell? ⟨aV, 2, none⟩ = some (.int .i64 (pk7 aO aS an ar ax aB aF aa)) := (blk_cell aJ.out 2).trans rfl; have hcz22_3 : w20.cell? ⟨aV, 3, none⟩ = some (.int .i64 (pk7 aP aT ao au ay aC aG aa)) := (blk_cell aJ.out 3).trans rfl; have hcz22_4 : w20.cell? ⟨aV, 4, none⟩ = some (.bool (pk7 aQ al ap av az aD aH aa)) := (blk_cell aJ.out 4).trans rfl; have hcz22_5 : w20.cell? ⟨aV, 5, none⟩ = some (.int .i64 (pk7 aR am aq aw aA aE aI aa)) := (blk_cell aJ.out 5).trans rfl; have hfz22_0 := blk_frozen aJ.out 0; have hfz22_1 := blk_frozen aJ.out 1; have hfz22_2 := blk_frozen aJ.out 2; have hfz22_3 := blk_frozen aJ.out 3; have hfz22_4 := blk_frozen aJ.out 4; have hfz22_5 := blk_frozen aJ.out 5))
       go_roundg k1
       case measure => have := HK1.out; omega
       case rel => exact ⟨(wrap64 (aa + 1)), (by first | rfl | (simp; done) | (simp [*]; done)), H', ⟨by have := HK1.out; omega⟩, ⟨by (with_reducible repeat (first | refine blk_drewN ?_ _ | refine blk_drew ?_ | refine blk_alloc ?_ _)); exact aU.out⟩, ⟨zho HB⟩⟩
     ·rw [if_neg c8] at H
      exact absurd H (by simp)
    ·rw [if_neg c7] at H
     have c7b0 : decide (aa < 7) = false := decide_eq_false c7
     clear c7
     simp only [Option.some.injEq, Prod.mk.injEq] at H
     obtain ⟨rfl, rfl⟩ := H
     go_wp2
     go_ret2
     exact ⟨by first | rfl | (simp [errW_none, errW_some] <;> rfl) | (simp [*, errW_none, errW_some] <;> rfl), zho HB⟩
 ·replace c4 := Bool.eq_false_iff.mpr c4
  subst c4
  have H1 : (some (0, 2)) = some (r1, r2) := by rw [if_neg (show ¬ (false = true) by decide)] at H; exact H
  clear H
  have H := H1
  clear H1
  simp only [Option.some.injEq, Prod.mk.injEq] at H
  obtain ⟨rfl, rfl⟩ := H
  go_enter Try.func40, Try.ntmps40
  go_wp2_with (first | ((with_reducible refine gate_dst (N := 2) rfl ?_); refine box_event ?hg (N := 2) ?hd (cs := Jt aM aK aO aP aQ aR aN aL aS aT al am ag ab an ao ap aq ah ac ar au av aw ai ad ax ay az aA aj ae aB aC aD aE ak af aF aG aH aI aW) (t := 27) ?hr ?_; (case hd => rfl); (case hg => rfl); (case hr => first | (go_simp; done) | (go_simp; rfl)); intro aX hg w23 hbox hb; have aU := Aside0.mk hbox; have GW125 := zhs HB hg; have aY := zhs HB hg; replace HB := zhB HB hb; clear hb hbox hg) | ((with_reducible refine gate_dst (N := 8) rfl ?_); refine seg_load_on (t := 27) (p := 2) (g := aX) (off := 0) (T := 27) (cur := Jt aM aK aO aP aQ aR aN aL aS aT al am ag ab an ao ap aq ah ac ar au av aw ai ad ax ay az aA aj ae aB aC aD aE ak af aF aG aH aI aW) (vs := Vt aM aK aO aP aQ aR aN aL aS aT al am ag ab an ao ap aq ah ac ar au av aw ai ad ax ay az aA aj ae aB aC aD aE ak af aF aG aH aI aW) ?hg ?ho ?hp ?hb Try.underlying27 ?hd ?hi ?hw ?_; (case ho => rfl); (case hg => first | rfl | (go_simp; done) | (simp [Region.wanted, yielded, *]; done)); (case hp => rfl); (case hb => exact aU.out); (case hd => rfl); (case hi => kernel_rfl); (case hw => rfl)) | ((with_reducible refine gate_callee (f := 23) rfl ?_); refine goesL_ (some 9) rfl rfl Try.func23 (by kernel_rfl) rfl #[.agg #[.bool aM, .int .i64 aK, .int .i64 aO, .int .i64 aP, .bool aQ, .int .i64 aR, .bool aN, .int .i64 aL, .int .i64 aS, .int .i64 aT, .bool al, .int .i64 am, .bool ag, .int .i64 ab, .int .i64 an, .int .i64 ao, .bool ap, .int .i64 aq, .bool ah, .int .i64 ac, .int .i64 ar, .int .i64 au, .bool av, .int .i64 aw, .bool ai, .int .i64 ad, .int .i64 ax, .int .i64 ay, .bool az, .int .i64 aA, .bool aj, .int .i64 ae, .int .i64 aB, .int .i64 aC, .bool aD, .int .i64 aE, .bool ak, .int .i64 af, .int .i64 aF, .int .i64 aG, .bool aH, .int .i64 aI, .int .i64 aW]] rfl (by (try simp only [List.map_toArray, List.map_cons, List.map_nil]); first | done | rfl | (simp only [List.length_drop, List.length_take]; rfl)) ?_; (with_reducible refine (jobs_Valid.calls k aM aK aO aP aQ aR aN aL aS aT al am ag ab an ao ap aq ah ac ar au av aw ai ad ax ay az aA aj ae aB aC aD aE ak af aF aG aH aI aW false _ A3.out).mono ?_); rintro e w24 ⟨rfl, hb⟩; refine ⟨_, rfl, ?_⟩; replace aU := zbB aU hb; replace HB := zhB HB hb; (try clear hb); (try clear hb2); (try clear hk); (try clear hi)))
  go_ret2
  exact ⟨by first | rfl | (simp [errW_none, errW_some] <;> rfl) | (simp [*, errW_none, errW_some] <;> rfl), zho HB⟩

end Go.Proofs.Ytjenkcgjpdappaa.P
