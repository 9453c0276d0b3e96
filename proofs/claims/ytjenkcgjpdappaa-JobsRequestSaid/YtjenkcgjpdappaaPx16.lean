-- Printed by a session's own program (wip/turnprint.py, wip/myprint.sh) over the translation's print. -- slim -- short -- s4
import Derived.Test.YtjenkcgjpdappaaPx0
import Derived.Test.YtjenkcgjpdappaaPx4
namespace Go.Proofs.Ytjenkcgjpdappaa.P
open Go.RowKit Go.Proofs.YtjenkcgjpdappaaW.PrintWords Go.Proofs.YtjenkcgjpdappaaW.PrintLast Go.Proofs.YtjenkcgjpdappaaW.PrintMore
attribute [local go_sem] max2_int min2_int max_two min_two max_three min_three max_four min_four   -- for this text's walks alone
set_option linter.unusedVariables false
set_option linter.unusedSimpArgs false

/-! ### jobs_Count: function 24 -/
def jobs_Count.l0 : Nat → Int → Int → Bool → Int → Int → Int → Bool → Int → Bool → Int → Int → Int → Bool → Int → Bool → Int → Int → Int → Bool → Int → Bool → Int → Int → Int → Bool → Int → Bool → Int → Int → Int → Bool → Int → Bool → Int → Int → Int → Bool → Int → Bool → Int → Int → Int → Bool → Int → Option (Int)
 | 0, _, _, _, _, _, _, _, _, _, _, _, _, _, _, _, _, _, _, _, _, _, _, _, _, _, _, _, _, _, _, _, _, _, _, _, _, _, _, _, _, _, _, _, _ => none
 | k + 1, x3, x11, bc, bl, bm, bn, bo, bp, bd, bq, br, bs, bt, bu, be, bv, bw, bx, bz, bA, bf, bB, bC, bD, bE, bF, bg, bG, bH, bI, bJ, bK, bh, bL, bM, bN, bO, bP, bi, bQ, bR, bS, bT, bU => if x11 < 7 then (if 0 ≤ x11 then (if pk7 bc bd be bf bg bh bi x11 = true then (jobs_Count.l0 k (wrap64 (x3 + 1)) (wrap64 (x11 + 1)) bc bl bm bn bo bp bd bq br bs bt bu be bv bw bx bz bA bf bB bC bD bE bF bg bG bH bI bJ bK bh bL bM bN bO bP bi bQ bR bS bT bU) else (jobs_Count.l0 k x3 (wrap64 (x11 + 1)) bc bl bm bn bo bp bd bq br bs bt bu be bv bw bx bz bA bf bB bC bD bE bF bg bG bH bI bJ bK bh bL bM bN bO bP bi bQ bR bS bT bU)) else (none)) else (some x3)
def jobs_Count.f (k : Nat) (aJ : Bool) (aL : Int) (aM : Int) (aN : Int) (aO : Bool) (aP : Int) (aK : Bool) (aQ : Int) (aR : Int) (aS : Int) (ag : Bool) (ah : Int) (ab : Bool) (ai : Int) (aj : Int) (ak : Int) (al : Bool) (am : Int) (ac : Bool) (an : Int) (ao : Int) (ap : Int) (aq : Bool) (ar : Int) (ad : Bool) (au : Int) (av : Int) (aw : Int) (ax : Bool) (ay : Int) (ae : Bool) (az : Int) (aA : Int) (aB : Int) (aC : Bool) (aD : Int) (af : Bool) (aE : Int) (aF : Int) (aG : Int) (aH : Bool) (aI : Int) (aV : Int) : Option (Int) := (jobs_Valid.f k aJ aL aM aN aO aP aK aQ aR aS ag ah ab ai aj ak al am ac an ao ap aq ar ad au av aw ax ay ae az aA aB aC aD af aE aF aG aH aI aV).bind fun bj => (if bj = true then (jobs_Count.l0 k 0 0 aJ aL aM aN aO aP aK aQ aR aS ag ah ab ai aj ak al am ac an ao ap aq ar ad au av aw ax ay ae az aA aB aC aD af aE aF aG aH aI) else (some 0))
theorem jobs_Count.mono_l : ∀ k, (∀ y0 y1 y2 y3 y4 y5 y6 y7 y8 y9 y10 y11 y12 y13 y14 y15 y16 y17 y18 y19 y20 y21 y22 y23 y24 y25 y26 y27 y28 y29 y30 y31 y32 y33 y34 y35 y36 y37 y38 y39 y40 y41 y42 y43, LeO (jobs_Count.l0 k y0 y1 y2 y3 y4 y5 y6 y7 y8 y9 y10 y11 y12 y13 y14 y15 y16 y17 y18 y19 y20 y21 y22 y23 y24 y25 y26 y27 y28 y29 y30 y31 y32 y33 y34 y35 y36 y37 y38 y39 y40 y41 y42 y43) (jobs_Count.l0 (k + 1) y0 y1 y2 y3 y4 y5 y6 y7 y8 y9 y10 y11 y12 y13 y14 y15 y16 y17 y18 y19 y20 y21 y22 y23 y24 y25 y26 y27 y28 y29 y30 y31 y32 y33 y34 y35 y36 y37 y38 y39 y40 y41 y42 y43))
 | 0 => fun _ _ _ _ _ _ _ _ _ _ _ _ _ _ _ _ _ _ _ _ _ _ _ _ _ _ _ _ _ _ _ _ _ _ _ _ _ _ _ _ _ _ _ _ r h => by simp [jobs_Count.l0] at h
 | k + 1 => by
  have ih0 := jobs_Count.mono_l k
  ·intro y0 y1 y2 y3 y4 y5 y6 y7 y8 y9 y10 y11 y12 y13 y14 y15 y16 y17 y18 y19 y20 y21 y22 y23 y24 y25 y26 y27 y28 y29 y30 y31 y32 y33 y34 y35 y36 y37 y38 y39 y40 y41 y42 y43
   unfold jobs_Count.l0
   repeat' first
   | (with_reducible exact ih0 _ _ _ _ _ _ _ _ _ _ _ _ _ _ _ _ _ _ _ _ _ _ _ _ _ _ _ _ _ _ _ _ _ _ _ _ _ _ _ _ _ _ _ _)
   | (with_reducible apply jobs_Valid.mono)
   | (with_reducible exact LeO.refl _)
   | (with_reducible exact LeO.none _)
   | (with_reducible refine LeO.ite ?_ ?_)
   | (with_reducible refine LeO.bind ?_ (fun _ => ?_))
   | exact ih0 _ _ _ _ _ _ _ _ _ _ _ _ _ _ _ _ _ _ _ _ _ _ _ _ _ _ _ _ _ _ _ _ _ _ _ _ _ _ _ _ _ _ _ _
   | apply jobs_Valid.mono
   | exact LeO.none _
   | refine LeO.ite ?_ ?_
   | refine LeO.bind ?_ (fun _ => ?_)
theorem jobs_Count.mono : ∀ a0 a1 a2 a3 a4 a5 a6 a7 a8 a9 a10 a11 a12 a13 a14 a15 a16 a17 a18 a19 a20 a21 a22 a23 a24 a25 a26 a27 a28 a29 a30 a31 a32 a33 a34 a35 a36 a37 a38 a39 a40 a41 a42 k, LeO (jobs_Count.f k a0 a1 a2 a3 a4 a5 a6 a7 a8 a9 a10 a11 a12 a13 a14 a15 a16 a17 a18 a19 a20 a21 a22 a23 a24 a25 a26 a27 a28 a29 a30 a31 a32 a33 a34 a35 a36 a37 a38 a39 a40 a41 a42) (jobs_Count.f (k + 1) a0 a1 a2 a3 a4 a5 a6 a7 a8 a9 a10 a11 a12 a13 a14 a15 a16 a17 a18 a19 a20 a21 a22 a23 a24 a25 a26 a27 a28 a29 a30 a31 a32 a33 a34 a35 a36 a37 a38 a39 a40 a41 a42) := by
 intro a0 a1 a2 a3 a4 a5 a6 a7 a8 a9 a10 a11 a12 a13 a14 a15 a16 a17 a18 a19 a20 a21 a22 a23 a24 a25 a26 a27 a28 a29 a30 a31 a32 a33 a34 a35 a36 a37 a38 a39 a40 a41 a42 k
 have ih0 := jobs_Count.mono_l k
 unfold jobs_Count.f
 repeat' first
   | (with_reducible exact ih0 _ _ _ _ _ _ _ _ _ _ _ _ _ _ _ _ _ _ _ _ _ _ _ _ _ _ _ _ _ _ _ _ _ _ _ _ _ _ _ _ _ _ _ _)
   | (with_reducible apply jobs_Valid.mono)
   | (with_reducible exact LeO.refl _)
   | (with_reducible exact LeO.none _)
   | (with_reducible refine LeO.ite ?_ ?_)
   | (with_reducible refine LeO.bind ?_ (fun _ => ?_))
   | exact ih0 _ _ _ _ _ _ _ _ _ _ _ _ _ _ _ _ _ _ _ _ _ _ _ _ _ _ _ _ _ _ _ _ _ _ _ _ _ _ _ _ _ _ _ _
   | apply jobs_Valid.mono
   | exact LeO.none _
   | refine LeO.ite ?_ ?_
   | refine LeO.bind ?_ (fun _ => ?_)
set_option maxHeartbeats 8000000 in
set_option maxRecDepth 100000 in
theorem jobs_Count.calls (k : Nat) (aJ : Bool) (aL : Int) (aM : Int) (aN : Int) (aO : Bool) (aP : Int) (aK : Bool) (aQ : Int) (aR : Int) (aS : Int) (ag : Bool) (ah : Int) (ab : Bool) (ai : Int) (aj : Int) (ak : Int) (al : Bool) (am : Int) (ac : Bool) (an : Int) (ao : Int) (ap : Int) (aq : Bool) (ar : Int) (ad : Bool) (au : Int) (av : Int) (aw : Int) (ax : Bool) (ay : Int) (ae : Bool) (az : Int) (aA : Int) (aB : Int) (aC : Bool) (aD : Int) (af : Bool) (aE : Int) (aF : Int) (aG : Int) (aH : Bool) (aI : Int) (aV : Int) (r : Int) (w : World) (h : jobs_Count.f k aJ aL aM aN aO aP aK aQ aR aS ag ah ab ai aj ak al am ac an ao ap aq ar ad au av aw ax ay ae az aA aB aC aD af aE aF aG aH aI aV = some r) :
  Calls Try.prog 24 #[.agg #[.bool aJ, .int .i64 aL, .int .i64 aM, .int .i64 aN, .bool aO, .int .i64 aP, .bool aK, .int .i64 aQ, .int .i64 aR, .int .i64 aS, .bool ag, .int .i64 ah, .bool ab, .int .i64 ai, .int .i64 aj, .int .i64 ak, .bool al, .int .i64 am, .bool ac, .int .i64 an, .int .i64 ao, .int .i64 ap, .bool aq, .int .i64 ar, .bool ad, .int .i64 au, .int .i64 av, .int .i64 aw, .bool ax, .int .i64 ay, .bool ae, .int .i64 az, .int .i64 aA, .int .i64 aB, .bool aC, .int .i64 aD, .bool af, .int .i64 aE, .int .i64 aF, .int .i64 aG, .bool aH, .int .i64 aI, .int .i64 aV]] w fun e w' => e = .returned (.int .i64 r) ∧ Below w.heap.size w w' := by
 have hu27 := Try.underlying27
 have hu25 := Try.underlying25
 have hu24 := Try.underlying24
 have HB := Aside0.mk (Below.refl w.heap.size w)
 have H := h
 unfold jobs_Count.f at H
 clear h
 replace H := Option.bind_eq_some_iff.mp H
 obtain ⟨bj, A20, H⟩ := H
 try dsimp only at H
 have A2 := Aside0.mk A20
 clear A20
 by_cases c3 : bj = true
 ·subst c3
  have H1 : (jobs_Count.l0 k 0 0 aJ aL aM aN aO aP aK aQ aR aS ag ah ab ai aj ak al am ac an ao ap aq ar ad au av aw ax ay ae az aA aB aC aD af aE aF aG aH aI) = some r := by rw [if_pos rfl] at H; exact H
  clear H
  have H := H1
  clear H1
  have H' := Aside0.mk H
  clear H
  go_enter Try.func24, Try.ntmps24
  go_wp2_with (first | ((with_reducible refine gate_dst (N := 1) rfl ?_); refine box_event ?hg (N := 1) ?hd (cs := Jt aJ aL aM aN aO aP aK aQ aR aS ag ah ab ai aj ak al am ac an ao ap aq ar ad au av aw ax ay ae az aA aB aC aD af aE aF aG aH aI aV) (t := 27) ?hr ?_; (case hd => rfl); (case hg => rfl); (case hr => first | (go_simp; done) | (go_simp; rfl)); intro aW hg w4 hbox hb; have aU := Aside0.mk hbox; have GW351 := zhs HB hg; have aY := zhs HB hg; replace HB := zhB HB hb; clear hb hbox hg) | ((with_reducible refine gate_dst (N := 6) rfl ?_); refine seg_load_on (t := 27) (p := 1) (g := aW) (off := 0) (T := 27) (cur := Jt aJ aL aM aN aO aP aK aQ aR aS ag ah ab ai aj ak al am ac an ao ap aq ar ad au av aw ax ay ae az aA aB aC aD af aE aF aG aH aI aV) (vs := Vt aJ aL aM aN aO aP aK aQ aR aS ag ah ab ai aj ak al am ac an ao ap aq ar ad au av aw ax ay ae az aA aB aC aD af aE aF aG aH aI aV) ?hg ?ho ?hp ?hb Try.underlying27 ?hd ?hi ?hw ?_; (case ho => rfl); (case hg => first | rfl | (go_simp; done) | (simp [Region.wanted, yielded, *]; done)); (case hp => rfl); (case hb => exact aU.out); (case hd => rfl); (case hi => kernel_rfl); (case hw => rfl)) | ((with_reducible refine gate_callee (f := 23) rfl ?_); refine goesL_ (some 7) rfl rfl Try.func23 (by kernel_rfl) rfl #[.agg #[.bool aJ, .int .i64 aL, .int .i64 aM, .int .i64 aN, .bool aO, .int .i64 aP, .bool aK, .int .i64 aQ, .int .i64 aR, .int .i64 aS, .bool ag, .int .i64 ah, .bool ab, .int .i64 ai, .int .i64 aj, .int .i64 ak, .bool al, .int .i64 am, .bool ac, .int .i64 an, .int .i64 ao, .int .i64 ap, .bool aq, .int .i64 ar, .bool ad, .int .i64 au, .int .i64 av, .int .i64 aw, .bool ax, .int .i64 ay, .bool ae, .int .i64 az, .int .i64 aA, .int .i64 aB, .bool aC, .int .i64 aD, .bool af, .int .i64 aE, .int .i64 aF, .int .i64 aG, .bool aH, .int .i64 aI, .int .i64 aV]] rfl (by (try simp only [List.map_toArray, List.map_cons, List.map_nil]); first | done | rfl | (simp only [List.length_drop, List.length_take]; rfl)) ?_; (with_reducible refine (jobs_Valid.calls k aJ aL aM aN aO aP aK aQ aR aS ag ah ab ai aj ak al am ac an ao ap aq ar ad au av aw ax ay ae az aA aB aC aD af aE aF aG aH aI aV true _ A2.out).mono ?_); rintro e w5 ⟨rfl, hb⟩; refine ⟨_, rfl, ?_⟩; replace aU := zbB aU hb; replace HB := zhB HB hb; (try clear hb); (try clear hb2); (try clear hk); (try clear hi)) | ((with_reducible refine gate_dst (N := 10) rfl ?_); refine seg_load_on (t := 25) (p := 9) (g := aW) (off := 0) (T := 27) (cur := Jt aJ aL aM aN aO aP aK aQ aR aS ag ah ab ai aj ak al am ac an ao ap aq ar ad au av aw ax ay ae az aA aB aC aD af aE aF aG aH aI aV) (vs := [.bool aJ, .int .i64 aL, .int .i64 aM, .int .i64 aN, .bool aO, .int .i64 aP, .bool aK, .int .i64 aQ, .int .i64 aR, .int .i64 aS, .bool ag, .int .i64 ah, .bool ab, .int .i64 ai, .int .i64 aj, .int .i64 ak, .bool al, .int .i64 am, .bool ac, .int .i64 an, .int .i64 ao, .int .i64 ap, .bool aq, .int .i64 ar, .bool ad, .int .i64 au, .int .i64 av, .int .i64 aw, .bool ax, .int .i64 ay, .bool ae, .int .i64 az, .int .i64 aA, .int .i64 aB, .bool aC, .int .i64 aD, .bool af, .int .i64 aE, .int .i64 aF, .int .i64 aG, .bool aH, .int .i64 aI]) ?hg ?ho ?hp ?hb Try.underlying25 ?hd ?hi ?hw ?_; (case ho => rfl); (case hg => first | rfl | (go_simp; done) | (simp [Region.wanted, yielded, *]; done)); (case hp => rfl); (case hb => exact aU.out); (case hd => rfl); (case hi => kernel_rfl); (case hw => rfl)))
  go_loopg [3, 11] k (fun kq v3 v11 w' => ∃ (bk : Int) (aa : Int), v3 = .int .i64 bk ∧ v11 = .int .i64 aa ∧ Aside0 (jobs_Count.l0 kq bk aa aJ aL aM aN aO aP aK aQ aR aS ag ah ab ai aj ak al am ac an ao ap aq ar ad au av aw ax ay ae az aA aB aC aD af aE aF aG aH aI = some r) ∧ Aside0 (kq ≤ k) ∧ Aside0 (w'.heap[aW]? = some (.cells (Jt aJ aL aM aN aO aP aK aQ aR aS ag ah ab ai aj ak al am ac an ao ap aq ar ad au av aw ax ay ae az aA aB aC aD af aE aF aG aH aI aV) 27 (0, 0))) ∧ Aside0 (Below w.heap.size w w'))
  case atStart => exact ⟨(0), (0), (by first | rfl | (simp; done) | (simp [*]; done)), (by first | rfl | (simp; done) | (simp [*]; done)), H', ⟨Nat.le_refl _⟩, ⟨by (with_reducible repeat (first | refine blk_drewN ?_ _ | refine blk_drew ?_ | refine blk_alloc ?_ _)); exact aU.out⟩, ⟨zho HB⟩⟩
  case round =>
   clear H'
   try clear c2 p2 c3
   obtain ⟨bk, aa, rfl, rfl, HA, HK1, aU, HB⟩ := hrel
   cases gk with
   | zero => exact absurd HA.out (by simp [jobs_Count.l0])
   | succ k1 =>
    have H := HA.out
    clear HA
    simp only [jobs_Count.l0] at H
    by_cases c6 : aa < 7
    ·rw [if_pos c6] at H
     have c6b0 : decide (aa < 7) = true := decide_eq_true c6
     clear c6
     by_cases c7 : 0 ≤ aa
     ·rw [if_pos c7] at H
      have c7b0 : decide (0 ≤ aa) = true := decide_eq_true c7
      clear c7
      by_cases c8 : pk7 aJ aK ab ac ad ae af aa = true
      ·rw [if_pos c8] at H
       have c8b0 : pk7 aJ aK ab ac ad ae af aa = true := c8
       clear c8
       have H' := Aside0.mk H
       clear H
       have vi353 := fun (W_ : World) => idxA25 aJ aL aM aN aO aP aK aQ aR aS ag ah ab ai aj ak al am ac an ao ap aq ar ad au av aw ax ay ae az aA aB aC aD af aE aF aG aH aI .i64 (aa) (of_decide_eq_true (by first | (with_reducible assumption) | assumption)) (of_decide_eq_true (by first | (with_reducible assumption) | assumption)) W_
       go_wp2_with (first | ((with_reducible refine gate_dst (N := 5) rfl ?_); refine box_event ?hg (N := 5) ?hd (cs := #[.bool false, .int .i64 0, .int .i64 0, .int .i64 0, .bool false, .int .i64 0]) (t := 24) ?hr ?_; (case hd => rfl); (case hg => rfl); (case hr => first | (go_simp; done) | (go_simp; rfl)); intro aX hg w9 hbox hb; have aT := Aside0.mk hbox; have GW354 := zhs HB hg; have ba := zhs HB hg; have aZ := znl aU hg; have bb := zng aU hg; replace aU := zbB aU hb; replace HB := zhB HB hb; clear hb hbox hg) | ((with_reducible refine gate_store (t := 24) (p := 5) rfl ?_); refine seg_event (t := 24) (p := 5) (x := ?xo_w10) (g := aX) (off := 0) (T := 24) (cur := #[.bool false, .int .i64 0, .int .i64 0, .int .i64 0, .bool false, .int .i64 0]) (vs := [.bool (pk7 aJ aK ab ac ad ae af aa), .int .i64 (pk7 aL aQ ai an au az aE aa), .int .i64 (pk7 aM aR aj ao av aA aF aa), .int .i64 (pk7 aN aS ak ap aw aB aG aa), .bool (pk7 aO ag al aq ax aC aH aa), .int .i64 (pk7 aP ah am ar ay aD aI aa)]) (new := #[.bool (pk7 aJ aK ab ac ad ae af aa), .int .i64 (pk7 aL aQ ai an au az aE aa), .int .i64 (pk7 aM aR aj ao av aA aF aa), .int .i64 (pk7 aN aS ak ap aw aB aG aa), .bool (pk7 aO ag al aq ax aC aH aa), .int .i64 (pk7 aP ah am ar ay aD aI aa)]) ?hg ?ho ?hn ?hp ?hv ?hb ?hi ?hf ?h1 ?hw ?_; (case ho => rfl); (case hg => rfl); (case hn => rfl); (case hp => rfl); (case hv => first | rfl | (go_simp; done) | (simp [*]; done)); (case hb => exact aT.out); (case hi => kernel_rfl); (case hf => exact Nat.le_of_ble_eq_true rfl); (case h1 => rfl); (case hw => rfl); intro w10 hbox hg hbl; replace aU := zbG aU hg aZ; replace aT := Aside0.mk hbox; replace HB := zhL hbl HB ba; clear hbox hg hbl; have hnb11 := bb.out; have hnc11 := aZ.out; have hcz12_0 : w10.cell? ⟨aX, 0, none⟩ = some (.bool (pk7 aJ aK ab ac ad ae af aa)) := (blk_cell aT.out 0).trans rfl; have hcz12_1 : w10.cell? ⟨aX, 1, none⟩ = some (.int .i64 (pk7 aL aQ ai an au az aE aa)) := (blk_cell aT.out 1).trans rfl; have hcz12_2 : w10.cell? ⟨aX, 2, none⟩ = some (.int .i64 (pk7 aM aR aj ao av aA aF aa)) := (blk_cell aT.out 2).trans rfl; have hcz12_3 : w10.cell? ⟨aX, 3, none⟩ = some (.int .i64 (pk7 aN aS ak ap aw aB aG aa)) := (blk_cell aT.out 3).trans rfl; have hcz12_4 : w10.cell? ⟨aX, 4, none⟩ = some (.bool (pk7 aO ag al aq ax aC aH aa)) := (blk_cell aT.out 4).trans rfl; have hcz12_5 : w10.cell? ⟨aX, 5, none⟩ = some (.int .i64 (pk7 aP ah am ar ay aD aI aa)) := (blk_cell aT.out 5).trans rfl; have hfz12_0 := blk_frozen aT.out 0; have hfz12_1 := blk_frozen aT.out 1; have hfz12_2 := blk_frozen aT.out 2; have hfz12_3 := blk_frozen aT.out 3; have hfz12_4 := blk_frozen aT.out 4; have hfz12_5 := blk_frozen aT.out 5))
       go_roundg k1
       case measure => have := HK1.out; omega
       case rel => exact ⟨(wrap64 (bk + 1)), (wrap64 (aa + 1)), (by first | rfl | (simp; done) | (simp [*]; done)), (by first | rfl | (simp; done) | (simp [*]; done)), H', ⟨by have := HK1.out; omega⟩, ⟨by (with_reducible repeat (first | refine blk_drewN ?_ _ | refine blk_drew ?_ | refine blk_alloc ?_ _)); exact aU.out⟩, ⟨zho HB⟩⟩
      ·rw [if_neg c8] at H
       have c8b0 : pk7 aJ aK ab ac ad ae af aa = false := by simpa using c8
       clear c8
       have H' := Aside0.mk H
       clear H
       have vi353 := fun (W_ : World) => idxA25 aJ aL aM aN aO aP aK aQ aR aS ag ah ab ai aj ak al am ac an ao ap aq ar ad au av aw ax ay ae az aA aB aC aD af aE aF aG aH aI .i64 (aa) (of_decide_eq_true (by first | (with_reducible assumption) | assumption)) (of_decide_eq_true (by first | (with_reducible assumption) | assumption)) W_
       go_wp2_with (first | ((with_reducible refine gate_dst (N := 5) rfl ?_); refine box_event ?hg (N := 5) ?hd (cs := #[.bool false, .int .i64 0, .int .i64 0, .int .i64 0, .bool false, .int .i64 0]) (t := 24) ?hr ?_; (case hd => rfl); (case hg => rfl); (case hr => first | (go_simp; done) | (go_simp; rfl)); intro aX hg w13 hbox hb; have aT := Aside0.mk hbox; have GW354 := zhs HB hg; have ba := zhs HB hg; have aZ := znl aU hg; have bb := zng aU hg; replace aU := zbB aU hb; replace HB := zhB HB hb; clear hb hbox hg) | ((with_reducible refine gate_store (t := 24) (p := 5) rfl ?_); refine seg_event (t := 24) (p := 5) (x := ?xo_w14) (g := aX) (off := 0) (T := 24) (cur := #[.bool false, .int .i64 0, .int .i64 0, .int .i64 0, .bool false, .int .i64 0]) (vs := [.bool (pk7 aJ aK ab ac ad ae af aa), .int .i64 (pk7 aL aQ ai an au az aE aa), .int .i64 (pk7 aM aR aj ao av aA aF aa), .int .i64 (pk7 aN aS ak ap aw aB aG aa), .bool (pk7 aO ag al aq ax aC aH aa), .int .i64 (pk7 aP ah am ar ay aD aI aa)]) (new := #[.bool (pk7 aJ aK ab ac ad ae af aa), .int .i64 (pk7 aL aQ ai an au az aE aa), .int .i64 (pk7 aM aR aj ao av aA aF aa), .int .i64 (pk7 aN aS ak ap aw aB aG aa), .bool (pk7 aO ag al aq ax aC aH aa), .int .i64 (pk7 aP ah am ar ay aD aI aa)]) ?hg ?ho ?hn ?hp ?hv ?hb ?hi ?hf ?h1 ?hw ?_; (case ho => rfl); (case hg => rfl); (case hn => rfl); (case hp => rfl); (case hv => first | rfl | (go_simp; done) | (simp [*]; done)); (case hb => exact aT.out); (case hi => kernel_rfl); (case hf => exact Nat.le_of_ble_eq_true rfl); (case h1 => rfl); (case hw => rfl); intro w14 hbox hg hbl; replace aU := zbG aU hg aZ; replace aT := Aside0.mk hbox; replace HB := zhL hbl HB ba; clear hbox hg hbl; have hnb15 := bb.out; have hnc15 := aZ.out; have hcz16_0 : w14.cell? ⟨aX, 0, none⟩ = some (.bool (pk7 aJ aK ab ac ad ae af aa)) := (blk_cell aT.out 0).trans rfl; have hcz16_1 : w14.cell? ⟨aX, 1, none⟩ = some (.int .i64 (pk7 aL aQ ai an au az aE aa)) := (blk_cell aT.out 1).trans rfl; have hcz16_2 : w14.cell? ⟨aX, 2, none⟩ = some (.int .i64 (pk7 aM aR aj ao av aA aF aa)) := (blk_cell aT.out 2).trans rfl; have hcz16_3 : w14.cell? ⟨aX, 3, none⟩ = some (.int .i64 (pk7 aN aS ak ap aw aB aG aa)) := (blk_cell aT.out 3).trans rfl; have hcz16_4 : w14.cell? ⟨aX, 4, none⟩ = some (.bool (pk7 aO ag al aq ax aC aH aa)) := (blk_cell aT.out 4).trans rfl; have hcz16_5 : w14.cell? ⟨aX, 5, none⟩ = some (.int .i64 (pk7 aP ah am ar ay aD aI aa)) := (blk_cell aT.out 5).trans rfl; have hfz16_0 := blk_frozen aT.out 0; have hfz16_1 := blk_frozen aT.out 1; have hfz16_2 := blk_frozen aT.out 2; have hfz16_3 := blk_frozen aT.out 3; have hfz16_4 := blk_frozen aT.out 4; have hfz16_5 := blk_frozen aT.out 5))
       go_roundg k1
       case measure => have := HK1.out; omega
       case rel => exact ⟨(bk), (wrap64 (aa + 1)), (by first | rfl | (simp; done) | (simp [*]; done)), (by first | rfl | (simp; done) | (simp [*]; done)), H', ⟨by have := HK1.out; omega⟩, ⟨by (with_reducible repeat (first | refine blk_drewN ?_ _ | refine blk_drew ?_ | refine blk_alloc ?_ _)); exact aU.out⟩, ⟨zho HB⟩⟩
     ·rw [if_neg c7] at H
      exact absurd H (by simp)
    ·rw [if_neg c6] at H
     have c6b0 : decide (aa < 7) = false := decide_eq_false c6
     clear c6
     obtain rfl := Option.some.inj H
     go_wp2
     go_ret
     exact ⟨by first | rfl | (simp [errW_none, errW_some] <;> rfl) | (simp [*, errW_none, errW_some] <;> rfl), zho HB⟩
 ·replace c3 := Bool.eq_false_iff.mpr c3
  subst c3
  have H1 : (some 0) = some r := by rw [if_neg (show ¬ (false = true) by decide)] at H; exact H
  clear H
  have H := H1
  clear H1
  obtain rfl := Option.some.inj H
  go_enter Try.func24, Try.ntmps24
  go_wp2_with (first | ((with_reducible refine gate_dst (N := 1) rfl ?_); refine box_event ?hg (N := 1) ?hd (cs := Jt aJ aL aM aN aO aP aK aQ aR aS ag ah ab ai aj ak al am ac an ao ap aq ar ad au av aw ax ay ae az aA aB aC aD af aE aF aG aH aI aV) (t := 27) ?hr ?_; (case hd => rfl); (case hg => rfl); (case hr => first | (go_simp; done) | (go_simp; rfl)); intro aW hg w17 hbox hb; have aU := Aside0.mk hbox; have GW351 := zhs HB hg; have aY := zhs HB hg; replace HB := zhB HB hb; clear hb hbox hg) | ((with_reducible refine gate_dst (N := 6) rfl ?_); refine seg_load_on (t := 27) (p := 1) (g := aW) (off := 0) (T := 27) (cur := Jt aJ aL aM aN aO aP aK aQ aR aS ag ah ab ai aj ak al am ac an ao ap aq ar ad au av aw ax ay ae az aA aB aC aD af aE aF aG aH aI aV) (vs := Vt aJ aL aM aN aO aP aK aQ aR aS ag ah ab ai aj ak al am ac an ao ap aq ar ad au av aw ax ay ae az aA aB aC aD af aE aF aG aH aI aV) ?hg ?ho ?hp ?hb Try.underlying27 ?hd ?hi ?hw ?_; (case ho => rfl); (case hg => first | rfl | (go_simp; done) | (simp [Region.wanted, yielded, *]; done)); (case hp => rfl); (case hb => exact aU.out); (case hd => rfl); (case hi => kernel_rfl); (case hw => rfl)) | ((with_reducible refine gate_callee (f := 23) rfl ?_); refine goesL_ (some 7) rfl rfl Try.func23 (by kernel_rfl) rfl #[.agg #[.bool aJ, .int .i64 aL, .int .i64 aM, .int .i64 aN, .bool aO, .int .i64 aP, .bool aK, .int .i64 aQ, .int .i64 aR, .int .i64 aS, .bool ag, .int .i64 ah, .bool ab, .int .i64 ai, .int .i64 aj, .int .i64 ak, .bool al, .int .i64 am, .bool ac, .int .i64 an, .int .i64 ao, .int .i64 ap, .bool aq, .int .i64 ar, .bool ad, .int .i64 au, .int .i64 av, .int .i64 aw, .bool ax, .int .i64 ay, .bool ae, .int .i64 az, .int .i64 aA, .int .i64 aB, .bool aC, .int .i64 aD, .bool af, .int .i64 aE, .int .i64 aF, .int .i64 aG, .bool aH, .int .i64 aI, .int .i64 aV]] rfl (by (try simp only [List.map_toArray, List.map_cons, List.map_nil]); first | done | rfl | (simp only [List.length_drop, List.length_take]; rfl)) ?_; (with_reducible refine (jobs_Valid.calls k aJ aL aM aN aO aP aK aQ aR aS ag ah ab ai aj ak al am ac an ao ap aq ar ad au av aw ax ay ae az aA aB aC aD af aE aF aG aH aI aV false _ A2.out).mono ?_); rintro e w18 ⟨rfl, hb⟩; refine ⟨_, rfl, ?_⟩; replace aU := zbB aU hb; replace HB := zhB HB hb; (try clear hb); (try clear hb2); (try clear hk); (try clear hi)))
  go_ret
  exact ⟨by first | rfl | (simp [errW_none, errW_some] <;> rfl) | (simp [*, errW_none, errW_some] <;> rfl), zho HB⟩

end Go.Proofs.Ytjenkcgjpdappaa.P
