-- Printed by a session's own program (wip/turnprint.py, wip/myprint.sh) over the translation's print.
import Derived.Test.YtdncfnlhkacpaaaPx0
import Derived.Test.YtdncfnlhkacpaaaPx11
namespace Go.Proofs.Ytdncfnlhkacpaaa.P
open Go.RowKit Go.Proofs.YtdncfnlhkacpaaaW.PrintWords Go.Proofs.YtdncfnlhkacpaaaW.PrintLast Go.Proofs.YtdncfnlhkacpaaaW.PrintMore
attribute [local go_sem] max2_int min2_int max_two min_two max_three min_three max_four min_four   -- for this text's walks alone
set_option linter.unusedVariables false
set_option linter.unusedSimpArgs false

/-! ### periluneref32_All: function 19 -/
def periluneref32_All.l0 : Nat → List (S22) → List Int → Int → Bool → Int → Option (List Int × Bool × Int)
  | 0, _, _, _, _, _ => none
  | k + 1, x0, x5, x6, x381000, x381001 => if x6 < (x0.length : Int) then (if 0 ≤ x6 then ((periluneref32_Receive.f k x381000 x381001 ((rd_T22 x0 x6).f0) ((rd_T22 x0 x6).f1) ((rd_T22 x0 x6).f2) ((rd_T22 x0 x6).f3) ((rd_T22 x0 x6).f4) ((rd_T22 x0 x6).f5) ((rd_T22 x0 x6).f6) ((rd_T22 x0 x6).f7) ((rd_T22 x0 x6).f8) ((rd_T22 x0 x6).f9) ((rd_T22 x0 x6).f10) ((rd_T22 x0 x6).f11) ((rd_T22 x0 x6).f12) ((rd_T22 x0 x6).f13) ((rd_T22 x0 x6).f14) ((rd_T22 x0 x6).f15)).bind fun bt382 => (if bt382.2.2.2 = true then (if x5.length < 17592186044416 then (periluneref32_All.l0 k x0 (x5 ++ [bt382.2.2.1]) (wrap64 (x6 + 1)) bt382.1 bt382.2.1) else (none)) else (periluneref32_All.l0 k x0 x5 (wrap64 (x6 + 1)) bt382.1 bt382.2.1))) else (none)) else (some (x5, x381000, x381001))
def periluneref32_All.f (k : Nat) (l0 : List (S22)) : Option (List Int × Bool × Int) := periluneref32_All.l0 k l0 ([] : List Int) 0 false 0
theorem periluneref32_All.mono_l : ∀ k, (∀ y0 y1 y2 y3 y4, LeO (periluneref32_All.l0 k y0 y1 y2 y3 y4) (periluneref32_All.l0 (k + 1) y0 y1 y2 y3 y4))
  | 0 => fun _ _ _ _ _ r h => by simp [periluneref32_All.l0] at h
  | k + 1 => by
    have ih0 := periluneref32_All.mono_l k
    · intro y0 y1 y2 y3 y4
      unfold periluneref32_All.l0
      repeat' first
      | (with_reducible exact ih0 _ _ _ _ _)
      | (with_reducible exact periluneref32_Receive.mono _ _ _ _ _ _ _ _ _ _ _ _ _ _ _ _ _ _ _)
      | (with_reducible exact LeO.refl _)
      | (with_reducible exact LeO.none _)
      | (with_reducible refine LeO.ite ?_ ?_)
      | (with_reducible refine LeO.bind ?_ (fun _ => ?_))
      | exact ih0 _ _ _ _ _
      | exact periluneref32_Receive.mono _ _ _ _ _ _ _ _ _ _ _ _ _ _ _ _ _ _ _
      | exact LeO.none _
      | refine LeO.ite ?_ ?_
      | refine LeO.bind ?_ (fun _ => ?_)
theorem periluneref32_All.mono : ∀ a0 k, LeO (periluneref32_All.f k a0) (periluneref32_All.f (k + 1) a0) := by
  intro a0 k
  have ih0 := periluneref32_All.mono_l k
  unfold periluneref32_All.f
  repeat' first
      | (with_reducible exact ih0 _ _ _ _ _)
      | (with_reducible exact periluneref32_Receive.mono _ _ _ _ _ _ _ _ _ _ _ _ _ _ _ _ _ _ _)
      | (with_reducible exact LeO.refl _)
      | (with_reducible exact LeO.none _)
      | (with_reducible refine LeO.ite ?_ ?_)
      | (with_reducible refine LeO.bind ?_ (fun _ => ?_))
      | exact ih0 _ _ _ _ _
      | exact periluneref32_Receive.mono _ _ _ _ _ _ _ _ _ _ _ _ _ _ _ _ _ _ _
      | exact LeO.none _
      | refine LeO.ite ?_ ?_
      | refine LeO.bind ?_ (fun _ => ?_)
def periluneref32_All.T6 : Bool × List (List Nat × List Nat) := (true, [([], []), ([], []), ([], []), ([1, 2], [1, 2]), ([3], [3]), ([0, 4], [0, 4]), ([5], [5]), ([6], [6]), ([6], [6]), ([6], [6]), ([], []), ([10, 7, 5, 0, 1, 2, 3, 4, 5, 6, 7, 10], [7, 10]), ([8, 11, 0, 1, 2, 3, 4, 5, 6, 7, 8, 10, 11], [8]), ([9, 12, 0, 1, 2, 3, 4, 5, 6, 7, 8, 9, 10, 11, 12], [9])])
def periluneref32_All.B6 : List Nat := [0, 0, 0, 6, 14, 31, 63, 127, 127, 127, 0, 1279, 3583, 8191]
theorem periluneref32_All.tab6 : rtab .any (opsOf Try.f19 6) = periluneref32_All.T6 := by kernel_rfl
theorem periluneref32_All.bits6 : waitsOk periluneref32_All.T6.2 periluneref32_All.B6 = true := by kernel_rfl
set_option maxHeartbeats 8000000 in
set_option maxRecDepth 100000 in
theorem periluneref32_All.calls (k : Nat) (A0 : Option Addr) (c0 : Nat) (l0 : List (S22)) (r1 : List Int) (r2 : Bool) (r3 : Int) (w : World) (hr0 : Kd.C k22 w A0 l0.length l0) (hc0 : l0.length ≤ c0) (h : periluneref32_All.f k l0 = some (r1, r2, r3)) :
    Calls Try.prog 19 #[.slice A0 l0.length c0] w fun e w' => ∃ v0_ : Value, e = .returned (.tuple #[v0_, .agg #[.bool r2, .int .i64 r3]]) ∧ Kd.R (Kd.int .i64) 3 w' w.heap.size (fun _ => True) v0_ r1 ∧ Below w.heap.size w w' := by
  have hu31 := Try.underlying31
  have hu22 := Try.underlying22
  have HR0 := Aside0.mk hr0
  have HC0 := Aside0.mk hc0
  clear hr0 hc0
  have HB := Aside0.mk (Below.refl w.heap.size w)
  have H : (periluneref32_All.l0 k l0 ([] : List Int) 0 false 0) = some (r1, r2, r3) := h
  clear h
  have H' := Aside0.mk H
  clear H
  go_enter Try.func19, Try.ntmps19
  go_wp2_with (first | ((with_reducible refine gate_dst (N := 3) rfl ?_); refine box_event ?hg (N := 3) ?hd (cs := #[.bool false, .int .i64 0]) (t := 31) ?hr ?_; (case hd => rfl); (case hg => rfl); (case hr => first | (go_simp; done) | (go_simp; rfl)); intro gb379 hg w2 hbox hb; have n0_ := Aside0.mk (below_step (by repeat (first | (with_reducible first | exact HB.out | apply below_alloc | apply pw_below_drewN | apply below_drew1) | exact HB.out)) hb); have n1_ := Aside0.mk (hbox); have n2_ := Aside0.mk ((by rw [hg]; exact (below_size (by repeat (first | (with_reducible first | exact HB.out | apply below_alloc | apply pw_below_drewN | apply below_drew1) | exact HB.out))) : w.heap.size ≤ gb379)); have n3_ := Aside0.mk ((by rw [hg]; exact (below_size (by repeat (first | (with_reducible first | exact HB.out | apply below_alloc | apply pw_below_drewN | apply below_drew1) | exact HB.out))) : w.heap.size ≤ gb379)); clear HB; have HB := n0_; have BK379 := n1_; have GW379 := n2_; have GE379 := n3_; clear n0_ n1_ n2_ n3_; clear hb hbox hg) | ((with_reducible refine gate_dst (N := 4) rfl ?_); refine box_event ?hg (N := 4) ?hd (cs := #[.bool false, .int .i64 0]) (t := 31) ?hr ?_; (case hd => rfl); (case hg => rfl); (case hr => first | (go_simp; done) | (go_simp; rfl)); intro gb380 hg w3 hbox hb; have n0_ := Aside0.mk (blk_below (g := gb379) (o := .cells #[.bool false, .int .i64 0] 31 (0, 0)) (by (with_reducible repeat (first | refine blk_drewN ?_ _ | refine blk_drew ?_ | refine blk_alloc ?_ _)); exact BK379.out) hb); have n1_ := Aside0.mk (below_step (by repeat (first | (with_reducible first | exact HB.out | apply below_alloc | apply pw_below_drewN | apply below_drew1 | refine below_set ?_ GE379.out) | exact HB.out)) hb); have n2_ := Aside0.mk (hbox); have n3_ := Aside0.mk ((by rw [hg]; exact (below_size (by repeat (first | (with_reducible first | exact HB.out | apply below_alloc | apply pw_below_drewN | apply below_drew1 | refine below_set ?_ GE379.out) | exact HB.out))) : w.heap.size ≤ gb380)); have n4_ := Aside0.mk ((by rw [hg]; exact (below_size (by repeat (first | (with_reducible first | exact HB.out | apply below_alloc | apply pw_below_drewN | apply below_drew1 | refine below_set ?_ GE379.out) | exact HB.out))) : w.heap.size ≤ gb380)); have n5_ := Aside0.mk ((by rw [hg]; exact Nat.ne_of_lt (blk_lt (g := gb379) (o := .cells #[.bool false, .int .i64 0] 31 (0, 0)) (by (with_reducible repeat (first | refine blk_drewN ?_ _ | refine blk_drew ?_ | refine blk_alloc ?_ _)); exact BK379.out)) : gb379 ≠ gb380)); have n6_ := Aside0.mk ((by rw [hg]; exact Nat.ne_of_gt (blk_lt (g := gb379) (o := .cells #[.bool false, .int .i64 0] 31 (0, 0)) (by (with_reducible repeat (first | refine blk_drewN ?_ _ | refine blk_drew ?_ | refine blk_alloc ?_ _)); exact BK379.out)) : gb380 ≠ gb379)); clear BK379; clear HB; have BK379 := n0_; have HB := n1_; have BK380 := n2_; have GW380 := n3_; have GE380 := n4_; have NB379_380 := n5_; have NB380_379 := n6_; clear n0_ n1_ n2_ n3_ n4_ n5_ n6_; clear hb hbox hg))
  go_loopg [5, 6] k (fun kq v5 v6 w' => ∃ (x5_1 : List Int) (x6_1 : Int) (x381000_1 : Bool) (x381001_1 : Int), v6 = .int .i64 x6_1 ∧ Aside0 (periluneref32_All.l0 kq l0 x5_1 x6_1 x381000_1 x381001_1 = some (r1, r2, r3)) ∧ Aside0 (kq ≤ k) ∧ Aside0 (Kd.R (Kd.int .i64) 3 w' w.heap.size (fun _ => True) v5 x5_1) ∧ Aside0 (w'.heap[gb379]? = some (.cells #[.bool false, .int .i64 0] 31 (0, 0))) ∧ Aside0 (w'.heap[gb380]? = some (.cells #[.bool x381000_1, .int .i64 x381001_1] 31 (0, 0))) ∧ Aside0 (Below w.heap.size w w'))
  case atStart => exact ⟨(([] : List Int)), (0), (false), (0), (by first | rfl | (simp; done) | (simp [*]; done)), H', ⟨Nat.le_refl _⟩, ⟨by first | exact Kd.R_nil _ _ _ _ _ | exact Kd.N_nil _ _ _ _ _ | exact Kd.V_nil _ _ _ _ _ | exact Kd.Q_nil _ _ _ _ _ | exact Kd.S_nil _ _ _ _ _⟩, ⟨by (with_reducible repeat (first | refine blk_drewN ?_ _ | refine blk_drew ?_ | refine blk_alloc ?_ _)); exact BK379.out⟩, ⟨by (with_reducible repeat (first | refine blk_drewN ?_ _ | refine blk_drew ?_ | refine blk_alloc ?_ _)); exact BK380.out⟩, ⟨by repeat (first | (with_reducible first | exact HB.out | apply below_alloc | apply pw_below_drewN | apply below_drew1 | refine below_set ?_ GE379.out | refine below_set ?_ GE380.out) | exact HB.out)⟩⟩
  case round =>
    clear H'
    try clear c1
    try clear p2
    obtain ⟨x5_1, x6_1, x381000_1, x381001_1, rfl, HA, HK1, HO_5, BK379, BK380, HB⟩ := hrel
    cases gk with
    | zero => exact absurd HA.out (by simp [periluneref32_All.l0])
    | succ k1 =>
      have H := HA.out
      clear HA
      simp only [periluneref32_All.l0] at H
      by_cases c4 : x6_1 < (l0.length : Int)
      · rw [if_pos c4] at H
        have c4b0 : decide (x6_1 < (l0.length : Int)) = true := decide_eq_true c4
        clear c4
        by_cases c5 : 0 ≤ x6_1
        · rw [if_pos c5] at H
          have c5b0 : decide (0 ≤ x6_1) = true := decide_eq_true c5
          clear c5
          replace H := Option.bind_eq_some_iff.mp H
          obtain ⟨⟨t382, t383, t384, t385⟩, A60, H⟩ := H
          replace H : (if t385 = true then (if x5_1.length < 17592186044416 then (periluneref32_All.l0 k1 l0 (x5_1 ++ [t384]) (wrap64 (x6_1 + 1)) t382 t383) else (none)) else (periluneref32_All.l0 k1 l0 x5_1 (wrap64 (x6_1 + 1)) t382 t383)) = some (r1, r2, r3) := H
          have A6 := Aside0.mk A60
          clear A60
          by_cases c7 : t385 = true
          · subst c7
            have H1 : (if x5_1.length < 17592186044416 then (periluneref32_All.l0 k1 l0 (x5_1 ++ [t384]) (wrap64 (x6_1 + 1)) t382 t383) else (none)) = some (r1, r2, r3) := by rw [if_pos rfl] at H; exact H
            clear H
            have H := H1
            clear H1
            by_cases c8 : x5_1.length < 17592186044416
            · rw [if_pos c8] at H
              have LMc8 := Aside0.mk c8
              clear c8
              obtain ⟨y387, hy387⟩ : ∃ y_ : List Int, y_ = (x5_1 ++ [t384]) := ⟨_, rfl⟩
              replace H : (periluneref32_All.l0 k1 l0 y387 (wrap64 (x6_1 + 1)) t382 t383) = some (r1, r2, r3) := by first | (rw [hy387]; with_reducible exact H) | (have H2_ := (Option.bind_some _ _).symm.trans H; rw [hy387]; with_reducible exact H2_) | (have H2_ := (Option.bind_some _ _).symm.trans H; with_reducible exact H2_) | with_reducible exact H | (rw [hy387]; exact H) | exact H
              have Ny387 := Aside0.mk hy387
              clear hy387
              have H' := Aside0.mk H
              clear H
              try go_wp2
              have n0_ := Aside0.mk (Kd.R_drew HO_5.out)
              have n1_ := Aside0.mk (blk_drew BK379.out)
              have n2_ := Aside0.mk (blk_drew BK380.out)
              have n3_ := Aside0.mk (below_drew1 HB.out)
              clear HO_5
              clear BK379
              clear BK380
              clear HB
              have HO_5 := n0_
              have BK379 := n1_
              have BK380 := n2_
              have HB := n3_
              clear n0_ n1_ n2_ n3_
              have p381 : 0 ≤ (x6_1 : Int) := of_decide_eq_true (by first | (with_reducible assumption) | assumption)
              have q381 : x6_1 < (l0.length : Int) := of_decide_eq_true (by first | (with_reducible assumption) | assumption)
              obtain ⟨ad381, e381, hx381_0, hx381_1, hx381_2, hx381_3, hx381_4, hx381_5, hx381_6, hx381_7, hx381_8, hx381_9, hx381_10, hx381_11, hx381_12, hx381_13, hx381_14, hx381_15⟩ := at_T22 HR0.out x6_1 p381 q381
              have hw381_15 := hx381_15
              have hw381_14 := hx381_14
              have hw381_13 := hx381_13
              have hw381_12 := hx381_12
              have hw381_11 := hx381_11
              have hw381_10 := hx381_10
              have hw381_9 := hx381_9
              have hw381_8 := hx381_8
              have hw381_7 := hx381_7
              have hw381_6 := hx381_6
              have hw381_5 := hx381_5
              have hw381_4 := hx381_4
              have hw381_3 := hx381_3
              have hw381_2 := hx381_2
              have hw381_1 := hx381_1
              have hw381_0 := hx381_0
              cases e381
              replace hx381_0 := (HB.out.cell (World.block_lt_of_cell? w _ hx381_0)).trans hx381_0
              replace hx381_1 := (HB.out.cell (World.block_lt_of_cell? w _ hx381_1)).trans hx381_1
              replace hx381_2 := (HB.out.cell (World.block_lt_of_cell? w _ hx381_2)).trans hx381_2
              replace hx381_3 := (HB.out.cell (World.block_lt_of_cell? w _ hx381_3)).trans hx381_3
              replace hx381_4 := (HB.out.cell (World.block_lt_of_cell? w _ hx381_4)).trans hx381_4
              replace hx381_5 := (HB.out.cell (World.block_lt_of_cell? w _ hx381_5)).trans hx381_5
              replace hx381_6 := (HB.out.cell (World.block_lt_of_cell? w _ hx381_6)).trans hx381_6
              replace hx381_7 := (HB.out.cell (World.block_lt_of_cell? w _ hx381_7)).trans hx381_7
              replace hx381_8 := (HB.out.cell (World.block_lt_of_cell? w _ hx381_8)).trans hx381_8
              replace hx381_9 := (HB.out.cell (World.block_lt_of_cell? w _ hx381_9)).trans hx381_9
              replace hx381_10 := (HB.out.cell (World.block_lt_of_cell? w _ hx381_10)).trans hx381_10
              replace hx381_11 := (HB.out.cell (World.block_lt_of_cell? w _ hx381_11)).trans hx381_11
              replace hx381_12 := (HB.out.cell (World.block_lt_of_cell? w _ hx381_12)).trans hx381_12
              replace hx381_13 := (HB.out.cell (World.block_lt_of_cell? w _ hx381_13)).trans hx381_13
              replace hx381_14 := (HB.out.cell (World.block_lt_of_cell? w _ hx381_14)).trans hx381_14
              replace hx381_15 := (HB.out.cell (World.block_lt_of_cell? w _ hx381_15)).trans hx381_15
              replace p381 := eq_true p381
              replace q381 := eq_true q381
              refine start_ (n := 14) (S := fun w' => w'.cell? ⟨gb380, 0, none⟩ = some (.bool x381000_1) ∧ w'.cell? ⟨gb380, 1, none⟩ = some (.int .i64 x381001_1) ∧ w'.cell? (ad381.add ((x6_1).toNat * 16)) = some (.int .u8 ((rd_T22 l0 x6_1).f0)) ∧ w'.cell? ⟨(ad381.add ((x6_1).toNat * 16)).block, (ad381.add ((x6_1).toNat * 16)).off + 1, none⟩ = some (.int .u8 ((rd_T22 l0 x6_1).f1)) ∧ w'.cell? ⟨(ad381.add ((x6_1).toNat * 16)).block, (ad381.add ((x6_1).toNat * 16)).off + 2, none⟩ = some (.int .u8 ((rd_T22 l0 x6_1).f2)) ∧ w'.cell? ⟨(ad381.add ((x6_1).toNat * 16)).block, (ad381.add ((x6_1).toNat * 16)).off + 3, none⟩ = some (.int .u8 ((rd_T22 l0 x6_1).f3)) ∧ w'.cell? ⟨(ad381.add ((x6_1).toNat * 16)).block, (ad381.add ((x6_1).toNat * 16)).off + 4, none⟩ = some (.int .u8 ((rd_T22 l0 x6_1).f4)) ∧ w'.cell? ⟨(ad381.add ((x6_1).toNat * 16)).block, (ad381.add ((x6_1).toNat * 16)).off + 5, none⟩ = some (.int .u8 ((rd_T22 l0 x6_1).f5)) ∧ w'.cell? ⟨(ad381.add ((x6_1).toNat * 16)).block, (ad381.add ((x6_1).toNat * 16)).off + 6, none⟩ = some (.int .u8 ((rd_T22 l0 x6_1).f6)) ∧ w'.cell? ⟨(ad381.add ((x6_1).toNat * 16)).block, (ad381.add ((x6_1).toNat * 16)).off + 7, none⟩ = some (.int .u8 ((rd_T22 l0 x6_1).f7)) ∧ w'.cell? ⟨(ad381.add ((x6_1).toNat * 16)).block, (ad381.add ((x6_1).toNat * 16)).off + 8, none⟩ = some (.int .u8 ((rd_T22 l0 x6_1).f8)) ∧ w'.cell? ⟨(ad381.add ((x6_1).toNat * 16)).block, (ad381.add ((x6_1).toNat * 16)).off + 9, none⟩ = some (.int .u8 ((rd_T22 l0 x6_1).f9)) ∧ w'.cell? ⟨(ad381.add ((x6_1).toNat * 16)).block, (ad381.add ((x6_1).toNat * 16)).off + 10, none⟩ = some (.int .u8 ((rd_T22 l0 x6_1).f10)) ∧ w'.cell? ⟨(ad381.add ((x6_1).toNat * 16)).block, (ad381.add ((x6_1).toNat * 16)).off + 11, none⟩ = some (.int .u8 ((rd_T22 l0 x6_1).f11)) ∧ w'.cell? ⟨(ad381.add ((x6_1).toNat * 16)).block, (ad381.add ((x6_1).toNat * 16)).off + 12, none⟩ = some (.int .u8 ((rd_T22 l0 x6_1).f12)) ∧ w'.cell? ⟨(ad381.add ((x6_1).toNat * 16)).block, (ad381.add ((x6_1).toNat * 16)).off + 13, none⟩ = some (.int .u8 ((rd_T22 l0 x6_1).f13)) ∧ w'.cell? ⟨(ad381.add ((x6_1).toNat * 16)).block, (ad381.add ((x6_1).toNat * 16)).off + 14, none⟩ = some (.int .u8 ((rd_T22 l0 x6_1).f14)) ∧ w'.cell? ⟨(ad381.add ((x6_1).toNat * 16)).block, (ad381.add ((x6_1).toNat * 16)).off + 15, none⟩ = some (.int .u8 ((rd_T22 l0 x6_1).f15))) (ds := []) #[false, false, false, false, false, false, false, false, false, false, false, false, false, false] (by kernel_rfl) rfl rfl ⟨(blk_cell BK380.out 0).trans rfl, (blk_cell BK380.out 1).trans rfl, ((HB.out.cell (World.block_lt_of_cell? w _ hw381_0)).trans hw381_0), ((HB.out.cell (World.block_lt_of_cell? w _ hw381_1)).trans hw381_1), ((HB.out.cell (World.block_lt_of_cell? w _ hw381_2)).trans hw381_2), ((HB.out.cell (World.block_lt_of_cell? w _ hw381_3)).trans hw381_3), ((HB.out.cell (World.block_lt_of_cell? w _ hw381_4)).trans hw381_4), ((HB.out.cell (World.block_lt_of_cell? w _ hw381_5)).trans hw381_5), ((HB.out.cell (World.block_lt_of_cell? w _ hw381_6)).trans hw381_6), ((HB.out.cell (World.block_lt_of_cell? w _ hw381_7)).trans hw381_7), ((HB.out.cell (World.block_lt_of_cell? w _ hw381_8)).trans hw381_8), ((HB.out.cell (World.block_lt_of_cell? w _ hw381_9)).trans hw381_9), ((HB.out.cell (World.block_lt_of_cell? w _ hw381_10)).trans hw381_10), ((HB.out.cell (World.block_lt_of_cell? w _ hw381_11)).trans hw381_11), ((HB.out.cell (World.block_lt_of_cell? w _ hw381_12)).trans hw381_12), ((HB.out.cell (World.block_lt_of_cell? w _ hw381_13)).trans hw381_13), ((HB.out.cell (World.block_lt_of_cell? w _ hw381_14)).trans hw381_14), ((HB.out.cell (World.block_lt_of_cell? w _ hw381_15)).trans hw381_15)⟩ (fun hHeld => ?_); refine with_tabW periluneref32_All.tab6 periluneref32_All.bits6 (fun HT_ HW_ => ?_)
              generalize wr.drew = w9 at HO_5 BK379 BK380 HB hx381_0 hx381_1 hx381_10 hx381_11 hx381_12 hx381_13 hx381_14 hx381_15 hx381_2 hx381_3 hx381_4 hx381_5 hx381_6 hx381_7 hx381_8 hx381_9 hHeld ⊢
              refine pure_ (i := 1) (N := some 18) (v := ?_) (a' := ?_) #[false, true, false, false, false, false, false, false, false, false, false, false, false, false] rfl rfl (any_of HT_.out (by kernel_rfl)) (fun _ _ _ h => h) (Or.inl ⟨by rfl, ?_⟩) ?_ ?_
              rotate_left
              · intro w'
                go_simp
                with_reducible rfl
              rotate_left
              · simp only [Act.put, List.setIfInBounds_toArray, List.set_cons_zero, List.set_cons_succ, i64_w, i32_w]
                rfl
              refine pure_ (i := 2) (N := some 19) (v := ?_) (a' := ?_) #[false, true, true, false, false, false, false, false, false, false, false, false, false, false] rfl rfl (any_of HT_.out (by kernel_rfl)) (fun _ _ _ h => h) (Or.inl ⟨by rfl, ?_⟩) ?_ ?_
              rotate_left
              · intro w'
                go_simp
                with_reducible rfl
              rotate_left
              · simp only [Act.put, List.setIfInBounds_toArray, List.set_cons_zero, List.set_cons_succ, i64_w, i32_w]
                rfl
              refine pure_ (i := 3) (N := some 20) (v := ?_) (a' := ?_) #[false, true, true, true, false, false, false, false, false, false, false, false, false, false] rfl rfl (any_of HT_.out (by kernel_rfl)) (fun _ _ _ h => h) (Or.inl ⟨by rfl, ?_⟩) ?_ ?_
              rotate_left
              · intro w'
                go_simp
                with_reducible rfl
              rotate_left
              · simp only [Act.put, List.setIfInBounds_toArray, List.set_cons_zero, List.set_cons_succ, i64_w, i32_w]
                rfl
              refine take_ (i := 0) (N := some 17) (v := ?_) (a' := ?_) #[true, true, true, true, false, false, false, false, false, false, false, false, false, false] rfl rfl (take_ofW HT_.out HW_.out (by kernel_rfl)) (fun _ _ _ h => h) (Or.inl ⟨by rfl, ?_⟩) hHeld ?_ ?_
              rotate_left
              · rintro w' ⟨s0, s1, s2, s3, s4, s5, s6, s7, s8, s9, s10, s11, s12, s13, s14, s15, s16, s17⟩
                go_simp
                with_reducible rfl
              rotate_left
              · simp only [Act.put, List.setIfInBounds_toArray, List.set_cons_zero, List.set_cons_succ, i64_w, i32_w]
                rfl
              refine take_ (i := 4) (N := some 21) (v := ?_) (a' := ?_) #[true, true, true, true, true, false, false, false, false, false, false, false, false, false] rfl rfl (take_ofW HT_.out HW_.out (by kernel_rfl)) (fun _ _ _ h => h) (Or.inl ⟨by rfl, ?_⟩) hHeld ?_ ?_
              rotate_left
              · rintro w' ⟨s0, s1, s2, s3, s4, s5, s6, s7, s8, s9, s10, s11, s12, s13, s14, s15, s16, s17⟩
                go_simp
                with_reducible rfl
              rotate_left
              · simp only [Act.put, List.setIfInBounds_toArray, List.set_cons_zero, List.set_cons_succ, i64_w, i32_w]
                rfl
              refine join_ (σ := Nat) 3 #[true, true, true, true, true, true, true, true, true, true, true, false, false, false] (fun s_ => [(22, .tuple #[.agg #[.bool t382, .int .i64 t383], .int .i64 t384, .bool true]), (7, .pointer (some ⟨s_, 0, none⟩)), (16, .tuple #[.agg #[.bool t382, .int .i64 t383], .int .i64 t384, .bool true]), (23, .agg #[.bool t382, .int .i64 t383]), (24, .int .i64 t384), (25, .bool true)]) (fun s_ w' => (w'.cell? ⟨gb380, 0, none⟩ = some (.bool x381000_1) ∧ w'.cell? ⟨gb380, 1, none⟩ = some (.int .i64 x381001_1) ∧ w'.cell? (ad381.add ((x6_1).toNat * 16)) = some (.int .u8 ((rd_T22 l0 x6_1).f0)) ∧ w'.cell? ⟨(ad381.add ((x6_1).toNat * 16)).block, (ad381.add ((x6_1).toNat * 16)).off + 1, none⟩ = some (.int .u8 ((rd_T22 l0 x6_1).f1)) ∧ w'.cell? ⟨(ad381.add ((x6_1).toNat * 16)).block, (ad381.add ((x6_1).toNat * 16)).off + 2, none⟩ = some (.int .u8 ((rd_T22 l0 x6_1).f2)) ∧ w'.cell? ⟨(ad381.add ((x6_1).toNat * 16)).block, (ad381.add ((x6_1).toNat * 16)).off + 3, none⟩ = some (.int .u8 ((rd_T22 l0 x6_1).f3)) ∧ w'.cell? ⟨(ad381.add ((x6_1).toNat * 16)).block, (ad381.add ((x6_1).toNat * 16)).off + 4, none⟩ = some (.int .u8 ((rd_T22 l0 x6_1).f4)) ∧ w'.cell? ⟨(ad381.add ((x6_1).toNat * 16)).block, (ad381.add ((x6_1).toNat * 16)).off + 5, none⟩ = some (.int .u8 ((rd_T22 l0 x6_1).f5)) ∧ w'.cell? ⟨(ad381.add ((x6_1).toNat * 16)).block, (ad381.add ((x6_1).toNat * 16)).off + 6, none⟩ = some (.int .u8 ((rd_T22 l0 x6_1).f6)) ∧ w'.cell? ⟨(ad381.add ((x6_1).toNat * 16)).block, (ad381.add ((x6_1).toNat * 16)).off + 7, none⟩ = some (.int .u8 ((rd_T22 l0 x6_1).f7)) ∧ w'.cell? ⟨(ad381.add ((x6_1).toNat * 16)).block, (ad381.add ((x6_1).toNat * 16)).off + 8, none⟩ = some (.int .u8 ((rd_T22 l0 x6_1).f8)) ∧ w'.cell? ⟨(ad381.add ((x6_1).toNat * 16)).block, (ad381.add ((x6_1).toNat * 16)).off + 9, none⟩ = some (.int .u8 ((rd_T22 l0 x6_1).f9)) ∧ w'.cell? ⟨(ad381.add ((x6_1).toNat * 16)).block, (ad381.add ((x6_1).toNat * 16)).off + 10, none⟩ = some (.int .u8 ((rd_T22 l0 x6_1).f10)) ∧ w'.cell? ⟨(ad381.add ((x6_1).toNat * 16)).block, (ad381.add ((x6_1).toNat * 16)).off + 11, none⟩ = some (.int .u8 ((rd_T22 l0 x6_1).f11)) ∧ w'.cell? ⟨(ad381.add ((x6_1).toNat * 16)).block, (ad381.add ((x6_1).toNat * 16)).off + 12, none⟩ = some (.int .u8 ((rd_T22 l0 x6_1).f12)) ∧ w'.cell? ⟨(ad381.add ((x6_1).toNat * 16)).block, (ad381.add ((x6_1).toNat * 16)).off + 13, none⟩ = some (.int .u8 ((rd_T22 l0 x6_1).f13)) ∧ w'.cell? ⟨(ad381.add ((x6_1).toNat * 16)).block, (ad381.add ((x6_1).toNat * 16)).off + 14, none⟩ = some (.int .u8 ((rd_T22 l0 x6_1).f14)) ∧ w'.cell? ⟨(ad381.add ((x6_1).toNat * 16)).block, (ad381.add ((x6_1).toNat * 16)).off + 15, none⟩ = some (.int .u8 ((rd_T22 l0 x6_1).f15))) ∧ (Kd.R (Kd.int .i64) 3 w' w.heap.size (fun _ => True) u5 x5_1) ∧ (w'.heap[gb379]? = some (.cells #[.bool false, .int .i64 0] 31 (0, 0))) ∧ (w'.heap[gb380]? = some (.cells #[.bool x381000_1, .int .i64 x381001_1] 31 (0, 0))) ∧ (w'.heap[s_]? = some (.cells #[.bool false, .int .i64 0] 31 (0, 0))) ∧ (w.heap.size ≤ s_) ∧ (w.heap.size ≤ s_) ∧ (gb379 ≠ s_) ∧ (s_ ≠ gb379) ∧ (gb380 ≠ s_) ∧ (s_ ≠ gb380) ∧ (Below w.heap.size w w')) ?_ ?_
              rotate_left
              · intro hCont
                refine two_ (i := 5) (j := 10) (Ni := some 22) (Nj := some 7) #[true, true, true, true, true, true, false, false, false, false, false, false, false, false] #[true, true, true, true, true, false, false, false, false, false, true, false, false, false] rfl rfl rfl rfl (two_of HT_.out (by kernel_rfl)) (by decide) (by decide) (fun K hK => ?_) (fun K hK => ?_)
                · skip
                  refine goes_ Try.func17 (by kernel_rfl) rfl #[.agg #[.bool x381000_1, .int .i64 x381001_1], .agg #[.int .u8 ((rd_T22 l0 x6_1).f0), .int .u8 ((rd_T22 l0 x6_1).f1), .int .u8 ((rd_T22 l0 x6_1).f2), .int .u8 ((rd_T22 l0 x6_1).f3), .int .u8 ((rd_T22 l0 x6_1).f4), .int .u8 ((rd_T22 l0 x6_1).f5), .int .u8 ((rd_T22 l0 x6_1).f6), .int .u8 ((rd_T22 l0 x6_1).f7), .int .u8 ((rd_T22 l0 x6_1).f8), .int .u8 ((rd_T22 l0 x6_1).f9), .int .u8 ((rd_T22 l0 x6_1).f10), .int .u8 ((rd_T22 l0 x6_1).f11), .int .u8 ((rd_T22 l0 x6_1).f12), .int .u8 ((rd_T22 l0 x6_1).f13), .int .u8 ((rd_T22 l0 x6_1).f14), .int .u8 ((rd_T22 l0 x6_1).f15)]] (by rfl) rfl rfl (by (try simp only [List.map_toArray, List.map_cons, List.map_nil]); first | done | rfl | (simp only [List.length_drop, List.length_take]; rfl)) ?_
                  with_reducible refine (periluneref32_Receive.calls k1 x381000_1 x381001_1 ((rd_T22 l0 x6_1).f0) ((rd_T22 l0 x6_1).f1) ((rd_T22 l0 x6_1).f2) ((rd_T22 l0 x6_1).f3) ((rd_T22 l0 x6_1).f4) ((rd_T22 l0 x6_1).f5) ((rd_T22 l0 x6_1).f6) ((rd_T22 l0 x6_1).f7) ((rd_T22 l0 x6_1).f8) ((rd_T22 l0 x6_1).f9) ((rd_T22 l0 x6_1).f10) ((rd_T22 l0 x6_1).f11) ((rd_T22 l0 x6_1).f12) ((rd_T22 l0 x6_1).f13) ((rd_T22 l0 x6_1).f14) ((rd_T22 l0 x6_1).f15) t382 t383 t384 true _ A6.out).mono ?_
                  rintro e w10 ⟨rfl, hb⟩
                  refine ⟨_, rfl, ?_⟩
                  have n0_ := Aside0.mk (Kd.R_below (by (with_reducible repeat (first | apply Kd.R_alloc | apply Kd.R_drewN | apply Kd.R_drew)); exact HO_5.out) hb)
                  have n1_ := Aside0.mk (blk_below (g := gb379) (o := .cells #[.bool false, .int .i64 0] 31 (0, 0)) (by (with_reducible repeat (first | refine blk_drewN ?_ _ | refine blk_drew ?_ | refine blk_alloc ?_ _)); exact BK379.out) hb)
                  have n2_ := Aside0.mk (blk_below (g := gb380) (o := .cells #[.bool x381000_1, .int .i64 x381001_1] 31 (0, 0)) (by (with_reducible repeat (first | refine blk_drewN ?_ _ | refine blk_drew ?_ | refine blk_alloc ?_ _)); exact BK380.out) hb)
                  have n3_ := Aside0.mk (below_step (by repeat (first | (with_reducible first | exact HB.out | apply below_alloc | apply pw_below_drewN | apply below_drew1 | refine below_set ?_ GE379.out | refine below_set ?_ GE380.out) | exact HB.out)) hb)
                  clear HO_5
                  clear BK379
                  clear BK380
                  clear HB
                  have HO_5 := n0_
                  have BK379 := n1_
                  have BK380 := n2_
                  have HB := n3_
                  clear n0_ n1_ n2_ n3_
                  (try clear hb)
                  (try clear hb2)
                  (try clear hk)
                  (try clear hi)
                  refine hK.out _ _ ⟨(blk_cell BK380.out 0).trans rfl, (blk_cell BK380.out 1).trans rfl, ((HB.out.cell (World.block_lt_of_cell? w _ hw381_0)).trans hw381_0), ((HB.out.cell (World.block_lt_of_cell? w _ hw381_1)).trans hw381_1), ((HB.out.cell (World.block_lt_of_cell? w _ hw381_2)).trans hw381_2), ((HB.out.cell (World.block_lt_of_cell? w _ hw381_3)).trans hw381_3), ((HB.out.cell (World.block_lt_of_cell? w _ hw381_4)).trans hw381_4), ((HB.out.cell (World.block_lt_of_cell? w _ hw381_5)).trans hw381_5), ((HB.out.cell (World.block_lt_of_cell? w _ hw381_6)).trans hw381_6), ((HB.out.cell (World.block_lt_of_cell? w _ hw381_7)).trans hw381_7), ((HB.out.cell (World.block_lt_of_cell? w _ hw381_8)).trans hw381_8), ((HB.out.cell (World.block_lt_of_cell? w _ hw381_9)).trans hw381_9), ((HB.out.cell (World.block_lt_of_cell? w _ hw381_10)).trans hw381_10), ((HB.out.cell (World.block_lt_of_cell? w _ hw381_11)).trans hw381_11), ((HB.out.cell (World.block_lt_of_cell? w _ hw381_12)).trans hw381_12), ((HB.out.cell (World.block_lt_of_cell? w _ hw381_13)).trans hw381_13), ((HB.out.cell (World.block_lt_of_cell? w _ hw381_14)).trans hw381_14), ((HB.out.cell (World.block_lt_of_cell? w _ hw381_15)).trans hw381_15)⟩ (fun hHeld => ?_)
                  clear hK K
                  refine norm_ (a' := ?_) ?_ ?_
                  rotate_left
                  · show Act.put _ (some 22) _ = _
                    simp only [Act.put, List.setIfInBounds_toArray, List.set_cons_zero, List.set_cons_succ, i64_w, i32_w]
                    rfl
                  refine pure_ (i := 6) (N := some 16) (v := ?_) (a' := ?_) #[true, true, true, true, true, true, true, false, false, false, false, false, false, false] rfl rfl (any_of HT_.out (by kernel_rfl)) (fun _ _ _ h => h) (Or.inl ⟨by rfl, ?_⟩) ?_ ?_
                  rotate_left
                  · intro w'
                    go_simp
                    with_reducible rfl
                  rotate_left
                  · simp only [Act.put, List.setIfInBounds_toArray, List.set_cons_zero, List.set_cons_succ, i64_w, i32_w]
                    rfl
                  refine pure_ (i := 7) (N := some 23) (v := ?_) (a' := ?_) #[true, true, true, true, true, true, true, true, false, false, false, false, false, false] rfl rfl (any_of HT_.out (by kernel_rfl)) (fun _ _ _ h => h) (Or.inl ⟨by rfl, ?_⟩) ?_ ?_
                  rotate_left
                  · intro w'
                    go_simp
                    with_reducible rfl
                  rotate_left
                  · simp only [Act.put, List.setIfInBounds_toArray, List.set_cons_zero, List.set_cons_succ, i64_w, i32_w]
                    rfl
                  refine pure_ (i := 8) (N := some 24) (v := ?_) (a' := ?_) #[true, true, true, true, true, true, true, true, true, false, false, false, false, false] rfl rfl (any_of HT_.out (by kernel_rfl)) (fun _ _ _ h => h) (Or.inl ⟨by rfl, ?_⟩) ?_ ?_
                  rotate_left
                  · intro w'
                    go_simp
                    with_reducible rfl
                  rotate_left
                  · simp only [Act.put, List.setIfInBounds_toArray, List.set_cons_zero, List.set_cons_succ, i64_w, i32_w]
                    rfl
                  refine pure_ (i := 9) (N := some 25) (v := ?_) (a' := ?_) #[true, true, true, true, true, true, true, true, true, true, false, false, false, false] rfl rfl (any_of HT_.out (by kernel_rfl)) (fun _ _ _ h => h) (Or.inl ⟨by rfl, ?_⟩) ?_ ?_
                  rotate_left
                  · intro w'
                    go_simp
                    with_reducible rfl
                  rotate_left
                  · simp only [Act.put, List.setIfInBounds_toArray, List.set_cons_zero, List.set_cons_succ, i64_w, i32_w]
                    rfl
                  refine one_ (i := 10) (N := some 7) #[true, true, true, true, true, true, true, true, true, true, true, false, false, false] rfl rfl (one_of HT_.out (by kernel_rfl)) (by decide) (fun K hK => ?_)
                  refine box_step ?hg (N := 7) ?hd (cs := #[.bool false, .int .i64 0]) (t := 31) ?hr ?_; (case hd => rfl); (case hg => rfl); (case hr => first | (go_simp; done) | (go_simp; rfl))
                  intro gb386 hg w11 hbox hb
                  have n0_ := Aside0.mk (Kd.R_below (by (with_reducible repeat (first | apply Kd.R_alloc | apply Kd.R_drewN | apply Kd.R_drew)); exact HO_5.out) hb)
                  have n1_ := Aside0.mk (blk_below (g := gb379) (o := .cells #[.bool false, .int .i64 0] 31 (0, 0)) (by (with_reducible repeat (first | refine blk_drewN ?_ _ | refine blk_drew ?_ | refine blk_alloc ?_ _)); exact BK379.out) hb)
                  have n2_ := Aside0.mk (blk_below (g := gb380) (o := .cells #[.bool x381000_1, .int .i64 x381001_1] 31 (0, 0)) (by (with_reducible repeat (first | refine blk_drewN ?_ _ | refine blk_drew ?_ | refine blk_alloc ?_ _)); exact BK380.out) hb)
                  have n3_ := Aside0.mk (below_step (by repeat (first | (with_reducible first | exact HB.out | apply below_alloc | apply pw_below_drewN | apply below_drew1 | refine below_set ?_ GE379.out | refine below_set ?_ GE380.out) | exact HB.out)) hb)
                  have n4_ := Aside0.mk (hbox)
                  have n5_ := Aside0.mk ((by rw [hg]; exact (below_size (by repeat (first | (with_reducible first | exact HB.out | apply below_alloc | apply pw_below_drewN | apply below_drew1 | refine below_set ?_ GE379.out | refine below_set ?_ GE380.out) | exact HB.out))) : w.heap.size ≤ gb386))
                  have n6_ := Aside0.mk ((by rw [hg]; exact (below_size (by repeat (first | (with_reducible first | exact HB.out | apply below_alloc | apply pw_below_drewN | apply below_drew1 | refine below_set ?_ GE379.out | refine below_set ?_ GE380.out) | exact HB.out))) : w.heap.size ≤ gb386))
                  have n7_ := Aside0.mk ((by rw [hg]; exact Nat.ne_of_lt (blk_lt (g := gb379) (o := .cells #[.bool false, .int .i64 0] 31 (0, 0)) (by (with_reducible repeat (first | refine blk_drewN ?_ _ | refine blk_drew ?_ | refine blk_alloc ?_ _)); exact BK379.out)) : gb379 ≠ gb386))
                  have n8_ := Aside0.mk ((by rw [hg]; exact Nat.ne_of_gt (blk_lt (g := gb379) (o := .cells #[.bool false, .int .i64 0] 31 (0, 0)) (by (with_reducible repeat (first | refine blk_drewN ?_ _ | refine blk_drew ?_ | refine blk_alloc ?_ _)); exact BK379.out)) : gb386 ≠ gb379))
                  have n9_ := Aside0.mk ((by rw [hg]; exact Nat.ne_of_lt (blk_lt (g := gb380) (o := .cells #[.bool x381000_1, .int .i64 x381001_1] 31 (0, 0)) (by (with_reducible repeat (first | refine blk_drewN ?_ _ | refine blk_drew ?_ | refine blk_alloc ?_ _)); exact BK380.out)) : gb380 ≠ gb386))
                  have n10_ := Aside0.mk ((by rw [hg]; exact Nat.ne_of_gt (blk_lt (g := gb380) (o := .cells #[.bool x381000_1, .int .i64 x381001_1] 31 (0, 0)) (by (with_reducible repeat (first | refine blk_drewN ?_ _ | refine blk_drew ?_ | refine blk_alloc ?_ _)); exact BK380.out)) : gb386 ≠ gb380))
                  clear HO_5
                  clear BK379
                  clear BK380
                  clear HB
                  have HO_5 := n0_
                  have BK379 := n1_
                  have BK380 := n2_
                  have HB := n3_
                  have BK386 := n4_
                  have GW386 := n5_
                  have GE386 := n6_
                  have NB379_386 := n7_
                  have NB386_379 := n8_
                  have NB380_386 := n9_
                  have NB386_380 := n10_
                  clear n0_ n1_ n2_ n3_ n4_ n5_ n6_ n7_ n8_ n9_ n10_
                  clear hb hbox hg
                  refine hK.out _ _ ⟨(blk_cell BK380.out 0).trans rfl, (blk_cell BK380.out 1).trans rfl, ((HB.out.cell (World.block_lt_of_cell? w _ hw381_0)).trans hw381_0), ((HB.out.cell (World.block_lt_of_cell? w _ hw381_1)).trans hw381_1), ((HB.out.cell (World.block_lt_of_cell? w _ hw381_2)).trans hw381_2), ((HB.out.cell (World.block_lt_of_cell? w _ hw381_3)).trans hw381_3), ((HB.out.cell (World.block_lt_of_cell? w _ hw381_4)).trans hw381_4), ((HB.out.cell (World.block_lt_of_cell? w _ hw381_5)).trans hw381_5), ((HB.out.cell (World.block_lt_of_cell? w _ hw381_6)).trans hw381_6), ((HB.out.cell (World.block_lt_of_cell? w _ hw381_7)).trans hw381_7), ((HB.out.cell (World.block_lt_of_cell? w _ hw381_8)).trans hw381_8), ((HB.out.cell (World.block_lt_of_cell? w _ hw381_9)).trans hw381_9), ((HB.out.cell (World.block_lt_of_cell? w _ hw381_10)).trans hw381_10), ((HB.out.cell (World.block_lt_of_cell? w _ hw381_11)).trans hw381_11), ((HB.out.cell (World.block_lt_of_cell? w _ hw381_12)).trans hw381_12), ((HB.out.cell (World.block_lt_of_cell? w _ hw381_13)).trans hw381_13), ((HB.out.cell (World.block_lt_of_cell? w _ hw381_14)).trans hw381_14), ((HB.out.cell (World.block_lt_of_cell? w _ hw381_15)).trans hw381_15)⟩ (fun hHeld => ?_)
                  clear hK K
                  refine norm_ (a' := ?_) ?_ ?_
                  rotate_left
                  · show Act.put _ (some 7) _ = _
                    simp only [Act.put, List.setIfInBounds_toArray, List.set_cons_zero, List.set_cons_succ, i64_w, i32_w]
                    rfl
                  exact norm_ (by simp only [putAll, Act.put, List.setIfInBounds_toArray, List.set_cons_zero, List.set_cons_succ]) (hCont (gb386) _ ⟨hHeld, (by (with_reducible repeat (first | apply Kd.R_alloc | apply Kd.R_drewN | apply Kd.R_drew)); exact HO_5.out), (by (with_reducible repeat (first | refine blk_drewN ?_ _ | refine blk_drew ?_ | refine blk_alloc ?_ _)); exact BK379.out), (by (with_reducible repeat (first | refine blk_drewN ?_ _ | refine blk_drew ?_ | refine blk_alloc ?_ _)); exact BK380.out), (by (with_reducible repeat (first | refine blk_drewN ?_ _ | refine blk_drew ?_ | refine blk_alloc ?_ _)); exact BK386.out), GW386.out, GE386.out, NB379_386.out, NB386_379.out, NB380_386.out, NB386_380.out, (by repeat (first | (with_reducible first | exact HB.out | apply below_alloc | apply pw_below_drewN | apply below_drew1 | refine below_set ?_ GE379.out | refine below_set ?_ GE380.out | refine below_set ?_ GE386.out) | exact HB.out))⟩)
                · skip
                  refine box_step ?hg (N := 7) ?hd (cs := #[.bool false, .int .i64 0]) (t := 31) ?hr ?_; (case hd => rfl); (case hg => rfl); (case hr => first | (go_simp; done) | (go_simp; rfl))
                  intro gb386 hg w10 hbox hb
                  have n0_ := Aside0.mk (Kd.R_below (by (with_reducible repeat (first | apply Kd.R_alloc | apply Kd.R_drewN | apply Kd.R_drew)); exact HO_5.out) hb)
                  have n1_ := Aside0.mk (blk_below (g := gb379) (o := .cells #[.bool false, .int .i64 0] 31 (0, 0)) (by (with_reducible repeat (first | refine blk_drewN ?_ _ | refine blk_drew ?_ | refine blk_alloc ?_ _)); exact BK379.out) hb)
                  have n2_ := Aside0.mk (blk_below (g := gb380) (o := .cells #[.bool x381000_1, .int .i64 x381001_1] 31 (0, 0)) (by (with_reducible repeat (first | refine blk_drewN ?_ _ | refine blk_drew ?_ | refine blk_alloc ?_ _)); exact BK380.out) hb)
                  have n3_ := Aside0.mk (below_step (by repeat (first | (with_reducible first | exact HB.out | apply below_alloc | apply pw_below_drewN | apply below_drew1 | refine below_set ?_ GE379.out | refine below_set ?_ GE380.out) | exact HB.out)) hb)
                  have n4_ := Aside0.mk (hbox)
                  have n5_ := Aside0.mk ((by rw [hg]; exact (below_size (by repeat (first | (with_reducible first | exact HB.out | apply below_alloc | apply pw_below_drewN | apply below_drew1 | refine below_set ?_ GE379.out | refine below_set ?_ GE380.out) | exact HB.out))) : w.heap.size ≤ gb386))
                  have n6_ := Aside0.mk ((by rw [hg]; exact (below_size (by repeat (first | (with_reducible first | exact HB.out | apply below_alloc | apply pw_below_drewN | apply below_drew1 | refine below_set ?_ GE379.out | refine below_set ?_ GE380.out) | exact HB.out))) : w.heap.size ≤ gb386))
                  have n7_ := Aside0.mk ((by rw [hg]; exact Nat.ne_of_lt (blk_lt (g := gb379) (o := .cells #[.bool false, .int .i64 0] 31 (0, 0)) (by (with_reducible repeat (first | refine blk_drewN ?_ _ | refine blk_drew ?_ | refine blk_alloc ?_ _)); exact BK379.out)) : gb379 ≠ gb386))
                  have n8_ := Aside0.mk ((by rw [hg]; exact Nat.ne_of_gt (blk_lt (g := gb379) (o := .cells #[.bool false, .int .i64 0] 31 (0, 0)) (by (with_reducible repeat (first | refine blk_drewN ?_ _ | refine blk_drew ?_ | refine blk_alloc ?_ _)); exact BK379.out)) : gb386 ≠ gb379))
                  have n9_ := Aside0.mk ((by rw [hg]; exact Nat.ne_of_lt (blk_lt (g := gb380) (o := .cells #[.bool x381000_1, .int .i64 x381001_1] 31 (0, 0)) (by (with_reducible repeat (first | refine blk_drewN ?_ _ | refine blk_drew ?_ | refine blk_alloc ?_ _)); exact BK380.out)) : gb380 ≠ gb386))
                  have n10_ := Aside0.mk ((by rw [hg]; exact Nat.ne_of_gt (blk_lt (g := gb380) (o := .cells #[.bool x381000_1, .int .i64 x381001_1] 31 (0, 0)) (by (with_reducible repeat (first | refine blk_drewN ?_ _ | refine blk_drew ?_ | refine blk_alloc ?_ _)); exact BK380.out)) : gb386 ≠ gb380))
                  clear HO_5
                  clear BK379
                  clear BK380
                  clear HB
                  have HO_5 := n0_
                  have BK379 := n1_
                  have BK380 := n2_
                  have HB := n3_
                  have BK386 := n4_
                  have GW386 := n5_
                  have GE386 := n6_
                  have NB379_386 := n7_
                  have NB386_379 := n8_
                  have NB380_386 := n9_
                  have NB386_380 := n10_
                  clear n0_ n1_ n2_ n3_ n4_ n5_ n6_ n7_ n8_ n9_ n10_
                  clear hb hbox hg
                  refine hK.out _ _ ⟨(blk_cell BK380.out 0).trans rfl, (blk_cell BK380.out 1).trans rfl, ((HB.out.cell (World.block_lt_of_cell? w _ hw381_0)).trans hw381_0), ((HB.out.cell (World.block_lt_of_cell? w _ hw381_1)).trans hw381_1), ((HB.out.cell (World.block_lt_of_cell? w _ hw381_2)).trans hw381_2), ((HB.out.cell (World.block_lt_of_cell? w _ hw381_3)).trans hw381_3), ((HB.out.cell (World.block_lt_of_cell? w _ hw381_4)).trans hw381_4), ((HB.out.cell (World.block_lt_of_cell? w _ hw381_5)).trans hw381_5), ((HB.out.cell (World.block_lt_of_cell? w _ hw381_6)).trans hw381_6), ((HB.out.cell (World.block_lt_of_cell? w _ hw381_7)).trans hw381_7), ((HB.out.cell (World.block_lt_of_cell? w _ hw381_8)).trans hw381_8), ((HB.out.cell (World.block_lt_of_cell? w _ hw381_9)).trans hw381_9), ((HB.out.cell (World.block_lt_of_cell? w _ hw381_10)).trans hw381_10), ((HB.out.cell (World.block_lt_of_cell? w _ hw381_11)).trans hw381_11), ((HB.out.cell (World.block_lt_of_cell? w _ hw381_12)).trans hw381_12), ((HB.out.cell (World.block_lt_of_cell? w _ hw381_13)).trans hw381_13), ((HB.out.cell (World.block_lt_of_cell? w _ hw381_14)).trans hw381_14), ((HB.out.cell (World.block_lt_of_cell? w _ hw381_15)).trans hw381_15)⟩ (fun hHeld => ?_)
                  clear hK K
                  refine norm_ (a' := ?_) ?_ ?_
                  rotate_left
                  · show Act.put _ (some 7) _ = _
                    simp only [Act.put, List.setIfInBounds_toArray, List.set_cons_zero, List.set_cons_succ, i64_w, i32_w]
                    rfl
                  refine one_ (i := 5) (N := some 22) #[true, true, true, true, true, true, false, false, false, false, true, false, false, false] rfl rfl (one_of HT_.out (by kernel_rfl)) (by decide) (fun K hK => ?_)
                  refine goes_ Try.func17 (by kernel_rfl) rfl #[.agg #[.bool x381000_1, .int .i64 x381001_1], .agg #[.int .u8 ((rd_T22 l0 x6_1).f0), .int .u8 ((rd_T22 l0 x6_1).f1), .int .u8 ((rd_T22 l0 x6_1).f2), .int .u8 ((rd_T22 l0 x6_1).f3), .int .u8 ((rd_T22 l0 x6_1).f4), .int .u8 ((rd_T22 l0 x6_1).f5), .int .u8 ((rd_T22 l0 x6_1).f6), .int .u8 ((rd_T22 l0 x6_1).f7), .int .u8 ((rd_T22 l0 x6_1).f8), .int .u8 ((rd_T22 l0 x6_1).f9), .int .u8 ((rd_T22 l0 x6_1).f10), .int .u8 ((rd_T22 l0 x6_1).f11), .int .u8 ((rd_T22 l0 x6_1).f12), .int .u8 ((rd_T22 l0 x6_1).f13), .int .u8 ((rd_T22 l0 x6_1).f14), .int .u8 ((rd_T22 l0 x6_1).f15)]] (by rfl) rfl rfl (by (try simp only [List.map_toArray, List.map_cons, List.map_nil]); first | done | rfl | (simp only [List.length_drop, List.length_take]; rfl)) ?_
                  with_reducible refine (periluneref32_Receive.calls k1 x381000_1 x381001_1 ((rd_T22 l0 x6_1).f0) ((rd_T22 l0 x6_1).f1) ((rd_T22 l0 x6_1).f2) ((rd_T22 l0 x6_1).f3) ((rd_T22 l0 x6_1).f4) ((rd_T22 l0 x6_1).f5) ((rd_T22 l0 x6_1).f6) ((rd_T22 l0 x6_1).f7) ((rd_T22 l0 x6_1).f8) ((rd_T22 l0 x6_1).f9) ((rd_T22 l0 x6_1).f10) ((rd_T22 l0 x6_1).f11) ((rd_T22 l0 x6_1).f12) ((rd_T22 l0 x6_1).f13) ((rd_T22 l0 x6_1).f14) ((rd_T22 l0 x6_1).f15) t382 t383 t384 true _ A6.out).mono ?_
                  rintro e w11 ⟨rfl, hb⟩
                  refine ⟨_, rfl, ?_⟩
                  have n0_ := Aside0.mk (Kd.R_below (by (with_reducible repeat (first | apply Kd.R_alloc | apply Kd.R_drewN | apply Kd.R_drew)); exact HO_5.out) hb)
                  have n1_ := Aside0.mk (blk_below (g := gb379) (o := .cells #[.bool false, .int .i64 0] 31 (0, 0)) (by (with_reducible repeat (first | refine blk_drewN ?_ _ | refine blk_drew ?_ | refine blk_alloc ?_ _)); exact BK379.out) hb)
                  have n2_ := Aside0.mk (blk_below (g := gb380) (o := .cells #[.bool x381000_1, .int .i64 x381001_1] 31 (0, 0)) (by (with_reducible repeat (first | refine blk_drewN ?_ _ | refine blk_drew ?_ | refine blk_alloc ?_ _)); exact BK380.out) hb)
                  have n3_ := Aside0.mk (blk_below (g := gb386) (o := .cells #[.bool false, .int .i64 0] 31 (0, 0)) (by (with_reducible repeat (first | refine blk_drewN ?_ _ | refine blk_drew ?_ | refine blk_alloc ?_ _)); exact BK386.out) hb)
                  have n4_ := Aside0.mk (below_step (by repeat (first | (with_reducible first | exact HB.out | apply below_alloc | apply pw_below_drewN | apply below_drew1 | refine below_set ?_ GE379.out | refine below_set ?_ GE380.out | refine below_set ?_ GE386.out) | exact HB.out)) hb)
                  clear HO_5
                  clear BK379
                  clear BK380
                  clear BK386
                  clear HB
                  have HO_5 := n0_
                  have BK379 := n1_
                  have BK380 := n2_
                  have BK386 := n3_
                  have HB := n4_
                  clear n0_ n1_ n2_ n3_ n4_
                  (try clear hb)
                  (try clear hb2)
                  (try clear hk)
                  (try clear hi)
                  refine hK.out _ _ ⟨(blk_cell BK380.out 0).trans rfl, (blk_cell BK380.out 1).trans rfl, ((HB.out.cell (World.block_lt_of_cell? w _ hw381_0)).trans hw381_0), ((HB.out.cell (World.block_lt_of_cell? w _ hw381_1)).trans hw381_1), ((HB.out.cell (World.block_lt_of_cell? w _ hw381_2)).trans hw381_2), ((HB.out.cell (World.block_lt_of_cell? w _ hw381_3)).trans hw381_3), ((HB.out.cell (World.block_lt_of_cell? w _ hw381_4)).trans hw381_4), ((HB.out.cell (World.block_lt_of_cell? w _ hw381_5)).trans hw381_5), ((HB.out.cell (World.block_lt_of_cell? w _ hw381_6)).trans hw381_6), ((HB.out.cell (World.block_lt_of_cell? w _ hw381_7)).trans hw381_7), ((HB.out.cell (World.block_lt_of_cell? w _ hw381_8)).trans hw381_8), ((HB.out.cell (World.block_lt_of_cell? w _ hw381_9)).trans hw381_9), ((HB.out.cell (World.block_lt_of_cell? w _ hw381_10)).trans hw381_10), ((HB.out.cell (World.block_lt_of_cell? w _ hw381_11)).trans hw381_11), ((HB.out.cell (World.block_lt_of_cell? w _ hw381_12)).trans hw381_12), ((HB.out.cell (World.block_lt_of_cell? w _ hw381_13)).trans hw381_13), ((HB.out.cell (World.block_lt_of_cell? w _ hw381_14)).trans hw381_14), ((HB.out.cell (World.block_lt_of_cell? w _ hw381_15)).trans hw381_15)⟩ (fun hHeld => ?_)
                  clear hK K
                  refine norm_ (a' := ?_) ?_ ?_
                  rotate_left
                  · show Act.put _ (some 22) _ = _
                    simp only [Act.put, List.setIfInBounds_toArray, List.set_cons_zero, List.set_cons_succ, i64_w, i32_w]
                    rfl
                  refine pure_ (i := 6) (N := some 16) (v := ?_) (a' := ?_) #[true, true, true, true, true, true, true, false, false, false, true, false, false, false] rfl rfl (any_of HT_.out (by kernel_rfl)) (fun _ _ _ h => h) (Or.inl ⟨by rfl, ?_⟩) ?_ ?_
                  rotate_left
                  · intro w'
                    go_simp
                    with_reducible rfl
                  rotate_left
                  · simp only [Act.put, List.setIfInBounds_toArray, List.set_cons_zero, List.set_cons_succ, i64_w, i32_w]
                    rfl
                  refine pure_ (i := 7) (N := some 23) (v := ?_) (a' := ?_) #[true, true, true, true, true, true, true, true, false, false, true, false, false, false] rfl rfl (any_of HT_.out (by kernel_rfl)) (fun _ _ _ h => h) (Or.inl ⟨by rfl, ?_⟩) ?_ ?_
                  rotate_left
                  · intro w'
                    go_simp
                    with_reducible rfl
                  rotate_left
                  · simp only [Act.put, List.setIfInBounds_toArray, List.set_cons_zero, List.set_cons_succ, i64_w, i32_w]
                    rfl
                  refine pure_ (i := 8) (N := some 24) (v := ?_) (a' := ?_) #[true, true, true, true, true, true, true, true, true, false, true, false, false, false] rfl rfl (any_of HT_.out (by kernel_rfl)) (fun _ _ _ h => h) (Or.inl ⟨by rfl, ?_⟩) ?_ ?_
                  rotate_left
                  · intro w'
                    go_simp
                    with_reducible rfl
                  rotate_left
                  · simp only [Act.put, List.setIfInBounds_toArray, List.set_cons_zero, List.set_cons_succ, i64_w, i32_w]
                    rfl
                  refine pure_ (i := 9) (N := some 25) (v := ?_) (a' := ?_) #[true, true, true, true, true, true, true, true, true, true, true, false, false, false] rfl rfl (any_of HT_.out (by kernel_rfl)) (fun _ _ _ h => h) (Or.inl ⟨by rfl, ?_⟩) ?_ ?_
                  rotate_left
                  · intro w'
                    go_simp
                    with_reducible rfl
                  rotate_left
                  · simp only [Act.put, List.setIfInBounds_toArray, List.set_cons_zero, List.set_cons_succ, i64_w, i32_w]
                    rfl
                  exact norm_ (by simp only [putAll, Act.put, List.setIfInBounds_toArray, List.set_cons_zero, List.set_cons_succ]) (hCont (gb386) _ ⟨hHeld, (by (with_reducible repeat (first | apply Kd.R_alloc | apply Kd.R_drewN | apply Kd.R_drew)); exact HO_5.out), (by (with_reducible repeat (first | refine blk_drewN ?_ _ | refine blk_drew ?_ | refine blk_alloc ?_ _)); exact BK379.out), (by (with_reducible repeat (first | refine blk_drewN ?_ _ | refine blk_drew ?_ | refine blk_alloc ?_ _)); exact BK380.out), (by (with_reducible repeat (first | refine blk_drewN ?_ _ | refine blk_drew ?_ | refine blk_alloc ?_ _)); exact BK386.out), GW386.out, GE386.out, NB379_386.out, NB386_379.out, NB380_386.out, NB386_380.out, (by repeat (first | (with_reducible first | exact HB.out | apply below_alloc | apply pw_below_drewN | apply below_drew1 | refine below_set ?_ GE379.out | refine below_set ?_ GE380.out | refine below_set ?_ GE386.out) | exact HB.out))⟩)
              rintro gb386 w12 ⟨hS_, h0_, h1_, h2_, h3_, h4_, h5_, h6_, h7_, h8_, h9_, h10_⟩
              have n0_ : Aside0 (Kd.R (Kd.int .i64) 3 w12 w.heap.size (fun _ => True) u5 x5_1) := ⟨h0_⟩
              have n1_ : Aside0 (w12.heap[gb379]? = some (.cells #[.bool false, .int .i64 0] 31 (0, 0))) := ⟨h1_⟩
              have n2_ : Aside0 (w12.heap[gb380]? = some (.cells #[.bool x381000_1, .int .i64 x381001_1] 31 (0, 0))) := ⟨h2_⟩
              have n3_ : Aside0 (w12.heap[gb386]? = some (.cells #[.bool false, .int .i64 0] 31 (0, 0))) := ⟨h3_⟩
              have n4_ : Aside0 (w.heap.size ≤ gb386) := ⟨h4_⟩
              have n5_ : Aside0 (w.heap.size ≤ gb386) := ⟨h5_⟩
              have n6_ : Aside0 (gb379 ≠ gb386) := ⟨h6_⟩
              have n7_ : Aside0 (gb386 ≠ gb379) := ⟨h7_⟩
              have n8_ : Aside0 (gb380 ≠ gb386) := ⟨h8_⟩
              have n9_ : Aside0 (gb386 ≠ gb380) := ⟨h9_⟩
              have n10_ : Aside0 (Below w.heap.size w w12) := ⟨h10_⟩
              clear HO_5
              clear BK379
              clear BK380
              clear HB
              clear h0_ h1_ h2_ h3_ h4_ h5_ h6_ h7_ h8_ h9_ h10_
              have HO_5 := n0_
              have BK379 := n1_
              have BK380 := n2_
              have BK386 := n3_
              have GW386 := n4_
              have GE386 := n5_
              have NB379_386 := n6_
              have NB386_379 := n7_
              have NB380_386 := n8_
              have NB386_380 := n9_
              have HB := n10_
              clear n0_ n1_ n2_ n3_ n4_ n5_ n6_ n7_ n8_ n9_ n10_
              have hHeld : w12.cell? ⟨gb380, 0, none⟩ = some (.bool x381000_1) ∧ w12.cell? ⟨gb380, 1, none⟩ = some (.int .i64 x381001_1) ∧ w12.cell? (ad381.add ((x6_1).toNat * 16)) = some (.int .u8 ((rd_T22 l0 x6_1).f0)) ∧ w12.cell? ⟨(ad381.add ((x6_1).toNat * 16)).block, (ad381.add ((x6_1).toNat * 16)).off + 1, none⟩ = some (.int .u8 ((rd_T22 l0 x6_1).f1)) ∧ w12.cell? ⟨(ad381.add ((x6_1).toNat * 16)).block, (ad381.add ((x6_1).toNat * 16)).off + 2, none⟩ = some (.int .u8 ((rd_T22 l0 x6_1).f2)) ∧ w12.cell? ⟨(ad381.add ((x6_1).toNat * 16)).block, (ad381.add ((x6_1).toNat * 16)).off + 3, none⟩ = some (.int .u8 ((rd_T22 l0 x6_1).f3)) ∧ w12.cell? ⟨(ad381.add ((x6_1).toNat * 16)).block, (ad381.add ((x6_1).toNat * 16)).off + 4, none⟩ = some (.int .u8 ((rd_T22 l0 x6_1).f4)) ∧ w12.cell? ⟨(ad381.add ((x6_1).toNat * 16)).block, (ad381.add ((x6_1).toNat * 16)).off + 5, none⟩ = some (.int .u8 ((rd_T22 l0 x6_1).f5)) ∧ w12.cell? ⟨(ad381.add ((x6_1).toNat * 16)).block, (ad381.add ((x6_1).toNat * 16)).off + 6, none⟩ = some (.int .u8 ((rd_T22 l0 x6_1).f6)) ∧ w12.cell? ⟨(ad381.add ((x6_1).toNat * 16)).block, (ad381.add ((x6_1).toNat * 16)).off + 7, none⟩ = some (.int .u8 ((rd_T22 l0 x6_1).f7)) ∧ w12.cell? ⟨(ad381.add ((x6_1).toNat * 16)).block, (ad381.add ((x6_1).toNat * 16)).off + 8, none⟩ = some (.int .u8 ((rd_T22 l0 x6_1).f8)) ∧ w12.cell? ⟨(ad381.add ((x6_1).toNat * 16)).block, (ad381.add ((x6_1).toNat * 16)).off + 9, none⟩ = some (.int .u8 ((rd_T22 l0 x6_1).f9)) ∧ w12.cell? ⟨(ad381.add ((x6_1).toNat * 16)).block, (ad381.add ((x6_1).toNat * 16)).off + 10, none⟩ = some (.int .u8 ((rd_T22 l0 x6_1).f10)) ∧ w12.cell? ⟨(ad381.add ((x6_1).toNat * 16)).block, (ad381.add ((x6_1).toNat * 16)).off + 11, none⟩ = some (.int .u8 ((rd_T22 l0 x6_1).f11)) ∧ w12.cell? ⟨(ad381.add ((x6_1).toNat * 16)).block, (ad381.add ((x6_1).toNat * 16)).off + 12, none⟩ = some (.int .u8 ((rd_T22 l0 x6_1).f12)) ∧ w12.cell? ⟨(ad381.add ((x6_1).toNat * 16)).block, (ad381.add ((x6_1).toNat * 16)).off + 13, none⟩ = some (.int .u8 ((rd_T22 l0 x6_1).f13)) ∧ w12.cell? ⟨(ad381.add ((x6_1).toNat * 16)).block, (ad381.add ((x6_1).toNat * 16)).off + 14, none⟩ = some (.int .u8 ((rd_T22 l0 x6_1).f14)) ∧ w12.cell? ⟨(ad381.add ((x6_1).toNat * 16)).block, (ad381.add ((x6_1).toNat * 16)).off + 15, none⟩ = some (.int .u8 ((rd_T22 l0 x6_1).f15)) := hS_
              refine norm_ (a' := ?_) ?_ ?_
              rotate_left
              · simp only [putAll, Act.put, List.setIfInBounds_toArray, List.set_cons_zero, List.set_cons_succ]
                rfl
              refine one_ (i := 11) (N := none) #[true, true, true, true, true, true, true, true, true, true, true, true, false, false] rfl rfl (one_of HT_.out (by kernel_rfl)) (by decide) (fun K hK => ?_)
              have hs13 : w12.cell? ⟨gb386, 0, none⟩ = some (.bool false) := (blk_cell BK386.out 0).trans rfl
              have hfs13 := blk_frozen BK386.out 0
              have hns13_0 := NB379_386.out
              have hns13_1 := NB380_386.out
              have hms13_0 := NB386_379.out
              have hms13_1 := NB386_380.out
              have hs14 : w12.cell? ⟨gb386, 1, none⟩ = some (.int .i64 0) := (blk_cell BK386.out 1).trans rfl
              have hfs14 := blk_frozen BK386.out 1
              have hns14_0 := NB379_386.out
              have hns14_1 := NB380_386.out
              have hms14_0 := NB386_379.out
              have hms14_1 := NB386_380.out
              refine skip_ (w1 := ?_) (by rfl) rfl ?_ ?_
              rotate_left
              · go_simp
                rfl
              refine hK.out _ _ ⟨((cell_far (p := ⟨gb386, _, none⟩) NB380_386.out _).trans (((cell_far (p := ⟨gb386, _, none⟩) NB380_386.out _).trans (hHeld.1)))), ((cell_far (p := ⟨gb386, _, none⟩) NB380_386.out _).trans (((cell_far (p := ⟨gb386, _, none⟩) NB380_386.out _).trans (hHeld.2.1)))), ((cell_far (p := ⟨gb386, _, none⟩) (by first | exact Nat.ne_of_lt (Nat.lt_of_lt_of_le (by have := World.block_lt_of_cell? _ _ hw381_0; first | rwa [add_block] at this | exact this) GW386.out) | (rw [add_block]; exact Nat.ne_of_lt (Nat.lt_of_lt_of_le (by have := World.block_lt_of_cell? _ _ hw381_0; first | rwa [add_block] at this | exact this) GW386.out)) | (show (Addr.add _ _).block ≠ _; rw [add_block]; exact Nat.ne_of_lt (Nat.lt_of_lt_of_le (by have := World.block_lt_of_cell? _ _ hw381_0; first | rwa [add_block] at this | exact this) GW386.out)) | (dsimp only; exact Nat.ne_of_lt (Nat.lt_of_lt_of_le (by have := World.block_lt_of_cell? _ _ hw381_0; first | rwa [add_block] at this | exact this) GW386.out))) _).trans (((cell_far (p := ⟨gb386, _, none⟩) (by first | exact Nat.ne_of_lt (Nat.lt_of_lt_of_le (by have := World.block_lt_of_cell? _ _ hw381_0; first | rwa [add_block] at this | exact this) GW386.out) | (rw [add_block]; exact Nat.ne_of_lt (Nat.lt_of_lt_of_le (by have := World.block_lt_of_cell? _ _ hw381_0; first | rwa [add_block] at this | exact this) GW386.out)) | (show (Addr.add _ _).block ≠ _; rw [add_block]; exact Nat.ne_of_lt (Nat.lt_of_lt_of_le (by have := World.block_lt_of_cell? _ _ hw381_0; first | rwa [add_block] at this | exact this) GW386.out)) | (dsimp only; exact Nat.ne_of_lt (Nat.lt_of_lt_of_le (by have := World.block_lt_of_cell? _ _ hw381_0; first | rwa [add_block] at this | exact this) GW386.out))) _).trans (hHeld.2.2.1)))), ((cell_far (p := ⟨gb386, _, none⟩) (by first | exact Nat.ne_of_lt (Nat.lt_of_lt_of_le (by have := World.block_lt_of_cell? _ _ hw381_1; first | rwa [add_block] at this | exact this) GW386.out) | (rw [add_block]; exact Nat.ne_of_lt (Nat.lt_of_lt_of_le (by have := World.block_lt_of_cell? _ _ hw381_1; first | rwa [add_block] at this | exact this) GW386.out)) | (show (Addr.add _ _).block ≠ _; rw [add_block]; exact Nat.ne_of_lt (Nat.lt_of_lt_of_le (by have := World.block_lt_of_cell? _ _ hw381_1; first | rwa [add_block] at this | exact this) GW386.out)) | (dsimp only; exact Nat.ne_of_lt (Nat.lt_of_lt_of_le (by have := World.block_lt_of_cell? _ _ hw381_1; first | rwa [add_block] at this | exact this) GW386.out))) _).trans (((cell_far (p := ⟨gb386, _, none⟩) (by first | exact Nat.ne_of_lt (Nat.lt_of_lt_of_le (by have := World.block_lt_of_cell? _ _ hw381_1; first | rwa [add_block] at this | exact this) GW386.out) | (rw [add_block]; exact Nat.ne_of_lt (Nat.lt_of_lt_of_le (by have := World.block_lt_of_cell? _ _ hw381_1; first | rwa [add_block] at this | exact this) GW386.out)) | (show (Addr.add _ _).block ≠ _; rw [add_block]; exact Nat.ne_of_lt (Nat.lt_of_lt_of_le (by have := World.block_lt_of_cell? _ _ hw381_1; first | rwa [add_block] at this | exact this) GW386.out)) | (dsimp only; exact Nat.ne_of_lt (Nat.lt_of_lt_of_le (by have := World.block_lt_of_cell? _ _ hw381_1; first | rwa [add_block] at this | exact this) GW386.out))) _).trans (hHeld.2.2.2.1)))), ((cell_far (p := ⟨gb386, _, none⟩) (by first | exact Nat.ne_of_lt (Nat.lt_of_lt_of_le (by have := World.block_lt_of_cell? _ _ hw381_2; first | rwa [add_block] at this | exact this) GW386.out) | (rw [add_block]; exact Nat.ne_of_lt (Nat.lt_of_lt_of_le (by have := World.block_lt_of_cell? _ _ hw381_2; first | rwa [add_block] at this | exact this) GW386.out)) | (show (Addr.add _ _).block ≠ _; rw [add_block]; exact Nat.ne_of_lt (Nat.lt_of_lt_of_le (by have := World.block_lt_of_cell? _ _ hw381_2; first | rwa [add_block] at this | exact this) GW386.out)) | (dsimp only; exact Nat.ne_of_lt (Nat.lt_of_lt_of_le (by have := World.block_lt_of_cell? _ _ hw381_2; first | rwa [add_block] at this | exact this) GW386.out))) _).trans (((cell_far (p := ⟨gb386, _, none⟩) (by first | exact Nat.ne_of_lt (Nat.lt_of_lt_of_le (by have := World.block_lt_of_cell? _ _ hw381_2; first | rwa [add_block] at this | exact this) GW386.out) | (rw [add_block]; exact Nat.ne_of_lt (Nat.lt_of_lt_of_le (by have := World.block_lt_of_cell? _ _ hw381_2; first | rwa [add_block] at this | exact this) GW386.out)) | (show (Addr.add _ _).block ≠ _; rw [add_block]; exact Nat.ne_of_lt (Nat.lt_of_lt_of_le (by have := World.block_lt_of_cell? _ _ hw381_2; first | rwa [add_block] at this | exact this) GW386.out)) | (dsimp only; exact Nat.ne_of_lt (Nat.lt_of_lt_of_le (by have := World.block_lt_of_cell? _ _ hw381_2; first | rwa [add_block] at this | exact this) GW386.out))) _).trans (hHeld.2.2.2.2.1)))), ((cell_far (p := ⟨gb386, _, none⟩) (by first | exact Nat.ne_of_lt (Nat.lt_of_lt_of_le (by have := World.block_lt_of_cell? _ _ hw381_3; first | rwa [add_block] at this | exact this) GW386.out) | (rw [add_block]; exact Nat.ne_of_lt (Nat.lt_of_lt_of_le (by have := World.block_lt_of_cell? _ _ hw381_3; first | rwa [add_block] at this | exact this) GW386.out)) | (show (Addr.add _ _).block ≠ _; rw [add_block]; exact Nat.ne_of_lt (Nat.lt_of_lt_of_le (by have := World.block_lt_of_cell? _ _ hw381_3; first | rwa [add_block] at this | exact this) GW386.out)) | (dsimp only; exact Nat.ne_of_lt (Nat.lt_of_lt_of_le (by have := World.block_lt_of_cell? _ _ hw381_3; first | rwa [add_block] at this | exact this) GW386.out))) _).trans (((cell_far (p := ⟨gb386, _, none⟩) (by first | exact Nat.ne_of_lt (Nat.lt_of_lt_of_le (by have := World.block_lt_of_cell? _ _ hw381_3; first | rwa [add_block] at this | exact this) GW386.out) | (rw [add_block]; exact Nat.ne_of_lt (Nat.lt_of_lt_of_le (by have := World.block_lt_of_cell? _ _ hw381_3; first | rwa [add_block] at this | exact this) GW386.out)) | (show (Addr.add _ _).block ≠ _; rw [add_block]; exact Nat.ne_of_lt (Nat.lt_of_lt_of_le (by have := World.block_lt_of_cell? _ _ hw381_3; first | rwa [add_block] at this | exact this) GW386.out)) | (dsimp only; exact Nat.ne_of_lt (Nat.lt_of_lt_of_le (by have := World.block_lt_of_cell? _ _ hw381_3; first | rwa [add_block] at this | exact this) GW386.out))) _).trans (hHeld.2.2.2.2.2.1)))), ((cell_far (p := ⟨gb386, _, none⟩) (by first | exact Nat.ne_of_lt (Nat.lt_of_lt_of_le (by have := World.block_lt_of_cell? _ _ hw381_4; first | rwa [add_block] at this | exact this) GW386.out) | (rw [add_block]; exact Nat.ne_of_lt (Nat.lt_of_lt_of_le (by have := World.block_lt_of_cell? _ _ hw381_4; first | rwa [add_block] at this | exact this) GW386.out)) | (show (Addr.add _ _).block ≠ _; rw [add_block]; exact Nat.ne_of_lt (Nat.lt_of_lt_of_le (by have := World.block_lt_of_cell? _ _ hw381_4; first | rwa [add_block] at this | exact this) GW386.out)) | (dsimp only; exact Nat.ne_of_lt (Nat.lt_of_lt_of_le (by have := World.block_lt_of_cell? _ _ hw381_4; first | rwa [add_block] at this | exact this) GW386.out))) _).trans (((cell_far (p := ⟨gb386, _, none⟩) (by first | exact Nat.ne_of_lt (Nat.lt_of_lt_of_le (by have := World.block_lt_of_cell? _ _ hw381_4; first | rwa [add_block] at this | exact this) GW386.out) | (rw [add_block]; exact Nat.ne_of_lt (Nat.lt_of_lt_of_le (by have := World.block_lt_of_cell? _ _ hw381_4; first | rwa [add_block] at this | exact this) GW386.out)) | (show (Addr.add _ _).block ≠ _; rw [add_block]; exact Nat.ne_of_lt (Nat.lt_of_lt_of_le (by have := World.block_lt_of_cell? _ _ hw381_4; first | rwa [add_block] at this | exact this) GW386.out)) | (dsimp only; exact Nat.ne_of_lt (Nat.lt_of_lt_of_le (by have := World.block_lt_of_cell? _ _ hw381_4; first | rwa [add_block] at this | exact this) GW386.out))) _).trans (hHeld.2.2.2.2.2.2.1)))), ((cell_far (p := ⟨gb386, _, none⟩) (by first | exact Nat.ne_of_lt (Nat.lt_of_lt_of_le (by have := World.block_lt_of_cell? _ _ hw381_5; first | rwa [add_block] at this | exact this) GW386.out) | (rw [add_block]; exact Nat.ne_of_lt (Nat.lt_of_lt_of_le (by have := World.block_lt_of_cell? _ _ hw381_5; first | rwa [add_block] at this | exact this) GW386.out)) | (show (Addr.add _ _).block ≠ _; rw [add_block]; exact Nat.ne_of_lt (Nat.lt_of_lt_of_le (by have := World.block_lt_of_cell? _ _ hw381_5; first | rwa [add_block] at this | exact this) GW386.out)) | (dsimp only; exact Nat.ne_of_lt (Nat.lt_of_lt_of_le (by have := World.block_lt_of_cell? _ _ hw381_5; first | rwa [add_block] at this | exact this) GW386.out))) _).trans (((cell_far (p := ⟨gb386, _, none⟩) (by first | exact Nat.ne_of_lt (Nat.lt_of_lt_of_le (by have := World.block_lt_of_cell? _ _ hw381_5; first | rwa [add_block] at this | exact this) GW386.out) | (rw [add_block]; exact Nat.ne_of_lt (Nat.lt_of_lt_of_le (by have := World.block_lt_of_cell? _ _ hw381_5; first | rwa [add_block] at this | exact this) GW386.out)) | (show (Addr.add _ _).block ≠ _; rw [add_block]; exact Nat.ne_of_lt (Nat.lt_of_lt_of_le (by have := World.block_lt_of_cell? _ _ hw381_5; first | rwa [add_block] at this | exact this) GW386.out)) | (dsimp only; exact Nat.ne_of_lt (Nat.lt_of_lt_of_le (by have := World.block_lt_of_cell? _ _ hw381_5; first | rwa [add_block] at this | exact this) GW386.out))) _).trans (hHeld.2.2.2.2.2.2.2.1)))), ((cell_far (p := ⟨gb386, _, none⟩) (by first | exact Nat.ne_of_lt (Nat.lt_of_lt_of_le (by have := World.block_lt_of_cell? _ _ hw381_6; first | rwa [add_block] at this | exact this) GW386.out) | (rw [add_block]; exact Nat.ne_of_lt (Nat.lt_of_lt_of_le (by have := World.block_lt_of_cell? _ _ hw381_6; first | rwa [add_block] at this | exact this) GW386.out)) | (show (Addr.add _ _).block ≠ _; rw [add_block]; exact Nat.ne_of_lt (Nat.lt_of_lt_of_le (by have := World.block_lt_of_cell? _ _ hw381_6; first | rwa [add_block] at this | exact this) GW386.out)) | (dsimp only; exact Nat.ne_of_lt (Nat.lt_of_lt_of_le (by have := World.block_lt_of_cell? _ _ hw381_6; first | rwa [add_block] at this | exact this) GW386.out))) _).trans (((cell_far (p := ⟨gb386, _, none⟩) (by first | exact Nat.ne_of_lt (Nat.lt_of_lt_of_le (by have := World.block_lt_of_cell? _ _ hw381_6; first | rwa [add_block] at this | exact this) GW386.out) | (rw [add_block]; exact Nat.ne_of_lt (Nat.lt_of_lt_of_le (by have := World.block_lt_of_cell? _ _ hw381_6; first | rwa [add_block] at this | exact this) GW386.out)) | (show (Addr.add _ _).block ≠ _; rw [add_block]; exact Nat.ne_of_lt (Nat.lt_of_lt_of_le (by have := World.block_lt_of_cell? _ _ hw381_6; first | rwa [add_block] at this | exact this) GW386.out)) | (dsimp only; exact Nat.ne_of_lt (Nat.lt_of_lt_of_le (by have := World.block_lt_of_cell? _ _ hw381_6; first | rwa [add_block] at this | exact this) GW386.out))) _).trans (hHeld.2.2.2.2.2.2.2.2.1)))), ((cell_far (p := ⟨gb386, _, none⟩) (by first | exact Nat.ne_of_lt (Nat.lt_of_lt_of_le (by have := World.block_lt_of_cell? _ _ hw381_7; first | rwa [add_block] at this | exact this) GW386.out) | (rw [add_block]; exact Nat.ne_of_lt (Nat.lt_of_lt_of_le (by have := World.block_lt_of_cell? _ _ hw381_7; first | rwa [add_block] at this | exact this) GW386.out)) | (show (Addr.add _ _).block ≠ _; rw [add_block]; exact Nat.ne_of_lt (Nat.lt_of_lt_of_le (by have := World.block_lt_of_cell? _ _ hw381_7; first | rwa [add_block] at this | exact this) GW386.out)) | (dsimp only; exact Nat.ne_of_lt (Nat.lt_of_lt_of_le (by have := World.block_lt_of_cell? _ _ hw381_7; first | rwa [add_block] at this | exact this) GW386.out))) _).trans (((cell_far (p := ⟨gb386, _, none⟩) (by first | exact Nat.ne_of_lt (Nat.lt_of_lt_of_le (by have := World.block_lt_of_cell? _ _ hw381_7; first | rwa [add_block] at this | exact this) GW386.out) | (rw [add_block]; exact Nat.ne_of_lt (Nat.lt_of_lt_of_le (by have := World.block_lt_of_cell? _ _ hw381_7; first | rwa [add_block] at this | exact this) GW386.out)) | (show (Addr.add _ _).block ≠ _; rw [add_block]; exact Nat.ne_of_lt (Nat.lt_of_lt_of_le (by have := World.block_lt_of_cell? _ _ hw381_7; first | rwa [add_block] at this | exact this) GW386.out)) | (dsimp only; exact Nat.ne_of_lt (Nat.lt_of_lt_of_le (by have := World.block_lt_of_cell? _ _ hw381_7; first | rwa [add_block] at this | exact this) GW386.out))) _).trans (hHeld.2.2.2.2.2.2.2.2.2.1)))), ((cell_far (p := ⟨gb386, _, none⟩) (by first | exact Nat.ne_of_lt (Nat.lt_of_lt_of_le (by have := World.block_lt_of_cell? _ _ hw381_8; first | rwa [add_block] at this | exact this) GW386.out) | (rw [add_block]; exact Nat.ne_of_lt (Nat.lt_of_lt_of_le (by have := World.block_lt_of_cell? _ _ hw381_8; first | rwa [add_block] at this | exact this) GW386.out)) | (show (Addr.add _ _).block ≠ _; rw [add_block]; exact Nat.ne_of_lt (Nat.lt_of_lt_of_le (by have := World.block_lt_of_cell? _ _ hw381_8; first | rwa [add_block] at this | exact this) GW386.out)) | (dsimp only; exact Nat.ne_of_lt (Nat.lt_of_lt_of_le (by have := World.block_lt_of_cell? _ _ hw381_8; first | rwa [add_block] at this | exact this) GW386.out))) _).trans (((cell_far (p := ⟨gb386, _, none⟩) (by first | exact Nat.ne_of_lt (Nat.lt_of_lt_of_le (by have := World.block_lt_of_cell? _ _ hw381_8; first | rwa [add_block] at this | exact this) GW386.out) | (rw [add_block]; exact Nat.ne_of_lt (Nat.lt_of_lt_of_le (by have := World.block_lt_of_cell? _ _ hw381_8; first | rwa [add_block] at this | exact this) GW386.out)) | (show (Addr.add _ _).block ≠ _; rw [add_block]; exact Nat.ne_of_lt (Nat.lt_of_lt_of_le (by have := World.block_lt_of_cell? _ _ hw381_8; first | rwa [add_block] at this | exact this) GW386.out)) | (dsimp only; exact Nat.ne_of_lt (Nat.lt_of_lt_of_le (by have := World.block_lt_of_cell? _ _ hw381_8; first | rwa [add_block] at this | exact this) GW386.out))) _).trans (hHeld.2.2.2.2.2.2.2.2.2.2.1)))), ((cell_far (p := ⟨gb386, _, none⟩) (by first | exact Nat.ne_of_lt (Nat.lt_of_lt_of_le (by have := World.block_lt_of_cell? _ _ hw381_9; first | rwa [add_block] at this | exact this) GW386.out) | (rw [add_block]; exact Nat.ne_of_lt (Nat.lt_of_lt_of_le (by have := World.block_lt_of_cell? _ _ hw381_9; first | rwa [add_block] at this | exact this) GW386.out)) | (show (Addr.add _ _).block ≠ _; rw [add_block]; exact Nat.ne_of_lt (Nat.lt_of_lt_of_le (by have := World.block_lt_of_cell? _ _ hw381_9; first | rwa [add_block] at this | exact this) GW386.out)) | (dsimp only; exact Nat.ne_of_lt (Nat.lt_of_lt_of_le (by have := World.block_lt_of_cell? _ _ hw381_9; first | rwa [add_block] at this | exact this) GW386.out))) _).trans (((cell_far (p := ⟨gb386, _, none⟩) (by first | exact Nat.ne_of_lt (Nat.lt_of_lt_of_le (by have := World.block_lt_of_cell? _ _ hw381_9; first | rwa [add_block] at this | exact this) GW386.out) | (rw [add_block]; exact Nat.ne_of_lt (Nat.lt_of_lt_of_le (by have := World.block_lt_of_cell? _ _ hw381_9; first | rwa [add_block] at this | exact this) GW386.out)) | (show (Addr.add _ _).block ≠ _; rw [add_block]; exact Nat.ne_of_lt (Nat.lt_of_lt_of_le (by have := World.block_lt_of_cell? _ _ hw381_9; first | rwa [add_block] at this | exact this) GW386.out)) | (dsimp only; exact Nat.ne_of_lt (Nat.lt_of_lt_of_le (by have := World.block_lt_of_cell? _ _ hw381_9; first | rwa [add_block] at this | exact this) GW386.out))) _).trans (hHeld.2.2.2.2.2.2.2.2.2.2.2.1)))), ((cell_far (p := ⟨gb386, _, none⟩) (by first | exact Nat.ne_of_lt (Nat.lt_of_lt_of_le (by have := World.block_lt_of_cell? _ _ hw381_10; first | rwa [add_block] at this | exact this) GW386.out) | (rw [add_block]; exact Nat.ne_of_lt (Nat.lt_of_lt_of_le (by have := World.block_lt_of_cell? _ _ hw381_10; first | rwa [add_block] at this | exact this) GW386.out)) | (show (Addr.add _ _).block ≠ _; rw [add_block]; exact Nat.ne_of_lt (Nat.lt_of_lt_of_le (by have := World.block_lt_of_cell? _ _ hw381_10; first | rwa [add_block] at this | exact this) GW386.out)) | (dsimp only; exact Nat.ne_of_lt (Nat.lt_of_lt_of_le (by have := World.block_lt_of_cell? _ _ hw381_10; first | rwa [add_block] at this | exact this) GW386.out))) _).trans (((cell_far (p := ⟨gb386, _, none⟩) (by first | exact Nat.ne_of_lt (Nat.lt_of_lt_of_le (by have := World.block_lt_of_cell? _ _ hw381_10; first | rwa [add_block] at this | exact this) GW386.out) | (rw [add_block]; exact Nat.ne_of_lt (Nat.lt_of_lt_of_le (by have := World.block_lt_of_cell? _ _ hw381_10; first | rwa [add_block] at this | exact this) GW386.out)) | (show (Addr.add _ _).block ≠ _; rw [add_block]; exact Nat.ne_of_lt (Nat.lt_of_lt_of_le (by have := World.block_lt_of_cell? _ _ hw381_10; first | rwa [add_block] at this | exact this) GW386.out)) | (dsimp only; exact Nat.ne_of_lt (Nat.lt_of_lt_of_le (by have := World.block_lt_of_cell? _ _ hw381_10; first | rwa [add_block] at this | exact this) GW386.out))) _).trans (hHeld.2.2.2.2.2.2.2.2.2.2.2.2.1)))), ((cell_far (p := ⟨gb386, _, none⟩) (by first | exact Nat.ne_of_lt (Nat.lt_of_lt_of_le (by have := World.block_lt_of_cell? _ _ hw381_11; first | rwa [add_block] at this | exact this) GW386.out) | (rw [add_block]; exact Nat.ne_of_lt (Nat.lt_of_lt_of_le (by have := World.block_lt_of_cell? _ _ hw381_11; first | rwa [add_block] at this | exact this) GW386.out)) | (show (Addr.add _ _).block ≠ _; rw [add_block]; exact Nat.ne_of_lt (Nat.lt_of_lt_of_le (by have := World.block_lt_of_cell? _ _ hw381_11; first | rwa [add_block] at this | exact this) GW386.out)) | (dsimp only; exact Nat.ne_of_lt (Nat.lt_of_lt_of_le (by have := World.block_lt_of_cell? _ _ hw381_11; first | rwa [add_block] at this | exact this) GW386.out))) _).trans (((cell_far (p := ⟨gb386, _, none⟩) (by first | exact Nat.ne_of_lt (Nat.lt_of_lt_of_le (by have := World.block_lt_of_cell? _ _ hw381_11; first | rwa [add_block] at this | exact this) GW386.out) | (rw [add_block]; exact Nat.ne_of_lt (Nat.lt_of_lt_of_le (by have := World.block_lt_of_cell? _ _ hw381_11; first | rwa [add_block] at this | exact this) GW386.out)) | (show (Addr.add _ _).block ≠ _; rw [add_block]; exact Nat.ne_of_lt (Nat.lt_of_lt_of_le (by have := World.block_lt_of_cell? _ _ hw381_11; first | rwa [add_block] at this | exact this) GW386.out)) | (dsimp only; exact Nat.ne_of_lt (Nat.lt_of_lt_of_le (by have := World.block_lt_of_cell? _ _ hw381_11; first | rwa [add_block] at this | exact this) GW386.out))) _).trans (hHeld.2.2.2.2.2.2.2.2.2.2.2.2.2.1)))), ((cell_far (p := ⟨gb386, _, none⟩) (by first | exact Nat.ne_of_lt (Nat.lt_of_lt_of_le (by have := World.block_lt_of_cell? _ _ hw381_12; first | rwa [add_block] at this | exact this) GW386.out) | (rw [add_block]; exact Nat.ne_of_lt (Nat.lt_of_lt_of_le (by have := World.block_lt_of_cell? _ _ hw381_12; first | rwa [add_block] at this | exact this) GW386.out)) | (show (Addr.add _ _).block ≠ _; rw [add_block]; exact Nat.ne_of_lt (Nat.lt_of_lt_of_le (by have := World.block_lt_of_cell? _ _ hw381_12; first | rwa [add_block] at this | exact this) GW386.out)) | (dsimp only; exact Nat.ne_of_lt (Nat.lt_of_lt_of_le (by have := World.block_lt_of_cell? _ _ hw381_12; first | rwa [add_block] at this | exact this) GW386.out))) _).trans (((cell_far (p := ⟨gb386, _, none⟩) (by first | exact Nat.ne_of_lt (Nat.lt_of_lt_of_le (by have := World.block_lt_of_cell? _ _ hw381_12; first | rwa [add_block] at this | exact this) GW386.out) | (rw [add_block]; exact Nat.ne_of_lt (Nat.lt_of_lt_of_le (by have := World.block_lt_of_cell? _ _ hw381_12; first | rwa [add_block] at this | exact this) GW386.out)) | (show (Addr.add _ _).block ≠ _; rw [add_block]; exact Nat.ne_of_lt (Nat.lt_of_lt_of_le (by have := World.block_lt_of_cell? _ _ hw381_12; first | rwa [add_block] at this | exact this) GW386.out)) | (dsimp only; exact Nat.ne_of_lt (Nat.lt_of_lt_of_le (by have := World.block_lt_of_cell? _ _ hw381_12; first | rwa [add_block] at this | exact this) GW386.out))) _).trans (hHeld.2.2.2.2.2.2.2.2.2.2.2.2.2.2.1)))), ((cell_far (p := ⟨gb386, _, none⟩) (by first | exact Nat.ne_of_lt (Nat.lt_of_lt_of_le (by have := World.block_lt_of_cell? _ _ hw381_13; first | rwa [add_block] at this | exact this) GW386.out) | (rw [add_block]; exact Nat.ne_of_lt (Nat.lt_of_lt_of_le (by have := World.block_lt_of_cell? _ _ hw381_13; first | rwa [add_block] at this | exact this) GW386.out)) | (show (Addr.add _ _).block ≠ _; rw [add_block]; exact Nat.ne_of_lt (Nat.lt_of_lt_of_le (by have := World.block_lt_of_cell? _ _ hw381_13; first | rwa [add_block] at this | exact this) GW386.out)) | (dsimp only; exact Nat.ne_of_lt (Nat.lt_of_lt_of_le (by have := World.block_lt_of_cell? _ _ hw381_13; first | rwa [add_block] at this | exact this) GW386.out))) _).trans (((cell_far (p := ⟨gb386, _, none⟩) (by first | exact Nat.ne_of_lt (Nat.lt_of_lt_of_le (by have := World.block_lt_of_cell? _ _ hw381_13; first | rwa [add_block] at this | exact this) GW386.out) | (rw [add_block]; exact Nat.ne_of_lt (Nat.lt_of_lt_of_le (by have := World.block_lt_of_cell? _ _ hw381_13; first | rwa [add_block] at this | exact this) GW386.out)) | (show (Addr.add _ _).block ≠ _; rw [add_block]; exact Nat.ne_of_lt (Nat.lt_of_lt_of_le (by have := World.block_lt_of_cell? _ _ hw381_13; first | rwa [add_block] at this | exact this) GW386.out)) | (dsimp only; exact Nat.ne_of_lt (Nat.lt_of_lt_of_le (by have := World.block_lt_of_cell? _ _ hw381_13; first | rwa [add_block] at this | exact this) GW386.out))) _).trans (hHeld.2.2.2.2.2.2.2.2.2.2.2.2.2.2.2.1)))), ((cell_far (p := ⟨gb386, _, none⟩) (by first | exact Nat.ne_of_lt (Nat.lt_of_lt_of_le (by have := World.block_lt_of_cell? _ _ hw381_14; first | rwa [add_block] at this | exact this) GW386.out) | (rw [add_block]; exact Nat.ne_of_lt (Nat.lt_of_lt_of_le (by have := World.block_lt_of_cell? _ _ hw381_14; first | rwa [add_block] at this | exact this) GW386.out)) | (show (Addr.add _ _).block ≠ _; rw [add_block]; exact Nat.ne_of_lt (Nat.lt_of_lt_of_le (by have := World.block_lt_of_cell? _ _ hw381_14; first | rwa [add_block] at this | exact this) GW386.out)) | (dsimp only; exact Nat.ne_of_lt (Nat.lt_of_lt_of_le (by have := World.block_lt_of_cell? _ _ hw381_14; first | rwa [add_block] at this | exact this) GW386.out))) _).trans (((cell_far (p := ⟨gb386, _, none⟩) (by first | exact Nat.ne_of_lt (Nat.lt_of_lt_of_le (by have := World.block_lt_of_cell? _ _ hw381_14; first | rwa [add_block] at this | exact this) GW386.out) | (rw [add_block]; exact Nat.ne_of_lt (Nat.lt_of_lt_of_le (by have := World.block_lt_of_cell? _ _ hw381_14; first | rwa [add_block] at this | exact this) GW386.out)) | (show (Addr.add _ _).block ≠ _; rw [add_block]; exact Nat.ne_of_lt (Nat.lt_of_lt_of_le (by have := World.block_lt_of_cell? _ _ hw381_14; first | rwa [add_block] at this | exact this) GW386.out)) | (dsimp only; exact Nat.ne_of_lt (Nat.lt_of_lt_of_le (by have := World.block_lt_of_cell? _ _ hw381_14; first | rwa [add_block] at this | exact this) GW386.out))) _).trans (hHeld.2.2.2.2.2.2.2.2.2.2.2.2.2.2.2.2.1)))), ((cell_far (p := ⟨gb386, _, none⟩) (by first | exact Nat.ne_of_lt (Nat.lt_of_lt_of_le (by have := World.block_lt_of_cell? _ _ hw381_15; first | rwa [add_block] at this | exact this) GW386.out) | (rw [add_block]; exact Nat.ne_of_lt (Nat.lt_of_lt_of_le (by have := World.block_lt_of_cell? _ _ hw381_15; first | rwa [add_block] at this | exact this) GW386.out)) | (show (Addr.add _ _).block ≠ _; rw [add_block]; exact Nat.ne_of_lt (Nat.lt_of_lt_of_le (by have := World.block_lt_of_cell? _ _ hw381_15; first | rwa [add_block] at this | exact this) GW386.out)) | (dsimp only; exact Nat.ne_of_lt (Nat.lt_of_lt_of_le (by have := World.block_lt_of_cell? _ _ hw381_15; first | rwa [add_block] at this | exact this) GW386.out))) _).trans (((cell_far (p := ⟨gb386, _, none⟩) (by first | exact Nat.ne_of_lt (Nat.lt_of_lt_of_le (by have := World.block_lt_of_cell? _ _ hw381_15; first | rwa [add_block] at this | exact this) GW386.out) | (rw [add_block]; exact Nat.ne_of_lt (Nat.lt_of_lt_of_le (by have := World.block_lt_of_cell? _ _ hw381_15; first | rwa [add_block] at this | exact this) GW386.out)) | (show (Addr.add _ _).block ≠ _; rw [add_block]; exact Nat.ne_of_lt (Nat.lt_of_lt_of_le (by have := World.block_lt_of_cell? _ _ hw381_15; first | rwa [add_block] at this | exact this) GW386.out)) | (dsimp only; exact Nat.ne_of_lt (Nat.lt_of_lt_of_le (by have := World.block_lt_of_cell? _ _ hw381_15; first | rwa [add_block] at this | exact this) GW386.out))) _).trans (hHeld.2.2.2.2.2.2.2.2.2.2.2.2.2.2.2.2.2))))⟩ (fun hHeld => ?_)
              clear hK K
              refine pure_ (i := 12) (N := some 8) (v := ?_) (a' := ?_) #[true, true, true, true, true, true, true, true, true, true, true, true, true, false] rfl rfl (any_of HT_.out (by kernel_rfl)) (fun _ _ _ h => h) (Or.inl ⟨by rfl, ?_⟩) ?_ ?_
              rotate_left
              · intro w'
                go_simp
                with_reducible rfl
              rotate_left
              · simp only [Act.put, List.setIfInBounds_toArray, List.set_cons_zero, List.set_cons_succ, i64_w, i32_w]
                rfl
              refine pure_ (i := 13) (N := some 9) (v := ?_) (a' := ?_) #[true, true, true, true, true, true, true, true, true, true, true, true, true, true] rfl rfl (any_of HT_.out (by kernel_rfl)) (fun _ _ _ h => h) (Or.inl ⟨by rfl, ?_⟩) ?_ ?_
              rotate_left
              · intro w'
                go_simp
                with_reducible rfl
              rotate_left
              · simp only [Act.put, List.setIfInBounds_toArray, List.set_cons_zero, List.set_cons_succ, i64_w, i32_w]
                rfl
              refine done_ (done_of HT_.out (by kernel_rfl)) ?_
              try go_wp2_with (first | ((with_reducible refine gate_builtin (b := .append) (xs := #[.tmp 27, .tmp 29]) rfl ?_); at_builtin; refine Kd.R_append (Kd.int .i64) (w0 := w) w.heap.size rfl (.tmp 27) (.tmp 29) 38 3 (.int .i64 0) 8 rfl Try.underlying38 info3 rfl (by decide) (by omega) u5 x5_1 t384 [.int .i64 t384] (fun _ => True) (fun _ => False) rfl (by first | (go_simp; done) | (go_simp; rfl)) ?aP (fun _ hk => hk.elim) ?aF ?aO ?aB ?aS ?aL ?_; (case aP => exact rfl); (case aB => exact (by repeat (first | (with_reducible first | exact HB.out | apply below_alloc | apply pw_below_drewN | apply below_drew1 | refine below_set ?_ GE379.out | refine below_set ?_ GE380.out | refine below_set ?_ GE386.out) | exact HB.out))); (case aF => exact (fun _ _ => trivial)); (case aO => exact (by (with_reducible repeat (first | apply Kd.R_alloc | apply Kd.R_drewN | apply Kd.R_drew)); exact Kd.R_mono (Kd.R_far (p := ⟨gb386, 1, none⟩) (Kd.R_far (p := ⟨gb386, 0, none⟩) (Kd.R_types HO_5.out BK386.out (by decide)) (fun _ hk => hk.2) (.bool t382)) (fun _ hk => hk.2) (.int .i64 t383)) (fun _ hk => trivial))); (case aS => exact (below_size (by repeat (first | (with_reducible first | exact HB.out | apply below_alloc | apply pw_below_drewN | apply below_drew1 | refine below_set ?_ GE379.out | refine below_set ?_ GE380.out | refine below_set ?_ GE386.out) | exact HB.out)))); (case aL => have := LMc8.out; omega); intro v388 w15 ho hb hg hat; rw [← Ny387.out] at ho; have n0_ := Aside0.mk (blk_grown (g := gb379) (o := .cells #[.bool false, .int .i64 0] 31 (0, 0)) (by (with_reducible repeat (first | refine blk_drewN ?_ _ | refine blk_drew ?_ | refine blk_alloc ?_ _)); refine blk_far ?_ NB379_386.out _; (with_reducible repeat (first | refine blk_drewN ?_ _ | refine blk_drew ?_ | refine blk_alloc ?_ _)); refine blk_far ?_ NB379_386.out _; (with_reducible repeat (first | refine blk_drewN ?_ _ | refine blk_drew ?_ | refine blk_alloc ?_ _)); exact BK379.out) hg (Kd.R_ne HO_5.out BK379.out (by decide))); have n1_ := Aside0.mk (blk_grown (g := gb380) (o := .cells #[.bool x381000_1, .int .i64 x381001_1] 31 (0, 0)) (by (with_reducible repeat (first | refine blk_drewN ?_ _ | refine blk_drew ?_ | refine blk_alloc ?_ _)); refine blk_far ?_ NB380_386.out _; (with_reducible repeat (first | refine blk_drewN ?_ _ | refine blk_drew ?_ | refine blk_alloc ?_ _)); refine blk_far ?_ NB380_386.out _; (with_reducible repeat (first | refine blk_drewN ?_ _ | refine blk_drew ?_ | refine blk_alloc ?_ _)); exact BK380.out) hg (Kd.R_ne HO_5.out BK380.out (by decide))); have n2_ := Aside0.mk (blk_grown (g := gb386) (o := .cells #[.bool t382, .int .i64 t383] 31 (0, 0)) (by (with_reducible repeat (first | refine blk_drewN ?_ _ | refine blk_drew ?_ | refine blk_alloc ?_ _)); refine blk_put (cs := #[.bool t382, .int .i64 0]) ?_ (1) _ rfl; (with_reducible repeat (first | refine blk_drewN ?_ _ | refine blk_drew ?_ | refine blk_alloc ?_ _)); refine blk_put (cs := #[.bool false, .int .i64 0]) ?_ (0) _ rfl; (with_reducible repeat (first | refine blk_drewN ?_ _ | refine blk_drew ?_ | refine blk_alloc ?_ _)); exact BK386.out) hg (Kd.R_ne HO_5.out BK386.out (by decide))); have n3_ := Aside0.mk (hb); have n4_ := Aside0.mk (ho); clear BK379; clear BK380; clear BK386; clear HB; clear HO_5; have BK379 := n0_; have BK380 := n1_; have BK386 := n2_; have HB := n3_; have HO389 := n4_; clear n0_ n1_ n2_ n3_ n4_; clear ho hb hg hat; have hnb16 := NB386_379.out; have hnc16 := NB379_386.out; have hnb17 := NB386_380.out; have hnc17 := NB380_386.out; have hcz18_0 : w15.cell? ⟨gb386, 0, none⟩ = some (.bool t382) := (blk_cell BK386.out 0).trans rfl; have hcz18_1 : w15.cell? ⟨gb386, 1, none⟩ = some (.int .i64 t383) := (blk_cell BK386.out 1).trans rfl; have hfz18_0 := blk_frozen BK386.out 0; have hfz18_1 := blk_frozen BK386.out 1; have hnb19 := NB380_379.out; have hnc19 := NB379_380.out; have hcz20_0 : w15.cell? ⟨gb380, 0, none⟩ = some (.bool x381000_1) := (blk_cell BK380.out 0).trans rfl; have hcz20_1 : w15.cell? ⟨gb380, 1, none⟩ = some (.int .i64 x381001_1) := (blk_cell BK380.out 1).trans rfl; have hfz20_0 := blk_frozen BK380.out 0; have hfz20_1 := blk_frozen BK380.out 1))
              go_roundg k1
              case measure => have := HK1.out; omega
              case rel => exact ⟨(y387), (wrap64 (x6_1 + 1)), (t382), (t383), (by first | rfl | (simp; done) | (simp [*]; done)), H', ⟨by have := HK1.out; omega⟩, ⟨by (with_reducible repeat (first | apply Kd.R_alloc | apply Kd.R_drewN | apply Kd.R_drew)); exact Kd.R_mono (Kd.R_far (p := ⟨gb380, 1, none⟩) (Kd.R_far (p := ⟨gb380, 0, none⟩) (Kd.R_types HO389.out BK380.out (by decide)) (fun _ hk => hk.2) (.bool t382)) (fun _ hk => hk.2) (.int .i64 t383)) (fun _ hk => trivial)⟩, ⟨by (with_reducible repeat (first | refine blk_drewN ?_ _ | refine blk_drew ?_ | refine blk_alloc ?_ _)); refine blk_far ?_ NB379_380.out _; (with_reducible repeat (first | refine blk_drewN ?_ _ | refine blk_drew ?_ | refine blk_alloc ?_ _)); refine blk_far ?_ NB379_380.out _; (with_reducible repeat (first | refine blk_drewN ?_ _ | refine blk_drew ?_ | refine blk_alloc ?_ _)); exact BK379.out⟩, ⟨by (with_reducible repeat (first | refine blk_drewN ?_ _ | refine blk_drew ?_ | refine blk_alloc ?_ _)); refine blk_put (cs := #[.bool t382, .int .i64 x381001_1]) ?_ (1) _ rfl; (with_reducible repeat (first | refine blk_drewN ?_ _ | refine blk_drew ?_ | refine blk_alloc ?_ _)); refine blk_put (cs := #[.bool x381000_1, .int .i64 x381001_1]) ?_ (0) _ rfl; (with_reducible repeat (first | refine blk_drewN ?_ _ | refine blk_drew ?_ | refine blk_alloc ?_ _)); exact BK380.out⟩, ⟨by repeat (first | (with_reducible first | exact HB.out | apply below_alloc | apply pw_below_drewN | apply below_drew1 | refine below_set ?_ GE379.out | refine below_set ?_ GE380.out | refine below_set ?_ GE386.out) | exact HB.out)⟩⟩
            · rw [if_neg c8] at H
              exact absurd H (by simp)
          · replace c7 := Bool.eq_false_iff.mpr c7
            subst c7
            have H1 : (periluneref32_All.l0 k1 l0 x5_1 (wrap64 (x6_1 + 1)) t382 t383) = some (r1, r2, r3) := by rw [if_neg (show ¬ (false = true) by decide)] at H; exact H
            clear H
            have H := H1
            clear H1
            have H' := Aside0.mk H
            clear H
            try go_wp2
            have n0_ := Aside0.mk (Kd.R_drew HO_5.out)
            have n1_ := Aside0.mk (blk_drew BK379.out)
            have n2_ := Aside0.mk (blk_drew BK380.out)
            have n3_ := Aside0.mk (below_drew1 HB.out)
            clear HO_5
            clear BK379
            clear BK380
            clear HB
            have HO_5 := n0_
            have BK379 := n1_
            have BK380 := n2_
            have HB := n3_
            clear n0_ n1_ n2_ n3_
            have p381 : 0 ≤ (x6_1 : Int) := of_decide_eq_true (by first | (with_reducible assumption) | assumption)
            have q381 : x6_1 < (l0.length : Int) := of_decide_eq_true (by first | (with_reducible assumption) | assumption)
            obtain ⟨ad381, e381, hx381_0, hx381_1, hx381_2, hx381_3, hx381_4, hx381_5, hx381_6, hx381_7, hx381_8, hx381_9, hx381_10, hx381_11, hx381_12, hx381_13, hx381_14, hx381_15⟩ := at_T22 HR0.out x6_1 p381 q381
            have hw381_15 := hx381_15
            have hw381_14 := hx381_14
            have hw381_13 := hx381_13
            have hw381_12 := hx381_12
            have hw381_11 := hx381_11
            have hw381_10 := hx381_10
            have hw381_9 := hx381_9
            have hw381_8 := hx381_8
            have hw381_7 := hx381_7
            have hw381_6 := hx381_6
            have hw381_5 := hx381_5
            have hw381_4 := hx381_4
            have hw381_3 := hx381_3
            have hw381_2 := hx381_2
            have hw381_1 := hx381_1
            have hw381_0 := hx381_0
            cases e381
            replace hx381_0 := (HB.out.cell (World.block_lt_of_cell? w _ hx381_0)).trans hx381_0
            replace hx381_1 := (HB.out.cell (World.block_lt_of_cell? w _ hx381_1)).trans hx381_1
            replace hx381_2 := (HB.out.cell (World.block_lt_of_cell? w _ hx381_2)).trans hx381_2
            replace hx381_3 := (HB.out.cell (World.block_lt_of_cell? w _ hx381_3)).trans hx381_3
            replace hx381_4 := (HB.out.cell (World.block_lt_of_cell? w _ hx381_4)).trans hx381_4
            replace hx381_5 := (HB.out.cell (World.block_lt_of_cell? w _ hx381_5)).trans hx381_5
            replace hx381_6 := (HB.out.cell (World.block_lt_of_cell? w _ hx381_6)).trans hx381_6
            replace hx381_7 := (HB.out.cell (World.block_lt_of_cell? w _ hx381_7)).trans hx381_7
            replace hx381_8 := (HB.out.cell (World.block_lt_of_cell? w _ hx381_8)).trans hx381_8
            replace hx381_9 := (HB.out.cell (World.block_lt_of_cell? w _ hx381_9)).trans hx381_9
            replace hx381_10 := (HB.out.cell (World.block_lt_of_cell? w _ hx381_10)).trans hx381_10
            replace hx381_11 := (HB.out.cell (World.block_lt_of_cell? w _ hx381_11)).trans hx381_11
            replace hx381_12 := (HB.out.cell (World.block_lt_of_cell? w _ hx381_12)).trans hx381_12
            replace hx381_13 := (HB.out.cell (World.block_lt_of_cell? w _ hx381_13)).trans hx381_13
            replace hx381_14 := (HB.out.cell (World.block_lt_of_cell? w _ hx381_14)).trans hx381_14
            replace hx381_15 := (HB.out.cell (World.block_lt_of_cell? w _ hx381_15)).trans hx381_15
            replace p381 := eq_true p381
            replace q381 := eq_true q381
            refine start_ (n := 14) (S := fun w' => w'.cell? ⟨gb380, 0, none⟩ = some (.bool x381000_1) ∧ w'.cell? ⟨gb380, 1, none⟩ = some (.int .i64 x381001_1) ∧ w'.cell? (ad381.add ((x6_1).toNat * 16)) = some (.int .u8 ((rd_T22 l0 x6_1).f0)) ∧ w'.cell? ⟨(ad381.add ((x6_1).toNat * 16)).block, (ad381.add ((x6_1).toNat * 16)).off + 1, none⟩ = some (.int .u8 ((rd_T22 l0 x6_1).f1)) ∧ w'.cell? ⟨(ad381.add ((x6_1).toNat * 16)).block, (ad381.add ((x6_1).toNat * 16)).off + 2, none⟩ = some (.int .u8 ((rd_T22 l0 x6_1).f2)) ∧ w'.cell? ⟨(ad381.add ((x6_1).toNat * 16)).block, (ad381.add ((x6_1).toNat * 16)).off + 3, none⟩ = some (.int .u8 ((rd_T22 l0 x6_1).f3)) ∧ w'.cell? ⟨(ad381.add ((x6_1).toNat * 16)).block, (ad381.add ((x6_1).toNat * 16)).off + 4, none⟩ = some (.int .u8 ((rd_T22 l0 x6_1).f4)) ∧ w'.cell? ⟨(ad381.add ((x6_1).toNat * 16)).block, (ad381.add ((x6_1).toNat * 16)).off + 5, none⟩ = some (.int .u8 ((rd_T22 l0 x6_1).f5)) ∧ w'.cell? ⟨(ad381.add ((x6_1).toNat * 16)).block, (ad381.add ((x6_1).toNat * 16)).off + 6, none⟩ = some (.int .u8 ((rd_T22 l0 x6_1).f6)) ∧ w'.cell? ⟨(ad381.add ((x6_1).toNat * 16)).block, (ad381.add ((x6_1).toNat * 16)).off + 7, none⟩ = some (.int .u8 ((rd_T22 l0 x6_1).f7)) ∧ w'.cell? ⟨(ad381.add ((x6_1).toNat * 16)).block, (ad381.add ((x6_1).toNat * 16)).off + 8, none⟩ = some (.int .u8 ((rd_T22 l0 x6_1).f8)) ∧ w'.cell? ⟨(ad381.add ((x6_1).toNat * 16)).block, (ad381.add ((x6_1).toNat * 16)).off + 9, none⟩ = some (.int .u8 ((rd_T22 l0 x6_1).f9)) ∧ w'.cell? ⟨(ad381.add ((x6_1).toNat * 16)).block, (ad381.add ((x6_1).toNat * 16)).off + 10, none⟩ = some (.int .u8 ((rd_T22 l0 x6_1).f10)) ∧ w'.cell? ⟨(ad381.add ((x6_1).toNat * 16)).block, (ad381.add ((x6_1).toNat * 16)).off + 11, none⟩ = some (.int .u8 ((rd_T22 l0 x6_1).f11)) ∧ w'.cell? ⟨(ad381.add ((x6_1).toNat * 16)).block, (ad381.add ((x6_1).toNat * 16)).off + 12, none⟩ = some (.int .u8 ((rd_T22 l0 x6_1).f12)) ∧ w'.cell? ⟨(ad381.add ((x6_1).toNat * 16)).block, (ad381.add ((x6_1).toNat * 16)).off + 13, none⟩ = some (.int .u8 ((rd_T22 l0 x6_1).f13)) ∧ w'.cell? ⟨(ad381.add ((x6_1).toNat * 16)).block, (ad381.add ((x6_1).toNat * 16)).off + 14, none⟩ = some (.int .u8 ((rd_T22 l0 x6_1).f14)) ∧ w'.cell? ⟨(ad381.add ((x6_1).toNat * 16)).block, (ad381.add ((x6_1).toNat * 16)).off + 15, none⟩ = some (.int .u8 ((rd_T22 l0 x6_1).f15))) (ds := []) #[false, false, false, false, false, false, false, false, false, false, false, false, false, false] (by kernel_rfl) rfl rfl ⟨(blk_cell BK380.out 0).trans rfl, (blk_cell BK380.out 1).trans rfl, ((HB.out.cell (World.block_lt_of_cell? w _ hw381_0)).trans hw381_0), ((HB.out.cell (World.block_lt_of_cell? w _ hw381_1)).trans hw381_1), ((HB.out.cell (World.block_lt_of_cell? w _ hw381_2)).trans hw381_2), ((HB.out.cell (World.block_lt_of_cell? w _ hw381_3)).trans hw381_3), ((HB.out.cell (World.block_lt_of_cell? w _ hw381_4)).trans hw381_4), ((HB.out.cell (World.block_lt_of_cell? w _ hw381_5)).trans hw381_5), ((HB.out.cell (World.block_lt_of_cell? w _ hw381_6)).trans hw381_6), ((HB.out.cell (World.block_lt_of_cell? w _ hw381_7)).trans hw381_7), ((HB.out.cell (World.block_lt_of_cell? w _ hw381_8)).trans hw381_8), ((HB.out.cell (World.block_lt_of_cell? w _ hw381_9)).trans hw381_9), ((HB.out.cell (World.block_lt_of_cell? w _ hw381_10)).trans hw381_10), ((HB.out.cell (World.block_lt_of_cell? w _ hw381_11)).trans hw381_11), ((HB.out.cell (World.block_lt_of_cell? w _ hw381_12)).trans hw381_12), ((HB.out.cell (World.block_lt_of_cell? w _ hw381_13)).trans hw381_13), ((HB.out.cell (World.block_lt_of_cell? w _ hw381_14)).trans hw381_14), ((HB.out.cell (World.block_lt_of_cell? w _ hw381_15)).trans hw381_15)⟩ (fun hHeld => ?_); refine with_tabW periluneref32_All.tab6 periluneref32_All.bits6 (fun HT_ HW_ => ?_)
            generalize wr.drew = w21 at HO_5 BK379 BK380 HB hx381_0 hx381_1 hx381_10 hx381_11 hx381_12 hx381_13 hx381_14 hx381_15 hx381_2 hx381_3 hx381_4 hx381_5 hx381_6 hx381_7 hx381_8 hx381_9 hHeld ⊢
            refine pure_ (i := 1) (N := some 18) (v := ?_) (a' := ?_) #[false, true, false, false, false, false, false, false, false, false, false, false, false, false] rfl rfl (any_of HT_.out (by kernel_rfl)) (fun _ _ _ h => h) (Or.inl ⟨by rfl, ?_⟩) ?_ ?_
            rotate_left
            · intro w'
              go_simp
              with_reducible rfl
            rotate_left
            · simp only [Act.put, List.setIfInBounds_toArray, List.set_cons_zero, List.set_cons_succ, i64_w, i32_w]
              rfl
            refine pure_ (i := 2) (N := some 19) (v := ?_) (a' := ?_) #[false, true, true, false, false, false, false, false, false, false, false, false, false, false] rfl rfl (any_of HT_.out (by kernel_rfl)) (fun _ _ _ h => h) (Or.inl ⟨by rfl, ?_⟩) ?_ ?_
            rotate_left
            · intro w'
              go_simp
              with_reducible rfl
            rotate_left
            · simp only [Act.put, List.setIfInBounds_toArray, List.set_cons_zero, List.set_cons_succ, i64_w, i32_w]
              rfl
            refine pure_ (i := 3) (N := some 20) (v := ?_) (a' := ?_) #[false, true, true, true, false, false, false, false, false, false, false, false, false, false] rfl rfl (any_of HT_.out (by kernel_rfl)) (fun _ _ _ h => h) (Or.inl ⟨by rfl, ?_⟩) ?_ ?_
            rotate_left
            · intro w'
              go_simp
              with_reducible rfl
            rotate_left
            · simp only [Act.put, List.setIfInBounds_toArray, List.set_cons_zero, List.set_cons_succ, i64_w, i32_w]
              rfl
            refine take_ (i := 0) (N := some 17) (v := ?_) (a' := ?_) #[true, true, true, true, false, false, false, false, false, false, false, false, false, false] rfl rfl (take_ofW HT_.out HW_.out (by kernel_rfl)) (fun _ _ _ h => h) (Or.inl ⟨by rfl, ?_⟩) hHeld ?_ ?_
            rotate_left
            · rintro w' ⟨s0, s1, s2, s3, s4, s5, s6, s7, s8, s9, s10, s11, s12, s13, s14, s15, s16, s17⟩
              go_simp
              with_reducible rfl
            rotate_left
            · simp only [Act.put, List.setIfInBounds_toArray, List.set_cons_zero, List.set_cons_succ, i64_w, i32_w]
              rfl
            refine take_ (i := 4) (N := some 21) (v := ?_) (a' := ?_) #[true, true, true, true, true, false, false, false, false, false, false, false, false, false] rfl rfl (take_ofW HT_.out HW_.out (by kernel_rfl)) (fun _ _ _ h => h) (Or.inl ⟨by rfl, ?_⟩) hHeld ?_ ?_
            rotate_left
            · rintro w' ⟨s0, s1, s2, s3, s4, s5, s6, s7, s8, s9, s10, s11, s12, s13, s14, s15, s16, s17⟩
              go_simp
              with_reducible rfl
            rotate_left
            · simp only [Act.put, List.setIfInBounds_toArray, List.set_cons_zero, List.set_cons_succ, i64_w, i32_w]
              rfl
            refine join_ (σ := Nat) 3 #[true, true, true, true, true, true, true, true, true, true, true, false, false, false] (fun s_ => [(22, .tuple #[.agg #[.bool t382, .int .i64 t383], .int .i64 t384, .bool false]), (7, .pointer (some ⟨s_, 0, none⟩)), (16, .tuple #[.agg #[.bool t382, .int .i64 t383], .int .i64 t384, .bool false]), (23, .agg #[.bool t382, .int .i64 t383]), (24, .int .i64 t384), (25, .bool false)]) (fun s_ w' => (w'.cell? ⟨gb380, 0, none⟩ = some (.bool x381000_1) ∧ w'.cell? ⟨gb380, 1, none⟩ = some (.int .i64 x381001_1) ∧ w'.cell? (ad381.add ((x6_1).toNat * 16)) = some (.int .u8 ((rd_T22 l0 x6_1).f0)) ∧ w'.cell? ⟨(ad381.add ((x6_1).toNat * 16)).block, (ad381.add ((x6_1).toNat * 16)).off + 1, none⟩ = some (.int .u8 ((rd_T22 l0 x6_1).f1)) ∧ w'.cell? ⟨(ad381.add ((x6_1).toNat * 16)).block, (ad381.add ((x6_1).toNat * 16)).off + 2, none⟩ = some (.int .u8 ((rd_T22 l0 x6_1).f2)) ∧ w'.cell? ⟨(ad381.add ((x6_1).toNat * 16)).block, (ad381.add ((x6_1).toNat * 16)).off + 3, none⟩ = some (.int .u8 ((rd_T22 l0 x6_1).f3)) ∧ w'.cell? ⟨(ad381.add ((x6_1).toNat * 16)).block, (ad381.add ((x6_1).toNat * 16)).off + 4, none⟩ = some (.int .u8 ((rd_T22 l0 x6_1).f4)) ∧ w'.cell? ⟨(ad381.add ((x6_1).toNat * 16)).block, (ad381.add ((x6_1).toNat * 16)).off + 5, none⟩ = some (.int .u8 ((rd_T22 l0 x6_1).f5)) ∧ w'.cell? ⟨(ad381.add ((x6_1).toNat * 16)).block, (ad381.add ((x6_1).toNat * 16)).off + 6, none⟩ = some (.int .u8 ((rd_T22 l0 x6_1).f6)) ∧ w'.cell? ⟨(ad381.add ((x6_1).toNat * 16)).block, (ad381.add ((x6_1).toNat * 16)).off + 7, none⟩ = some (.int .u8 ((rd_T22 l0 x6_1).f7)) ∧ w'.cell? ⟨(ad381.add ((x6_1).toNat * 16)).block, (ad381.add ((x6_1).toNat * 16)).off + 8, none⟩ = some (.int .u8 ((rd_T22 l0 x6_1).f8)) ∧ w'.cell? ⟨(ad381.add ((x6_1).toNat * 16)).block, (ad381.add ((x6_1).toNat * 16)).off + 9, none⟩ = some (.int .u8 ((rd_T22 l0 x6_1).f9)) ∧ w'.cell? ⟨(ad381.add ((x6_1).toNat * 16)).block, (ad381.add ((x6_1).toNat * 16)).off + 10, none⟩ = some (.int .u8 ((rd_T22 l0 x6_1).f10)) ∧ w'.cell? ⟨(ad381.add ((x6_1).toNat * 16)).block, (ad381.add ((x6_1).toNat * 16)).off + 11, none⟩ = some (.int .u8 ((rd_T22 l0 x6_1).f11)) ∧ w'.cell? ⟨(ad381.add ((x6_1).toNat * 16)).block, (ad381.add ((x6_1).toNat * 16)).off + 12, none⟩ = some (.int .u8 ((rd_T22 l0 x6_1).f12)) ∧ w'.cell? ⟨(ad381.add ((x6_1).toNat * 16)).block, (ad381.add ((x6_1).toNat * 16)).off + 13, none⟩ = some (.int .u8 ((rd_T22 l0 x6_1).f13)) ∧ w'.cell? ⟨(ad381.add ((x6_1).toNat * 16)).block, (ad381.add ((x6_1).toNat * 16)).off + 14, none⟩ = some (.int .u8 ((rd_T22 l0 x6_1).f14)) ∧ w'.cell? ⟨(ad381.add ((x6_1).toNat * 16)).block, (ad381.add ((x6_1).toNat * 16)).off + 15, none⟩ = some (.int .u8 ((rd_T22 l0 x6_1).f15))) ∧ (Kd.R (Kd.int .i64) 3 w' w.heap.size (fun _ => True) u5 x5_1) ∧ (w'.heap[gb379]? = some (.cells #[.bool false, .int .i64 0] 31 (0, 0))) ∧ (w'.heap[gb380]? = some (.cells #[.bool x381000_1, .int .i64 x381001_1] 31 (0, 0))) ∧ (w'.heap[s_]? = some (.cells #[.bool false, .int .i64 0] 31 (0, 0))) ∧ (w.heap.size ≤ s_) ∧ (w.heap.size ≤ s_) ∧ (gb379 ≠ s_) ∧ (s_ ≠ gb379) ∧ (gb380 ≠ s_) ∧ (s_ ≠ gb380) ∧ (Below w.heap.size w w')) ?_ ?_
            rotate_left
            · intro hCont
              refine two_ (i := 5) (j := 10) (Ni := some 22) (Nj := some 7) #[true, true, true, true, true, true, false, false, false, false, false, false, false, false] #[true, true, true, true, true, false, false, false, false, false, true, false, false, false] rfl rfl rfl rfl (two_of HT_.out (by kernel_rfl)) (by decide) (by decide) (fun K hK => ?_) (fun K hK => ?_)
              · skip
                refine goes_ Try.func17 (by kernel_rfl) rfl #[.agg #[.bool x381000_1, .int .i64 x381001_1], .agg #[.int .u8 ((rd_T22 l0 x6_1).f0), .int .u8 ((rd_T22 l0 x6_1).f1), .int .u8 ((rd_T22 l0 x6_1).f2), .int .u8 ((rd_T22 l0 x6_1).f3), .int .u8 ((rd_T22 l0 x6_1).f4), .int .u8 ((rd_T22 l0 x6_1).f5), .int .u8 ((rd_T22 l0 x6_1).f6), .int .u8 ((rd_T22 l0 x6_1).f7), .int .u8 ((rd_T22 l0 x6_1).f8), .int .u8 ((rd_T22 l0 x6_1).f9), .int .u8 ((rd_T22 l0 x6_1).f10), .int .u8 ((rd_T22 l0 x6_1).f11), .int .u8 ((rd_T22 l0 x6_1).f12), .int .u8 ((rd_T22 l0 x6_1).f13), .int .u8 ((rd_T22 l0 x6_1).f14), .int .u8 ((rd_T22 l0 x6_1).f15)]] (by rfl) rfl rfl (by (try simp only [List.map_toArray, List.map_cons, List.map_nil]); first | done | rfl | (simp only [List.length_drop, List.length_take]; rfl)) ?_
                with_reducible refine (periluneref32_Receive.calls k1 x381000_1 x381001_1 ((rd_T22 l0 x6_1).f0) ((rd_T22 l0 x6_1).f1) ((rd_T22 l0 x6_1).f2) ((rd_T22 l0 x6_1).f3) ((rd_T22 l0 x6_1).f4) ((rd_T22 l0 x6_1).f5) ((rd_T22 l0 x6_1).f6) ((rd_T22 l0 x6_1).f7) ((rd_T22 l0 x6_1).f8) ((rd_T22 l0 x6_1).f9) ((rd_T22 l0 x6_1).f10) ((rd_T22 l0 x6_1).f11) ((rd_T22 l0 x6_1).f12) ((rd_T22 l0 x6_1).f13) ((rd_T22 l0 x6_1).f14) ((rd_T22 l0 x6_1).f15) t382 t383 t384 false _ A6.out).mono ?_
                rintro e w22 ⟨rfl, hb⟩
                refine ⟨_, rfl, ?_⟩
                have n0_ := Aside0.mk (Kd.R_below (by (with_reducible repeat (first | apply Kd.R_alloc | apply Kd.R_drewN | apply Kd.R_drew)); exact HO_5.out) hb)
                have n1_ := Aside0.mk (blk_below (g := gb379) (o := .cells #[.bool false, .int .i64 0] 31 (0, 0)) (by (with_reducible repeat (first | refine blk_drewN ?_ _ | refine blk_drew ?_ | refine blk_alloc ?_ _)); exact BK379.out) hb)
                have n2_ := Aside0.mk (blk_below (g := gb380) (o := .cells #[.bool x381000_1, .int .i64 x381001_1] 31 (0, 0)) (by (with_reducible repeat (first | refine blk_drewN ?_ _ | refine blk_drew ?_ | refine blk_alloc ?_ _)); exact BK380.out) hb)
                have n3_ := Aside0.mk (below_step (by repeat (first | (with_reducible first | exact HB.out | apply below_alloc | apply pw_below_drewN | apply below_drew1 | refine below_set ?_ GE379.out | refine below_set ?_ GE380.out) | exact HB.out)) hb)
                clear HO_5
                clear BK379
                clear BK380
                clear HB
                have HO_5 := n0_
                have BK379 := n1_
                have BK380 := n2_
                have HB := n3_
                clear n0_ n1_ n2_ n3_
                (try clear hb)
                (try clear hb2)
                (try clear hk)
                (try clear hi)
                refine hK.out _ _ ⟨(blk_cell BK380.out 0).trans rfl, (blk_cell BK380.out 1).trans rfl, ((HB.out.cell (World.block_lt_of_cell? w _ hw381_0)).trans hw381_0), ((HB.out.cell (World.block_lt_of_cell? w _ hw381_1)).trans hw381_1), ((HB.out.cell (World.block_lt_of_cell? w _ hw381_2)).trans hw381_2), ((HB.out.cell (World.block_lt_of_cell? w _ hw381_3)).trans hw381_3), ((HB.out.cell (World.block_lt_of_cell? w _ hw381_4)).trans hw381_4), ((HB.out.cell (World.block_lt_of_cell? w _ hw381_5)).trans hw381_5), ((HB.out.cell (World.block_lt_of_cell? w _ hw381_6)).trans hw381_6), ((HB.out.cell (World.block_lt_of_cell? w _ hw381_7)).trans hw381_7), ((HB.out.cell (World.block_lt_of_cell? w _ hw381_8)).trans hw381_8), ((HB.out.cell (World.block_lt_of_cell? w _ hw381_9)).trans hw381_9), ((HB.out.cell (World.block_lt_of_cell? w _ hw381_10)).trans hw381_10), ((HB.out.cell (World.block_lt_of_cell? w _ hw381_11)).trans hw381_11), ((HB.out.cell (World.block_lt_of_cell? w _ hw381_12)).trans hw381_12), ((HB.out.cell (World.block_lt_of_cell? w _ hw381_13)).trans hw381_13), ((HB.out.cell (World.block_lt_of_cell? w _ hw381_14)).trans hw381_14), ((HB.out.cell (World.block_lt_of_cell? w _ hw381_15)).trans hw381_15)⟩ (fun hHeld => ?_)
                clear hK K
                refine norm_ (a' := ?_) ?_ ?_
                rotate_left
                · show Act.put _ (some 22) _ = _
                  simp only [Act.put, List.setIfInBounds_toArray, List.set_cons_zero, List.set_cons_succ, i64_w, i32_w]
                  rfl
                refine pure_ (i := 6) (N := some 16) (v := ?_) (a' := ?_) #[true, true, true, true, true, true, true, false, false, false, false, false, false, false] rfl rfl (any_of HT_.out (by kernel_rfl)) (fun _ _ _ h => h) (Or.inl ⟨by rfl, ?_⟩) ?_ ?_
                rotate_left
                · intro w'
                  go_simp
                  with_reducible rfl
                rotate_left
                · simp only [Act.put, List.setIfInBounds_toArray, List.set_cons_zero, List.set_cons_succ, i64_w, i32_w]
                  rfl
                refine pure_ (i := 7) (N := some 23) (v := ?_) (a' := ?_) #[true, true, true, true, true, true, true, true, false, false, false, false, false, false] rfl rfl (any_of HT_.out (by kernel_rfl)) (fun _ _ _ h => h) (Or.inl ⟨by rfl, ?_⟩) ?_ ?_
                rotate_left
                · intro w'
                  go_simp
                  with_reducible rfl
                rotate_left
                · simp only [Act.put, List.setIfInBounds_toArray, List.set_cons_zero, List.set_cons_succ, i64_w, i32_w]
                  rfl
                refine pure_ (i := 8) (N := some 24) (v := ?_) (a' := ?_) #[true, true, true, true, true, true, true, true, true, false, false, false, false, false] rfl rfl (any_of HT_.out (by kernel_rfl)) (fun _ _ _ h => h) (Or.inl ⟨by rfl, ?_⟩) ?_ ?_
                rotate_left
                · intro w'
                  go_simp
                  with_reducible rfl
                rotate_left
                · simp only [Act.put, List.setIfInBounds_toArray, List.set_cons_zero, List.set_cons_succ, i64_w, i32_w]
                  rfl
                refine pure_ (i := 9) (N := some 25) (v := ?_) (a' := ?_) #[true, true, true, true, true, true, true, true, true, true, false, false, false, false] rfl rfl (any_of HT_.out (by kernel_rfl)) (fun _ _ _ h => h) (Or.inl ⟨by rfl, ?_⟩) ?_ ?_
                rotate_left
                · intro w'
                  go_simp
                  with_reducible rfl
                rotate_left
                · simp only [Act.put, List.setIfInBounds_toArray, List.set_cons_zero, List.set_cons_succ, i64_w, i32_w]
                  rfl
                refine one_ (i := 10) (N := some 7) #[true, true, true, true, true, true, true, true, true, true, true, false, false, false] rfl rfl (one_of HT_.out (by kernel_rfl)) (by decide) (fun K hK => ?_)
                refine box_step ?hg (N := 7) ?hd (cs := #[.bool false, .int .i64 0]) (t := 31) ?hr ?_; (case hd => rfl); (case hg => rfl); (case hr => first | (go_simp; done) | (go_simp; rfl))
                intro gb386 hg w23 hbox hb
                have n0_ := Aside0.mk (Kd.R_below (by (with_reducible repeat (first | apply Kd.R_alloc | apply Kd.R_drewN | apply Kd.R_drew)); exact HO_5.out) hb)
                have n1_ := Aside0.mk (blk_below (g := gb379) (o := .cells #[.bool false, .int .i64 0] 31 (0, 0)) (by (with_reducible repeat (first | refine blk_drewN ?_ _ | refine blk_drew ?_ | refine blk_alloc ?_ _)); exact BK379.out) hb)
                have n2_ := Aside0.mk (blk_below (g := gb380) (o := .cells #[.bool x381000_1, .int .i64 x381001_1] 31 (0, 0)) (by (with_reducible repeat (first | refine blk_drewN ?_ _ | refine blk_drew ?_ | refine blk_alloc ?_ _)); exact BK380.out) hb)
                have n3_ := Aside0.mk (below_step (by repeat (first | (with_reducible first | exact HB.out | apply below_alloc | apply pw_below_drewN | apply below_drew1 | refine below_set ?_ GE379.out | refine below_set ?_ GE380.out) | exact HB.out)) hb)
                have n4_ := Aside0.mk (hbox)
                have n5_ := Aside0.mk ((by rw [hg]; exact (below_size (by repeat (first | (with_reducible first | exact HB.out | apply below_alloc | apply pw_below_drewN | apply below_drew1 | refine below_set ?_ GE379.out | refine below_set ?_ GE380.out) | exact HB.out))) : w.heap.size ≤ gb386))
                have n6_ := Aside0.mk ((by rw [hg]; exact (below_size (by repeat (first | (with_reducible first | exact HB.out | apply below_alloc | apply pw_below_drewN | apply below_drew1 | refine below_set ?_ GE379.out | refine below_set ?_ GE380.out) | exact HB.out))) : w.heap.size ≤ gb386))
                have n7_ := Aside0.mk ((by rw [hg]; exact Nat.ne_of_lt (blk_lt (g := gb379) (o := .cells #[.bool false, .int .i64 0] 31 (0, 0)) (by (with_reducible repeat (first | refine blk_drewN ?_ _ | refine blk_drew ?_ | refine blk_alloc ?_ _)); exact BK379.out)) : gb379 ≠ gb386))
                have n8_ := Aside0.mk ((by rw [hg]; exact Nat.ne_of_gt (blk_lt (g := gb379) (o := .cells #[.bool false, .int .i64 0] 31 (0, 0)) (by (with_reducible repeat (first | refine blk_drewN ?_ _ | refine blk_drew ?_ | refine blk_alloc ?_ _)); exact BK379.out)) : gb386 ≠ gb379))
                have n9_ := Aside0.mk ((by rw [hg]; exact Nat.ne_of_lt (blk_lt (g := gb380) (o := .cells #[.bool x381000_1, .int .i64 x381001_1] 31 (0, 0)) (by (with_reducible repeat (first | refine blk_drewN ?_ _ | refine blk_drew ?_ | refine blk_alloc ?_ _)); exact BK380.out)) : gb380 ≠ gb386))
                have n10_ := Aside0.mk ((by rw [hg]; exact Nat.ne_of_gt (blk_lt (g := gb380) (o := .cells #[.bool x381000_1, .int .i64 x381001_1] 31 (0, 0)) (by (with_reducible repeat (first | refine blk_drewN ?_ _ | refine blk_drew ?_ | refine blk_alloc ?_ _)); exact BK380.out)) : gb386 ≠ gb380))
                clear HO_5
                clear BK379
                clear BK380
                clear HB
                have HO_5 := n0_
                have BK379 := n1_
                have BK380 := n2_
                have HB := n3_
                have BK386 := n4_
                have GW386 := n5_
                have GE386 := n6_
                have NB379_386 := n7_
                have NB386_379 := n8_
                have NB380_386 := n9_
                have NB386_380 := n10_
                clear n0_ n1_ n2_ n3_ n4_ n5_ n6_ n7_ n8_ n9_ n10_
                clear hb hbox hg
                refine hK.out _ _ ⟨(blk_cell BK380.out 0).trans rfl, (blk_cell BK380.out 1).trans rfl, ((HB.out.cell (World.block_lt_of_cell? w _ hw381_0)).trans hw381_0), ((HB.out.cell (World.block_lt_of_cell? w _ hw381_1)).trans hw381_1), ((HB.out.cell (World.block_lt_of_cell? w _ hw381_2)).trans hw381_2), ((HB.out.cell (World.block_lt_of_cell? w _ hw381_3)).trans hw381_3), ((HB.out.cell (World.block_lt_of_cell? w _ hw381_4)).trans hw381_4), ((HB.out.cell (World.block_lt_of_cell? w _ hw381_5)).trans hw381_5), ((HB.out.cell (World.block_lt_of_cell? w _ hw381_6)).trans hw381_6), ((HB.out.cell (World.block_lt_of_cell? w _ hw381_7)).trans hw381_7), ((HB.out.cell (World.block_lt_of_cell? w _ hw381_8)).trans hw381_8), ((HB.out.cell (World.block_lt_of_cell? w _ hw381_9)).trans hw381_9), ((HB.out.cell (World.block_lt_of_cell? w _ hw381_10)).trans hw381_10), ((HB.out.cell (World.block_lt_of_cell? w _ hw381_11)).trans hw381_11), ((HB.out.cell (World.block_lt_of_cell? w _ hw381_12)).trans hw381_12), ((HB.out.cell (World.block_lt_of_cell? w _ hw381_13)).trans hw381_13), ((HB.out.cell (World.block_lt_of_cell? w _ hw381_14)).trans hw381_14), ((HB.out.cell (World.block_lt_of_cell? w _ hw381_15)).trans hw381_15)⟩ (fun hHeld => ?_)
                clear hK K
                refine norm_ (a' := ?_) ?_ ?_
                rotate_left
                · show Act.put _ (some 7) _ = _
                  simp only [Act.put, List.setIfInBounds_toArray, List.set_cons_zero, List.set_cons_succ, i64_w, i32_w]
                  rfl
                exact norm_ (by simp only [putAll, Act.put, List.setIfInBounds_toArray, List.set_cons_zero, List.set_cons_succ]) (hCont (gb386) _ ⟨hHeld, (by (with_reducible repeat (first | apply Kd.R_alloc | apply Kd.R_drewN | apply Kd.R_drew)); exact HO_5.out), (by (with_reducible repeat (first | refine blk_drewN ?_ _ | refine blk_drew ?_ | refine blk_alloc ?_ _)); exact BK379.out), (by (with_reducible repeat (first | refine blk_drewN ?_ _ | refine blk_drew ?_ | refine blk_alloc ?_ _)); exact BK380.out), (by (with_reducible repeat (first | refine blk_drewN ?_ _ | refine blk_drew ?_ | refine blk_alloc ?_ _)); exact BK386.out), GW386.out, GE386.out, NB379_386.out, NB386_379.out, NB380_386.out, NB386_380.out, (by repeat (first | (with_reducible first | exact HB.out | apply below_alloc | apply pw_below_drewN | apply below_drew1 | refine below_set ?_ GE379.out | refine below_set ?_ GE380.out | refine below_set ?_ GE386.out) | exact HB.out))⟩)
              · skip
                refine box_step ?hg (N := 7) ?hd (cs := #[.bool false, .int .i64 0]) (t := 31) ?hr ?_; (case hd => rfl); (case hg => rfl); (case hr => first | (go_simp; done) | (go_simp; rfl))
                intro gb386 hg w22 hbox hb
                have n0_ := Aside0.mk (Kd.R_below (by (with_reducible repeat (first | apply Kd.R_alloc | apply Kd.R_drewN | apply Kd.R_drew)); exact HO_5.out) hb)
                have n1_ := Aside0.mk (blk_below (g := gb379) (o := .cells #[.bool false, .int .i64 0] 31 (0, 0)) (by (with_reducible repeat (first | refine blk_drewN ?_ _ | refine blk_drew ?_ | refine blk_alloc ?_ _)); exact BK379.out) hb)
                have n2_ := Aside0.mk (blk_below (g := gb380) (o := .cells #[.bool x381000_1, .int .i64 x381001_1] 31 (0, 0)) (by (with_reducible repeat (first | refine blk_drewN ?_ _ | refine blk_drew ?_ | refine blk_alloc ?_ _)); exact BK380.out) hb)
                have n3_ := Aside0.mk (below_step (by repeat (first | (with_reducible first | exact HB.out | apply below_alloc | apply pw_below_drewN | apply below_drew1 | refine below_set ?_ GE379.out | refine below_set ?_ GE380.out) | exact HB.out)) hb)
                have n4_ := Aside0.mk (hbox)
                have n5_ := Aside0.mk ((by rw [hg]; exact (below_size (by repeat (first | (with_reducible first | exact HB.out | apply below_alloc | apply pw_below_drewN | apply below_drew1 | refine below_set ?_ GE379.out | refine below_set ?_ GE380.out) | exact HB.out))) : w.heap.size ≤ gb386))
                have n6_ := Aside0.mk ((by rw [hg]; exact (below_size (by repeat (first | (with_reducible first | exact HB.out | apply below_alloc | apply pw_below_drewN | apply below_drew1 | refine below_set ?_ GE379.out | refine below_set ?_ GE380.out) | exact HB.out))) : w.heap.size ≤ gb386))
                have n7_ := Aside0.mk ((by rw [hg]; exact Nat.ne_of_lt (blk_lt (g := gb379) (o := .cells #[.bool false, .int .i64 0] 31 (0, 0)) (by (with_reducible repeat (first | refine blk_drewN ?_ _ | refine blk_drew ?_ | refine blk_alloc ?_ _)); exact BK379.out)) : gb379 ≠ gb386))
                have n8_ := Aside0.mk ((by rw [hg]; exact Nat.ne_of_gt (blk_lt (g := gb379) (o := .cells #[.bool false, .int .i64 0] 31 (0, 0)) (by (with_reducible repeat (first | refine blk_drewN ?_ _ | refine blk_drew ?_ | refine blk_alloc ?_ _)); exact BK379.out)) : gb386 ≠ gb379))
                have n9_ := Aside0.mk ((by rw [hg]; exact Nat.ne_of_lt (blk_lt (g := gb380) (o := .cells #[.bool x381000_1, .int .i64 x381001_1] 31 (0, 0)) (by (with_reducible repeat (first | refine blk_drewN ?_ _ | refine blk_drew ?_ | refine blk_alloc ?_ _)); exact BK380.out)) : gb380 ≠ gb386))
                have n10_ := Aside0.mk ((by rw [hg]; exact Nat.ne_of_gt (blk_lt (g := gb380) (o := .cells #[.bool x381000_1, .int .i64 x381001_1] 31 (0, 0)) (by (with_reducible repeat (first | refine blk_drewN ?_ _ | refine blk_drew ?_ | refine blk_alloc ?_ _)); exact BK380.out)) : gb386 ≠ gb380))
                clear HO_5
                clear BK379
                clear BK380
                clear HB
                have HO_5 := n0_
                have BK379 := n1_
                have BK380 := n2_
                have HB := n3_
                have BK386 := n4_
                have GW386 := n5_
                have GE386 := n6_
                have NB379_386 := n7_
                have NB386_379 := n8_
                have NB380_386 := n9_
                have NB386_380 := n10_
                clear n0_ n1_ n2_ n3_ n4_ n5_ n6_ n7_ n8_ n9_ n10_
                clear hb hbox hg
                refine hK.out _ _ ⟨(blk_cell BK380.out 0).trans rfl, (blk_cell BK380.out 1).trans rfl, ((HB.out.cell (World.block_lt_of_cell? w _ hw381_0)).trans hw381_0), ((HB.out.cell (World.block_lt_of_cell? w _ hw381_1)).trans hw381_1), ((HB.out.cell (World.block_lt_of_cell? w _ hw381_2)).trans hw381_2), ((HB.out.cell (World.block_lt_of_cell? w _ hw381_3)).trans hw381_3), ((HB.out.cell (World.block_lt_of_cell? w _ hw381_4)).trans hw381_4), ((HB.out.cell (World.block_lt_of_cell? w _ hw381_5)).trans hw381_5), ((HB.out.cell (World.block_lt_of_cell? w _ hw381_6)).trans hw381_6), ((HB.out.cell (World.block_lt_of_cell? w _ hw381_7)).trans hw381_7), ((HB.out.cell (World.block_lt_of_cell? w _ hw381_8)).trans hw381_8), ((HB.out.cell (World.block_lt_of_cell? w _ hw381_9)).trans hw381_9), ((HB.out.cell (World.block_lt_of_cell? w _ hw381_10)).trans hw381_10), ((HB.out.cell (World.block_lt_of_cell? w _ hw381_11)).trans hw381_11), ((HB.out.cell (World.block_lt_of_cell? w _ hw381_12)).trans hw381_12), ((HB.out.cell (World.block_lt_of_cell? w _ hw381_13)).trans hw381_13), ((HB.out.cell (World.block_lt_of_cell? w _ hw381_14)).trans hw381_14), ((HB.out.cell (World.block_lt_of_cell? w _ hw381_15)).trans hw381_15)⟩ (fun hHeld => ?_)
                clear hK K
                refine norm_ (a' := ?_) ?_ ?_
                rotate_left
                · show Act.put _ (some 7) _ = _
                  simp only [Act.put, List.setIfInBounds_toArray, List.set_cons_zero, List.set_cons_succ, i64_w, i32_w]
                  rfl
                refine one_ (i := 5) (N := some 22) #[true, true, true, true, true, true, false, false, false, false, true, false, false, false] rfl rfl (one_of HT_.out (by kernel_rfl)) (by decide) (fun K hK => ?_)
                refine goes_ Try.func17 (by kernel_rfl) rfl #[.agg #[.bool x381000_1, .int .i64 x381001_1], .agg #[.int .u8 ((rd_T22 l0 x6_1).f0), .int .u8 ((rd_T22 l0 x6_1).f1), .int .u8 ((rd_T22 l0 x6_1).f2), .int .u8 ((rd_T22 l0 x6_1).f3), .int .u8 ((rd_T22 l0 x6_1).f4), .int .u8 ((rd_T22 l0 x6_1).f5), .int .u8 ((rd_T22 l0 x6_1).f6), .int .u8 ((rd_T22 l0 x6_1).f7), .int .u8 ((rd_T22 l0 x6_1).f8), .int .u8 ((rd_T22 l0 x6_1).f9), .int .u8 ((rd_T22 l0 x6_1).f10), .int .u8 ((rd_T22 l0 x6_1).f11), .int .u8 ((rd_T22 l0 x6_1).f12), .int .u8 ((rd_T22 l0 x6_1).f13), .int .u8 ((rd_T22 l0 x6_1).f14), .int .u8 ((rd_T22 l0 x6_1).f15)]] (by rfl) rfl rfl (by (try simp only [List.map_toArray, List.map_cons, List.map_nil]); first | done | rfl | (simp only [List.length_drop, List.length_take]; rfl)) ?_
                with_reducible refine (periluneref32_Receive.calls k1 x381000_1 x381001_1 ((rd_T22 l0 x6_1).f0) ((rd_T22 l0 x6_1).f1) ((rd_T22 l0 x6_1).f2) ((rd_T22 l0 x6_1).f3) ((rd_T22 l0 x6_1).f4) ((rd_T22 l0 x6_1).f5) ((rd_T22 l0 x6_1).f6) ((rd_T22 l0 x6_1).f7) ((rd_T22 l0 x6_1).f8) ((rd_T22 l0 x6_1).f9) ((rd_T22 l0 x6_1).f10) ((rd_T22 l0 x6_1).f11) ((rd_T22 l0 x6_1).f12) ((rd_T22 l0 x6_1).f13) ((rd_T22 l0 x6_1).f14) ((rd_T22 l0 x6_1).f15) t382 t383 t384 false _ A6.out).mono ?_
                rintro e w23 ⟨rfl, hb⟩
                refine ⟨_, rfl, ?_⟩
                have n0_ := Aside0.mk (Kd.R_below (by (with_reducible repeat (first | apply Kd.R_alloc | apply Kd.R_drewN | apply Kd.R_drew)); exact HO_5.out) hb)
                have n1_ := Aside0.mk (blk_below (g := gb379) (o := .cells #[.bool false, .int .i64 0] 31 (0, 0)) (by (with_reducible repeat (first | refine blk_drewN ?_ _ | refine blk_drew ?_ | refine blk_alloc ?_ _)); exact BK379.out) hb)
                have n2_ := Aside0.mk (blk_below (g := gb380) (o := .cells #[.bool x381000_1, .int .i64 x381001_1] 31 (0, 0)) (by (with_reducible repeat (first | refine blk_drewN ?_ _ | refine blk_drew ?_ | refine blk_alloc ?_ _)); exact BK380.out) hb)
                have n3_ := Aside0.mk (blk_below (g := gb386) (o := .cells #[.bool false, .int .i64 0] 31 (0, 0)) (by (with_reducible repeat (first | refine blk_drewN ?_ _ | refine blk_drew ?_ | refine blk_alloc ?_ _)); exact BK386.out) hb)
                have n4_ := Aside0.mk (below_step (by repeat (first | (with_reducible first | exact HB.out | apply below_alloc | apply pw_below_drewN | apply below_drew1 | refine below_set ?_ GE379.out | refine below_set ?_ GE380.out | refine below_set ?_ GE386.out) | exact HB.out)) hb)
                clear HO_5
                clear BK379
                clear BK380
                clear BK386
                clear HB
                have HO_5 := n0_
                have BK379 := n1_
                have BK380 := n2_
                have BK386 := n3_
                have HB := n4_
                clear n0_ n1_ n2_ n3_ n4_
                (try clear hb)
                (try clear hb2)
                (try clear hk)
                (try clear hi)
                refine hK.out _ _ ⟨(blk_cell BK380.out 0).trans rfl, (blk_cell BK380.out 1).trans rfl, ((HB.out.cell (World.block_lt_of_cell? w _ hw381_0)).trans hw381_0), ((HB.out.cell (World.block_lt_of_cell? w _ hw381_1)).trans hw381_1), ((HB.out.cell (World.block_lt_of_cell? w _ hw381_2)).trans hw381_2), ((HB.out.cell (World.block_lt_of_cell? w _ hw381_3)).trans hw381_3), ((HB.out.cell (World.block_lt_of_cell? w _ hw381_4)).trans hw381_4), ((HB.out.cell (World.block_lt_of_cell? w _ hw381_5)).trans hw381_5), ((HB.out.cell (World.block_lt_of_cell? w _ hw381_6)).trans hw381_6), ((HB.out.cell (World.block_lt_of_cell? w _ hw381_7)).trans hw381_7), ((HB.out.cell (World.block_lt_of_cell? w _ hw381_8)).trans hw381_8), ((HB.out.cell (World.block_lt_of_cell? w _ hw381_9)).trans hw381_9), ((HB.out.cell (World.block_lt_of_cell? w _ hw381_10)).trans hw381_10), ((HB.out.cell (World.block_lt_of_cell? w _ hw381_11)).trans hw381_11), ((HB.out.cell (World.block_lt_of_cell? w _ hw381_12)).trans hw381_12), ((HB.out.cell (World.block_lt_of_cell? w _ hw381_13)).trans hw381_13), ((HB.out.cell (World.block_lt_of_cell? w _ hw381_14)).trans hw381_14), ((HB.out.cell (World.block_lt_of_cell? w _ hw381_15)).trans hw381_15)⟩ (fun hHeld => ?_)
                clear hK K
                refine norm_ (a' := ?_) ?_ ?_
                rotate_left
                · show Act.put _ (some 22) _ = _
                  simp only [Act.put, List.setIfInBounds_toArray, List.set_cons_zero, List.set_cons_succ, i64_w, i32_w]
                  rfl
                refine pure_ (i := 6) (N := some 16) (v := ?_) (a' := ?_) #[true, true, true, true, true, true, true, false, false, false, true, false, false, false] rfl rfl (any_of HT_.out (by kernel_rfl)) (fun _ _ _ h => h) (Or.inl ⟨by rfl, ?_⟩) ?_ ?_
                rotate_left
                · intro w'
                  go_simp
                  with_reducible rfl
                rotate_left
                · simp only [Act.put, List.setIfInBounds_toArray, List.set_cons_zero, List.set_cons_succ, i64_w, i32_w]
                  rfl
                refine pure_ (i := 7) (N := some 23) (v := ?_) (a' := ?_) #[true, true, true, true, true, true, true, true, false, false, true, false, false, false] rfl rfl (any_of HT_.out (by kernel_rfl)) (fun _ _ _ h => h) (Or.inl ⟨by rfl, ?_⟩) ?_ ?_
                rotate_left
                · intro w'
                  go_simp
                  with_reducible rfl
                rotate_left
                · simp only [Act.put, List.setIfInBounds_toArray, List.set_cons_zero, List.set_cons_succ, i64_w, i32_w]
                  rfl
                refine pure_ (i := 8) (N := some 24) (v := ?_) (a' := ?_) #[true, true, true, true, true, true, true, true, true, false, true, false, false, false] rfl rfl (any_of HT_.out (by kernel_rfl)) (fun _ _ _ h => h) (Or.inl ⟨by rfl, ?_⟩) ?_ ?_
                rotate_left
                · intro w'
                  go_simp
                  with_reducible rfl
                rotate_left
                · simp only [Act.put, List.setIfInBounds_toArray, List.set_cons_zero, List.set_cons_succ, i64_w, i32_w]
                  rfl
                refine pure_ (i := 9) (N := some 25) (v := ?_) (a' := ?_) #[true, true, true, true, true, true, true, true, true, true, true, false, false, false] rfl rfl (any_of HT_.out (by kernel_rfl)) (fun _ _ _ h => h) (Or.inl ⟨by rfl, ?_⟩) ?_ ?_
                rotate_left
                · intro w'
                  go_simp
                  with_reducible rfl
                rotate_left
                · simp only [Act.put, List.setIfInBounds_toArray, List.set_cons_zero, List.set_cons_succ, i64_w, i32_w]
                  rfl
                exact norm_ (by simp only [putAll, Act.put, List.setIfInBounds_toArray, List.set_cons_zero, List.set_cons_succ]) (hCont (gb386) _ ⟨hHeld, (by (with_reducible repeat (first | apply Kd.R_alloc | apply Kd.R_drewN | apply Kd.R_drew)); exact HO_5.out), (by (with_reducible repeat (first | refine blk_drewN ?_ _ | refine blk_drew ?_ | refine blk_alloc ?_ _)); exact BK379.out), (by (with_reducible repeat (first | refine blk_drewN ?_ _ | refine blk_drew ?_ | refine blk_alloc ?_ _)); exact BK380.out), (by (with_reducible repeat (first | refine blk_drewN ?_ _ | refine blk_drew ?_ | refine blk_alloc ?_ _)); exact BK386.out), GW386.out, GE386.out, NB379_386.out, NB386_379.out, NB380_386.out, NB386_380.out, (by repeat (first | (with_reducible first | exact HB.out | apply below_alloc | apply pw_below_drewN | apply below_drew1 | refine below_set ?_ GE379.out | refine below_set ?_ GE380.out | refine below_set ?_ GE386.out) | exact HB.out))⟩)
            rintro gb386 w24 ⟨hS_, h0_, h1_, h2_, h3_, h4_, h5_, h6_, h7_, h8_, h9_, h10_⟩
            have n0_ : Aside0 (Kd.R (Kd.int .i64) 3 w24 w.heap.size (fun _ => True) u5 x5_1) := ⟨h0_⟩
            have n1_ : Aside0 (w24.heap[gb379]? = some (.cells #[.bool false, .int .i64 0] 31 (0, 0))) := ⟨h1_⟩
            have n2_ : Aside0 (w24.heap[gb380]? = some (.cells #[.bool x381000_1, .int .i64 x381001_1] 31 (0, 0))) := ⟨h2_⟩
            have n3_ : Aside0 (w24.heap[gb386]? = some (.cells #[.bool false, .int .i64 0] 31 (0, 0))) := ⟨h3_⟩
            have n4_ : Aside0 (w.heap.size ≤ gb386) := ⟨h4_⟩
            have n5_ : Aside0 (w.heap.size ≤ gb386) := ⟨h5_⟩
            have n6_ : Aside0 (gb379 ≠ gb386) := ⟨h6_⟩
            have n7_ : Aside0 (gb386 ≠ gb379) := ⟨h7_⟩
            have n8_ : Aside0 (gb380 ≠ gb386) := ⟨h8_⟩
            have n9_ : Aside0 (gb386 ≠ gb380) := ⟨h9_⟩
            have n10_ : Aside0 (Below w.heap.size w w24) := ⟨h10_⟩
            clear HO_5
            clear BK379
            clear BK380
            clear HB
            clear h0_ h1_ h2_ h3_ h4_ h5_ h6_ h7_ h8_ h9_ h10_
            have HO_5 := n0_
            have BK379 := n1_
            have BK380 := n2_
            have BK386 := n3_
            have GW386 := n4_
            have GE386 := n5_
            have NB379_386 := n6_
            have NB386_379 := n7_
            have NB380_386 := n8_
            have NB386_380 := n9_
            have HB := n10_
            clear n0_ n1_ n2_ n3_ n4_ n5_ n6_ n7_ n8_ n9_ n10_
            have hHeld : w24.cell? ⟨gb380, 0, none⟩ = some (.bool x381000_1) ∧ w24.cell? ⟨gb380, 1, none⟩ = some (.int .i64 x381001_1) ∧ w24.cell? (ad381.add ((x6_1).toNat * 16)) = some (.int .u8 ((rd_T22 l0 x6_1).f0)) ∧ w24.cell? ⟨(ad381.add ((x6_1).toNat * 16)).block, (ad381.add ((x6_1).toNat * 16)).off + 1, none⟩ = some (.int .u8 ((rd_T22 l0 x6_1).f1)) ∧ w24.cell? ⟨(ad381.add ((x6_1).toNat * 16)).block, (ad381.add ((x6_1).toNat * 16)).off + 2, none⟩ = some (.int .u8 ((rd_T22 l0 x6_1).f2)) ∧ w24.cell? ⟨(ad381.add ((x6_1).toNat * 16)).block, (ad381.add ((x6_1).toNat * 16)).off + 3, none⟩ = some (.int .u8 ((rd_T22 l0 x6_1).f3)) ∧ w24.cell? ⟨(ad381.add ((x6_1).toNat * 16)).block, (ad381.add ((x6_1).toNat * 16)).off + 4, none⟩ = some (.int .u8 ((rd_T22 l0 x6_1).f4)) ∧ w24.cell? ⟨(ad381.add ((x6_1).toNat * 16)).block, (ad381.add ((x6_1).toNat * 16)).off + 5, none⟩ = some (.int .u8 ((rd_T22 l0 x6_1).f5)) ∧ w24.cell? ⟨(ad381.add ((x6_1).toNat * 16)).block, (ad381.add ((x6_1).toNat * 16)).off + 6, none⟩ = some (.int .u8 ((rd_T22 l0 x6_1).f6)) ∧ w24.cell? ⟨(ad381.add ((x6_1).toNat * 16)).block, (ad381.add ((x6_1).toNat * 16)).off + 7, none⟩ = some (.int .u8 ((rd_T22 l0 x6_1).f7)) ∧ w24.cell? ⟨(ad381.add ((x6_1).toNat * 16)).block, (ad381.add ((x6_1).toNat * 16)).off + 8, none⟩ = some (.int .u8 ((rd_T22 l0 x6_1).f8)) ∧ w24.cell? ⟨(ad381.add ((x6_1).toNat * 16)).block, (ad381.add ((x6_1).toNat * 16)).off + 9, none⟩ = some (.int .u8 ((rd_T22 l0 x6_1).f9)) ∧ w24.cell? ⟨(ad381.add ((x6_1).toNat * 16)).block, (ad381.add ((x6_1).toNat * 16)).off + 10, none⟩ = some (.int .u8 ((rd_T22 l0 x6_1).f10)) ∧ w24.cell? ⟨(ad381.add ((x6_1).toNat * 16)).block, (ad381.add ((x6_1).toNat * 16)).off + 11, none⟩ = some (.int .u8 ((rd_T22 l0 x6_1).f11)) ∧ w24.cell? ⟨(ad381.add ((x6_1).toNat * 16)).block, (ad381.add ((x6_1).toNat * 16)).off + 12, none⟩ = some (.int .u8 ((rd_T22 l0 x6_1).f12)) ∧ w24.cell? ⟨(ad381.add ((x6_1).toNat * 16)).block, (ad381.add ((x6_1).toNat * 16)).off + 13, none⟩ = some (.int .u8 ((rd_T22 l0 x6_1).f13)) ∧ w24.cell? ⟨(ad381.add ((x6_1).toNat * 16)).block, (ad381.add ((x6_1).toNat * 16)).off + 14, none⟩ = some (.int .u8 ((rd_T22 l0 x6_1).f14)) ∧ w24.cell? ⟨(ad381.add ((x6_1).toNat * 16)).block, (ad381.add ((x6_1).toNat * 16)).off + 15, none⟩ = some (.int .u8 ((rd_T22 l0 x6_1).f15)) := hS_
            refine norm_ (a' := ?_) ?_ ?_
            rotate_left
            · simp only [putAll, Act.put, List.setIfInBounds_toArray, List.set_cons_zero, List.set_cons_succ]
              rfl
            refine one_ (i := 11) (N := none) #[true, true, true, true, true, true, true, true, true, true, true, true, false, false] rfl rfl (one_of HT_.out (by kernel_rfl)) (by decide) (fun K hK => ?_)
            have hs25 : w24.cell? ⟨gb386, 0, none⟩ = some (.bool false) := (blk_cell BK386.out 0).trans rfl
            have hfs25 := blk_frozen BK386.out 0
            have hns25_0 := NB379_386.out
            have hns25_1 := NB380_386.out
            have hms25_0 := NB386_379.out
            have hms25_1 := NB386_380.out
            have hs26 : w24.cell? ⟨gb386, 1, none⟩ = some (.int .i64 0) := (blk_cell BK386.out 1).trans rfl
            have hfs26 := blk_frozen BK386.out 1
            have hns26_0 := NB379_386.out
            have hns26_1 := NB380_386.out
            have hms26_0 := NB386_379.out
            have hms26_1 := NB386_380.out
            refine skip_ (w1 := ?_) (by rfl) rfl ?_ ?_
            rotate_left
            · go_simp
              rfl
            refine hK.out _ _ ⟨((cell_far (p := ⟨gb386, _, none⟩) NB380_386.out _).trans (((cell_far (p := ⟨gb386, _, none⟩) NB380_386.out _).trans (hHeld.1)))), ((cell_far (p := ⟨gb386, _, none⟩) NB380_386.out _).trans (((cell_far (p := ⟨gb386, _, none⟩) NB380_386.out _).trans (hHeld.2.1)))), ((cell_far (p := ⟨gb386, _, none⟩) (by first | exact Nat.ne_of_lt (Nat.lt_of_lt_of_le (by have := World.block_lt_of_cell? _ _ hw381_0; first | rwa [add_block] at this | exact this) GW386.out) | (rw [add_block]; exact Nat.ne_of_lt (Nat.lt_of_lt_of_le (by have := World.block_lt_of_cell? _ _ hw381_0; first | rwa [add_block] at this | exact this) GW386.out)) | (show (Addr.add _ _).block ≠ _; rw [add_block]; exact Nat.ne_of_lt (Nat.lt_of_lt_of_le (by have := World.block_lt_of_cell? _ _ hw381_0; first | rwa [add_block] at this | exact this) GW386.out)) | (dsimp only; exact Nat.ne_of_lt (Nat.lt_of_lt_of_le (by have := World.block_lt_of_cell? _ _ hw381_0; first | rwa [add_block] at this | exact this) GW386.out))) _).trans (((cell_far (p := ⟨gb386, _, none⟩) (by first | exact Nat.ne_of_lt (Nat.lt_of_lt_of_le (by have := World.block_lt_of_cell? _ _ hw381_0; first | rwa [add_block] at this | exact this) GW386.out) | (rw [add_block]; exact Nat.ne_of_lt (Nat.lt_of_lt_of_le (by have := World.block_lt_of_cell? _ _ hw381_0; first | rwa [add_block] at this | exact this) GW386.out)) | (show (Addr.add _ _).block ≠ _; rw [add_block]; exact Nat.ne_of_lt (Nat.lt_of_lt_of_le (by have := World.block_lt_of_cell? _ _ hw381_0; first | rwa [add_block] at this | exact this) GW386.out)) | (dsimp only; exact Nat.ne_of_lt (Nat.lt_of_lt_of_le (by have := World.block_lt_of_cell? _ _ hw381_0; first | rwa [add_block] at this | exact this) GW386.out))) _).trans (hHeld.2.2.1)))), ((cell_far (p := ⟨gb386, _, none⟩) (by first | exact Nat.ne_of_lt (Nat.lt_of_lt_of_le (by have := World.block_lt_of_cell? _ _ hw381_1; first | rwa [add_block] at this | exact this) GW386.out) | (rw [add_block]; exact Nat.ne_of_lt (Nat.lt_of_lt_of_le (by have := World.block_lt_of_cell? _ _ hw381_1; first | rwa [add_block] at this | exact this) GW386.out)) | (show (Addr.add _ _).block ≠ _; rw [add_block]; exact Nat.ne_of_lt (Nat.lt_of_lt_of_le (by have := World.block_lt_of_cell? _ _ hw381_1; first | rwa [add_block] at this | exact this) GW386.out)) | (dsimp only; exact Nat.ne_of_lt (Nat.lt_of_lt_of_le (by have := World.block_lt_of_cell? _ _ hw381_1; first | rwa [add_block] at this | exact this) GW386.out))) _).trans (((cell_far (p := ⟨gb386, _, none⟩) (by first | exact Nat.ne_of_lt (Nat.lt_of_lt_of_le (by have := World.block_lt_of_cell? _ _ hw381_1; first | rwa [add_block] at this | exact this) GW386.out) | (rw [add_block]; exact Nat.ne_of_lt (Nat.lt_of_lt_of_le (by have := World.block_lt_of_cell? _ _ hw381_1; first | rwa [add_block] at this | exact this) GW386.out)) | (show (Addr.add _ _).block ≠ _; rw [add_block]; exact Nat.ne_of_lt (Nat.lt_of_lt_of_le (by have := World.block_lt_of_cell? _ _ hw381_1; first | rwa [add_block] at this | exact this) GW386.out)) | (dsimp only; exact Nat.ne_of_lt (Nat.lt_of_lt_of_le (by have := World.block_lt_of_cell? _ _ hw381_1; first | rwa [add_block] at this | exact this) GW386.out))) _).trans (hHeld.2.2.2.1)))), ((cell_far (p := ⟨gb386, _, none⟩) (by first | exact Nat.ne_of_lt (Nat.lt_of_lt_of_le (by have := World.block_lt_of_cell? _ _ hw381_2; first | rwa [add_block] at this | exact this) GW386.out) | (rw [add_block]; exact Nat.ne_of_lt (Nat.lt_of_lt_of_le (by have := World.block_lt_of_cell? _ _ hw381_2; first | rwa [add_block] at this | exact this) GW386.out)) | (show (Addr.add _ _).block ≠ _; rw [add_block]; exact Nat.ne_of_lt (Nat.lt_of_lt_of_le (by have := World.block_lt_of_cell? _ _ hw381_2; first | rwa [add_block] at this | exact this) GW386.out)) | (dsimp only; exact Nat.ne_of_lt (Nat.lt_of_lt_of_le (by have := World.block_lt_of_cell? _ _ hw381_2; first | rwa [add_block] at this | exact this) GW386.out))) _).trans (((cell_far (p := ⟨gb386, _, none⟩) (by first | exact Nat.ne_of_lt (Nat.lt_of_lt_of_le (by have := World.block_lt_of_cell? _ _ hw381_2; first | rwa [add_block] at this | exact this) GW386.out) | (rw [add_block]; exact Nat.ne_of_lt (Nat.lt_of_lt_of_le (by have := World.block_lt_of_cell? _ _ hw381_2; first | rwa [add_block] at this | exact this) GW386.out)) | (show (Addr.add _ _).block ≠ _; rw [add_block]; exact Nat.ne_of_lt (Nat.lt_of_lt_of_le (by have := World.block_lt_of_cell? _ _ hw381_2; first | rwa [add_block] at this | exact this) GW386.out)) | (dsimp only; exact Nat.ne_of_lt (Nat.lt_of_lt_of_le (by have := World.block_lt_of_cell? _ _ hw381_2; first | rwa [add_block] at this | exact this) GW386.out))) _).trans (hHeld.2.2.2.2.1)))), ((cell_far (p := ⟨gb386, _, none⟩) (by first | exact Nat.ne_of_lt (Nat.lt_of_lt_of_le (by have := World.block_lt_of_cell? _ _ hw381_3; first | rwa [add_block] at this | exact this) GW386.out) | (rw [add_block]; exact Nat.ne_of_lt (Nat.lt_of_lt_of_le (by have := World.block_lt_of_cell? _ _ hw381_3; first | rwa [add_block] at this | exact this) GW386.out)) | (show (Addr.add _ _).block ≠ _; rw [add_block]; exact Nat.ne_of_lt (Nat.lt_of_lt_of_le (by have := World.block_lt_of_cell? _ _ hw381_3; first | rwa [add_block] at this | exact this) GW386.out)) | (dsimp only; exact Nat.ne_of_lt (Nat.lt_of_lt_of_le (by have := World.block_lt_of_cell? _ _ hw381_3; first | rwa [add_block] at this | exact this) GW386.out))) _).trans (((cell_far (p := ⟨gb386, _, none⟩) (by first | exact Nat.ne_of_lt (Nat.lt_of_lt_of_le (by have := World.block_lt_of_cell? _ _ hw381_3; first | rwa [add_block] at this | exact this) GW386.out) | (rw [add_block]; exact Nat.ne_of_lt (Nat.lt_of_lt_of_le (by have := World.block_lt_of_cell? _ _ hw381_3; first | rwa [add_block] at this | exact this) GW386.out)) | (show (Addr.add _ _).block ≠ _; rw [add_block]; exact Nat.ne_of_lt (Nat.lt_of_lt_of_le (by have := World.block_lt_of_cell? _ _ hw381_3; first | rwa [add_block] at this | exact this) GW386.out)) | (dsimp only; exact Nat.ne_of_lt (Nat.lt_of_lt_of_le (by have := World.block_lt_of_cell? _ _ hw381_3; first | rwa [add_block] at this | exact this) GW386.out))) _).trans (hHeld.2.2.2.2.2.1)))), ((cell_far (p := ⟨gb386, _, none⟩) (by first | exact Nat.ne_of_lt (Nat.lt_of_lt_of_le (by have := World.block_lt_of_cell? _ _ hw381_4; first | rwa [add_block] at this | exact this) GW386.out) | (rw [add_block]; exact Nat.ne_of_lt (Nat.lt_of_lt_of_le (by have := World.block_lt_of_cell? _ _ hw381_4; first | rwa [add_block] at this | exact this) GW386.out)) | (show (Addr.add _ _).block ≠ _; rw [add_block]; exact Nat.ne_of_lt (Nat.lt_of_lt_of_le (by have := World.block_lt_of_cell? _ _ hw381_4; first | rwa [add_block] at this | exact this) GW386.out)) | (dsimp only; exact Nat.ne_of_lt (Nat.lt_of_lt_of_le (by have := World.block_lt_of_cell? _ _ hw381_4; first | rwa [add_block] at this | exact this) GW386.out))) _).trans (((cell_far (p := ⟨gb386, _, none⟩) (by first | exact Nat.ne_of_lt (Nat.lt_of_lt_of_le (by have := World.block_lt_of_cell? _ _ hw381_4; first | rwa [add_block] at this | exact this) GW386.out) | (rw [add_block]; exact Nat.ne_of_lt (Nat.lt_of_lt_of_le (by have := World.block_lt_of_cell? _ _ hw381_4; first | rwa [add_block] at this | exact this) GW386.out)) | (show (Addr.add _ _).block ≠ _; rw [add_block]; exact Nat.ne_of_lt (Nat.lt_of_lt_of_le (by have := World.block_lt_of_cell? _ _ hw381_4; first | rwa [add_block] at this | exact this) GW386.out)) | (dsimp only; exact Nat.ne_of_lt (Nat.lt_of_lt_of_le (by have := World.block_lt_of_cell? _ _ hw381_4; first | rwa [add_block] at this | exact this) GW386.out))) _).trans (hHeld.2.2.2.2.2.2.1)))), ((cell_far (p := ⟨gb386, _, none⟩) (by first | exact Nat.ne_of_lt (Nat.lt_of_lt_of_le (by have := World.block_lt_of_cell? _ _ hw381_5; first | rwa [add_block] at this | exact this) GW386.out) | (rw [add_block]; exact Nat.ne_of_lt (Nat.lt_of_lt_of_le (by have := World.block_lt_of_cell? _ _ hw381_5; first | rwa [add_block] at this | exact this) GW386.out)) | (show (Addr.add _ _).block ≠ _; rw [add_block]; exact Nat.ne_of_lt (Nat.lt_of_lt_of_le (by have := World.block_lt_of_cell? _ _ hw381_5; first | rwa [add_block] at this | exact this) GW386.out)) | (dsimp only; exact Nat.ne_of_lt (Nat.lt_of_lt_of_le (by have := World.block_lt_of_cell? _ _ hw381_5; first | rwa [add_block] at this | exact this) GW386.out))) _).trans (((cell_far (p := ⟨gb386, _, none⟩) (by first | exact Nat.ne_of_lt (Nat.lt_of_lt_of_le (by have := World.block_lt_of_cell? _ _ hw381_5; first | rwa [add_block] at this | exact this) GW386.out) | (rw [add_block]; exact Nat.ne_of_lt (Nat.lt_of_lt_of_le (by have := World.block_lt_of_cell? _ _ hw381_5; first | rwa [add_block] at this | exact this) GW386.out)) | (show (Addr.add _ _).block ≠ _; rw [add_block]; exact Nat.ne_of_lt (Nat.lt_of_lt_of_le (by have := World.block_lt_of_cell? _ _ hw381_5; first | rwa [add_block] at this | exact this) GW386.out)) | (dsimp only; exact Nat.ne_of_lt (Nat.lt_of_lt_of_le (by have := World.block_lt_of_cell? _ _ hw381_5; first | rwa [add_block] at this | exact this) GW386.out))) _).trans (hHeld.2.2.2.2.2.2.2.1)))), ((cell_far (p := ⟨gb386, _, none⟩) (by first | exact Nat.ne_of_lt (Nat.lt_of_lt_of_le (by have := World.block_lt_of_cell? _ _ hw381_6; first | rwa [add_block] at this | exact this) GW386.out) | (rw [add_block]; exact Nat.ne_of_lt (Nat.lt_of_lt_of_le (by have := World.block_lt_of_cell? _ _ hw381_6; first | rwa [add_block] at this | exact this) GW386.out)) | (show (Addr.add _ _).block ≠ _; rw [add_block]; exact Nat.ne_of_lt (Nat.lt_of_lt_of_le (by have := World.block_lt_of_cell? _ _ hw381_6; first | rwa [add_block] at this | exact this) GW386.out)) | (dsimp only; exact Nat.ne_of_lt (Nat.lt_of_lt_of_le (by have := World.block_lt_of_cell? _ _ hw381_6; first | rwa [add_block] at this | exact this) GW386.out))) _).trans (((cell_far (p := ⟨gb386, _, none⟩) (by first | exact Nat.ne_of_lt (Nat.lt_of_lt_of_le (by have := World.block_lt_of_cell? _ _ hw381_6; first | rwa [add_block] at this | exact this) GW386.out) | (rw [add_block]; exact Nat.ne_of_lt (Nat.lt_of_lt_of_le (by have := World.block_lt_of_cell? _ _ hw381_6; first | rwa [add_block] at this | exact this) GW386.out)) | (show (Addr.add _ _).block ≠ _; rw [add_block]; exact Nat.ne_of_lt (Nat.lt_of_lt_of_le (by have := World.block_lt_of_cell? _ _ hw381_6; first | rwa [add_block] at this | exact this) GW386.out)) | (dsimp only; exact Nat.ne_of_lt (Nat.lt_of_lt_of_le (by have := World.block_lt_of_cell? _ _ hw381_6; first | rwa [add_block] at this | exact this) GW386.out))) _).trans (hHeld.2.2.2.2.2.2.2.2.1)))), ((cell_far (p := ⟨gb386, _, none⟩) (by first | exact Nat.ne_of_lt (Nat.lt_of_lt_of_le (by have := World.block_lt_of_cell? _ _ hw381_7; first | rwa [add_block] at this | exact this) GW386.out) | (rw [add_block]; exact Nat.ne_of_lt (Nat.lt_of_lt_of_le (by have := World.block_lt_of_cell? _ _ hw381_7; first | rwa [add_block] at this | exact this) GW386.out)) | (show (Addr.add _ _).block ≠ _; rw [add_block]; exact Nat.ne_of_lt (Nat.lt_of_lt_of_le (by have := World.block_lt_of_cell? _ _ hw381_7; first | rwa [add_block] at this | exact this) GW386.out)) | (dsimp only; exact Nat.ne_of_lt (Nat.lt_of_lt_of_le (by have := World.block_lt_of_cell? _ _ hw381_7; first | rwa [add_block] at this | exact this) GW386.out))) _).trans (((cell_far (p := ⟨gb386, _, none⟩) (by first | exact Nat.ne_of_lt (Nat.lt_of_lt_of_le (by have := World.block_lt_of_cell? _ _ hw381_7; first | rwa [add_block] at this | exact this) GW386.out) | (rw [add_block]; exact Nat.ne_of_lt (Nat.lt_of_lt_of_le (by have := World.block_lt_of_cell? _ _ hw381_7; first | rwa [add_block] at this | exact this) GW386.out)) | (show (Addr.add _ _).block ≠ _; rw [add_block]; exact Nat.ne_of_lt (Nat.lt_of_lt_of_le (by have := World.block_lt_of_cell? _ _ hw381_7; first | rwa [add_block] at this | exact this) GW386.out)) | (dsimp only; exact Nat.ne_of_lt (Nat.lt_of_lt_of_le (by have := World.block_lt_of_cell? _ _ hw381_7; first | rwa [add_block] at this | exact this) GW386.out))) _).trans (hHeld.2.2.2.2.2.2.2.2.2.1)))), ((cell_far (p := ⟨gb386, _, none⟩) (by first | exact Nat.ne_of_lt (Nat.lt_of_lt_of_le (by have := World.block_lt_of_cell? _ _ hw381_8; first | rwa [add_block] at this | exact this) GW386.out) | (rw [add_block]; exact Nat.ne_of_lt (Nat.lt_of_lt_of_le (by have := World.block_lt_of_cell? _ _ hw381_8; first | rwa [add_block] at this | exact this) GW386.out)) | (show (Addr.add _ _).block ≠ _; rw [add_block]; exact Nat.ne_of_lt (Nat.lt_of_lt_of_le (by have := World.block_lt_of_cell? _ _ hw381_8; first | rwa [add_block] at this | exact this) GW386.out)) | (dsimp only; exact Nat.ne_of_lt (Nat.lt_of_lt_of_le (by have := World.block_lt_of_cell? _ _ hw381_8; first | rwa [add_block] at this | exact this) GW386.out))) _).trans (((cell_far (p := ⟨gb386, _, none⟩) (by first | exact Nat.ne_of_lt (Nat.lt_of_lt_of_le (by have := World.block_lt_of_cell? _ _ hw381_8; first | rwa [add_block] at this | exact this) GW386.out) | (rw [add_block]; exact Nat.ne_of_lt (Nat.lt_of_lt_of_le (by have := World.block_lt_of_cell? _ _ hw381_8; first | rwa [add_block] at this | exact this) GW386.out)) | (show (Addr.add _ _).block ≠ _; rw [add_block]; exact Nat.ne_of_lt (Nat.lt_of_lt_of_le (by have := World.block_lt_of_cell? _ _ hw381_8; first | rwa [add_block] at this | exact this) GW386.out)) | (dsimp only; exact Nat.ne_of_lt (Nat.lt_of_lt_of_le (by have := World.block_lt_of_cell? _ _ hw381_8; first | rwa [add_block] at this | exact this) GW386.out))) _).trans (hHeld.2.2.2.2.2.2.2.2.2.2.1)))), ((cell_far (p := ⟨gb386, _, none⟩) (by first | exact Nat.ne_of_lt (Nat.lt_of_lt_of_le (by have := World.block_lt_of_cell? _ _ hw381_9; first | rwa [add_block] at this | exact this) GW386.out) | (rw [add_block]; exact Nat.ne_of_lt (Nat.lt_of_lt_of_le (by have := World.block_lt_of_cell? _ _ hw381_9; first | rwa [add_block] at this | exact this) GW386.out)) | (show (Addr.add _ _).block ≠ _; rw [add_block]; exact Nat.ne_of_lt (Nat.lt_of_lt_of_le (by have := World.block_lt_of_cell? _ _ hw381_9; first | rwa [add_block] at this | exact this) GW386.out)) | (dsimp only; exact Nat.ne_of_lt (Nat.lt_of_lt_of_le (by have := World.block_lt_of_cell? _ _ hw381_9; first | rwa [add_block] at this | exact this) GW386.out))) _).trans (((cell_far (p := ⟨gb386, _, none⟩) (by first | exact Nat.ne_of_lt (Nat.lt_of_lt_of_le (by have := World.block_lt_of_cell? _ _ hw381_9; first | rwa [add_block] at this | exact this) GW386.out) | (rw [add_block]; exact Nat.ne_of_lt (Nat.lt_of_lt_of_le (by have := World.block_lt_of_cell? _ _ hw381_9; first | rwa [add_block] at this | exact this) GW386.out)) | (show (Addr.add _ _).block ≠ _; rw [add_block]; exact Nat.ne_of_lt (Nat.lt_of_lt_of_le (by have := World.block_lt_of_cell? _ _ hw381_9; first | rwa [add_block] at this | exact this) GW386.out)) | (dsimp only; exact Nat.ne_of_lt (Nat.lt_of_lt_of_le (by have := World.block_lt_of_cell? _ _ hw381_9; first | rwa [add_block] at this | exact this) GW386.out))) _).trans (hHeld.2.2.2.2.2.2.2.2.2.2.2.1)))), ((cell_far (p := ⟨gb386, _, none⟩) (by first | exact Nat.ne_of_lt (Nat.lt_of_lt_of_le (by have := World.block_lt_of_cell? _ _ hw381_10; first | rwa [add_block] at this | exact this) GW386.out) | (rw [add_block]; exact Nat.ne_of_lt (Nat.lt_of_lt_of_le (by have := World.block_lt_of_cell? _ _ hw381_10; first | rwa [add_block] at this | exact this) GW386.out)) | (show (Addr.add _ _).block ≠ _; rw [add_block]; exact Nat.ne_of_lt (Nat.lt_of_lt_of_le (by have := World.block_lt_of_cell? _ _ hw381_10; first | rwa [add_block] at this | exact this) GW386.out)) | (dsimp only; exact Nat.ne_of_lt (Nat.lt_of_lt_of_le (by have := World.block_lt_of_cell? _ _ hw381_10; first | rwa [add_block] at this | exact this) GW386.out))) _).trans (((cell_far (p := ⟨gb386, _, none⟩) (by first | exact Nat.ne_of_lt (Nat.lt_of_lt_of_le (by have := World.block_lt_of_cell? _ _ hw381_10; first | rwa [add_block] at this | exact this) GW386.out) | (rw [add_block]; exact Nat.ne_of_lt (Nat.lt_of_lt_of_le (by have := World.block_lt_of_cell? _ _ hw381_10; first | rwa [add_block] at this | exact this) GW386.out)) | (show (Addr.add _ _).block ≠ _; rw [add_block]; exact Nat.ne_of_lt (Nat.lt_of_lt_of_le (by have := World.block_lt_of_cell? _ _ hw381_10; first | rwa [add_block] at this | exact this) GW386.out)) | (dsimp only; exact Nat.ne_of_lt (Nat.lt_of_lt_of_le (by have := World.block_lt_of_cell? _ _ hw381_10; first | rwa [add_block] at this | exact this) GW386.out))) _).trans (hHeld.2.2.2.2.2.2.2.2.2.2.2.2.1)))), ((cell_far (p := ⟨gb386, _, none⟩) (by first | exact Nat.ne_of_lt (Nat.lt_of_lt_of_le (by have := World.block_lt_of_cell? _ _ hw381_11; first | rwa [add_block] at this | exact this) GW386.out) | (rw [add_block]; exact Nat.ne_of_lt (Nat.lt_of_lt_of_le (by have := World.block_lt_of_cell? _ _ hw381_11; first | rwa [add_block] at this | exact this) GW386.out)) | (show (Addr.add _ _).block ≠ _; rw [add_block]; exact Nat.ne_of_lt (Nat.lt_of_lt_of_le (by have := World.block_lt_of_cell? _ _ hw381_11; first | rwa [add_block] at this | exact this) GW386.out)) | (dsimp only; exact Nat.ne_of_lt (Nat.lt_of_lt_of_le (by have := World.block_lt_of_cell? _ _ hw381_11; first | rwa [add_block] at this | exact this) GW386.out))) _).trans (((cell_far (p := ⟨gb386, _, none⟩) (by first | exact Nat.ne_of_lt (Nat.lt_of_lt_of_le (by have := World.block_lt_of_cell? _ _ hw381_11; first | rwa [add_block] at this | exact this) GW386.out) | (rw [add_block]; exact Nat.ne_of_lt (Nat.lt_of_lt_of_le (by have := World.block_lt_of_cell? _ _ hw381_11; first | rwa [add_block] at this | exact this) GW386.out)) | (show (Addr.add _ _).block ≠ _; rw [add_block]; exact Nat.ne_of_lt (Nat.lt_of_lt_of_le (by have := World.block_lt_of_cell? _ _ hw381_11; first | rwa [add_block] at this | exact this) GW386.out)) | (dsimp only; exact Nat.ne_of_lt (Nat.lt_of_lt_of_le (by have := World.block_lt_of_cell? _ _ hw381_11; first | rwa [add_block] at this | exact this) GW386.out))) _).trans (hHeld.2.2.2.2.2.2.2.2.2.2.2.2.2.1)))), ((cell_far (p := ⟨gb386, _, none⟩) (by first | exact Nat.ne_of_lt (Nat.lt_of_lt_of_le (by have := World.block_lt_of_cell? _ _ hw381_12; first | rwa [add_block] at this | exact this) GW386.out) | (rw [add_block]; exact Nat.ne_of_lt (Nat.lt_of_lt_of_le (by have := World.block_lt_of_cell? _ _ hw381_12; first | rwa [add_block] at this | exact this) GW386.out)) | (show (Addr.add _ _).block ≠ _; rw [add_block]; exact Nat.ne_of_lt (Nat.lt_of_lt_of_le (by have := World.block_lt_of_cell? _ _ hw381_12; first | rwa [add_block] at this | exact this) GW386.out)) | (dsimp only; exact Nat.ne_of_lt (Nat.lt_of_lt_of_le (by have := World.block_lt_of_cell? _ _ hw381_12; first | rwa [add_block] at this | exact this) GW386.out))) _).trans (((cell_far (p := ⟨gb386, _, none⟩) (by first | exact Nat.ne_of_lt (Nat.lt_of_lt_of_le (by have := World.block_lt_of_cell? _ _ hw381_12; first | rwa [add_block] at this | exact this) GW386.out) | (rw [add_block]; exact Nat.ne_of_lt (Nat.lt_of_lt_of_le (by have := World.block_lt_of_cell? _ _ hw381_12; first | rwa [add_block] at this | exact this) GW386.out)) | (show (Addr.add _ _).block ≠ _; rw [add_block]; exact Nat.ne_of_lt (Nat.lt_of_lt_of_le (by have := World.block_lt_of_cell? _ _ hw381_12; first | rwa [add_block] at this | exact this) GW386.out)) | (dsimp only; exact Nat.ne_of_lt (Nat.lt_of_lt_of_le (by have := World.block_lt_of_cell? _ _ hw381_12; first | rwa [add_block] at this | exact this) GW386.out))) _).trans (hHeld.2.2.2.2.2.2.2.2.2.2.2.2.2.2.1)))), ((cell_far (p := ⟨gb386, _, none⟩) (by first | exact Nat.ne_of_lt (Nat.lt_of_lt_of_le (by have := World.block_lt_of_cell? _ _ hw381_13; first | rwa [add_block] at this | exact this) GW386.out) | (rw [add_block]; exact Nat.ne_of_lt (Nat.lt_of_lt_of_le (by have := World.block_lt_of_cell? _ _ hw381_13; first | rwa [add_block] at this | exact this) GW386.out)) | (show (Addr.add _ _).block ≠ _; rw [add_block]; exact Nat.ne_of_lt (Nat.lt_of_lt_of_le (by have := World.block_lt_of_cell? _ _ hw381_13; first | rwa [add_block] at this | exact this) GW386.out)) | (dsimp only; exact Nat.ne_of_lt (Nat.lt_of_lt_of_le (by have := World.block_lt_of_cell? _ _ hw381_13; first | rwa [add_block] at this | exact this) GW386.out))) _).trans (((cell_far (p := ⟨gb386, _, none⟩) (by first | exact Nat.ne_of_lt (Nat.lt_of_lt_of_le (by have := World.block_lt_of_cell? _ _ hw381_13; first | rwa [add_block] at this | exact this) GW386.out) | (rw [add_block]; exact Nat.ne_of_lt (Nat.lt_of_lt_of_le (by have := World.block_lt_of_cell? _ _ hw381_13; first | rwa [add_block] at this | exact this) GW386.out)) | (show (Addr.add _ _).block ≠ _; rw [add_block]; exact Nat.ne_of_lt (Nat.lt_of_lt_of_le (by have := World.block_lt_of_cell? _ _ hw381_13; first | rwa [add_block] at this | exact this) GW386.out)) | (dsimp only; exact Nat.ne_of_lt (Nat.lt_of_lt_of_le (by have := World.block_lt_of_cell? _ _ hw381_13; first | rwa [add_block] at this | exact this) GW386.out))) _).trans (hHeld.2.2.2.2.2.2.2.2.2.2.2.2.2.2.2.1)))), ((cell_far (p := ⟨gb386, _, none⟩) (by first | exact Nat.ne_of_lt (Nat.lt_of_lt_of_le (by have := World.block_lt_of_cell? _ _ hw381_14; first | rwa [add_block] at this | exact this) GW386.out) | (rw [add_block]; exact Nat.ne_of_lt (Nat.lt_of_lt_of_le (by have := World.block_lt_of_cell? _ _ hw381_14; first | rwa [add_block] at this | exact this) GW386.out)) | (show (Addr.add _ _).block ≠ _; rw [add_block]; exact Nat.ne_of_lt (Nat.lt_of_lt_of_le (by have := World.block_lt_of_cell? _ _ hw381_14; first | rwa [add_block] at this | exact this) GW386.out)) | (dsimp only; exact Nat.ne_of_lt (Nat.lt_of_lt_of_le (by have := World.block_lt_of_cell? _ _ hw381_14; first | rwa [add_block] at this | exact this) GW386.out))) _).trans (((cell_far (p := ⟨gb386, _, none⟩) (by first | exact Nat.ne_of_lt (Nat.lt_of_lt_of_le (by have := World.block_lt_of_cell? _ _ hw381_14; first | rwa [add_block] at this | exact this) GW386.out) | (rw [add_block]; exact Nat.ne_of_lt (Nat.lt_of_lt_of_le (by have := World.block_lt_of_cell? _ _ hw381_14; first | rwa [add_block] at this | exact this) GW386.out)) | (show (Addr.add _ _).block ≠ _; rw [add_block]; exact Nat.ne_of_lt (Nat.lt_of_lt_of_le (by have := World.block_lt_of_cell? _ _ hw381_14; first | rwa [add_block] at this | exact this) GW386.out)) | (dsimp only; exact Nat.ne_of_lt (Nat.lt_of_lt_of_le (by have := World.block_lt_of_cell? _ _ hw381_14; first | rwa [add_block] at this | exact this) GW386.out))) _).trans (hHeld.2.2.2.2.2.2.2.2.2.2.2.2.2.2.2.2.1)))), ((cell_far (p := ⟨gb386, _, none⟩) (by first | exact Nat.ne_of_lt (Nat.lt_of_lt_of_le (by have := World.block_lt_of_cell? _ _ hw381_15; first | rwa [add_block] at this | exact this) GW386.out) | (rw [add_block]; exact Nat.ne_of_lt (Nat.lt_of_lt_of_le (by have := World.block_lt_of_cell? _ _ hw381_15; first | rwa [add_block] at this | exact this) GW386.out)) | (show (Addr.add _ _).block ≠ _; rw [add_block]; exact Nat.ne_of_lt (Nat.lt_of_lt_of_le (by have := World.block_lt_of_cell? _ _ hw381_15; first | rwa [add_block] at this | exact this) GW386.out)) | (dsimp only; exact Nat.ne_of_lt (Nat.lt_of_lt_of_le (by have := World.block_lt_of_cell? _ _ hw381_15; first | rwa [add_block] at this | exact this) GW386.out))) _).trans (((cell_far (p := ⟨gb386, _, none⟩) (by first | exact Nat.ne_of_lt (Nat.lt_of_lt_of_le (by have := World.block_lt_of_cell? _ _ hw381_15; first | rwa [add_block] at this | exact this) GW386.out) | (rw [add_block]; exact Nat.ne_of_lt (Nat.lt_of_lt_of_le (by have := World.block_lt_of_cell? _ _ hw381_15; first | rwa [add_block] at this | exact this) GW386.out)) | (show (Addr.add _ _).block ≠ _; rw [add_block]; exact Nat.ne_of_lt (Nat.lt_of_lt_of_le (by have := World.block_lt_of_cell? _ _ hw381_15; first | rwa [add_block] at this | exact this) GW386.out)) | (dsimp only; exact Nat.ne_of_lt (Nat.lt_of_lt_of_le (by have := World.block_lt_of_cell? _ _ hw381_15; first | rwa [add_block] at this | exact this) GW386.out))) _).trans (hHeld.2.2.2.2.2.2.2.2.2.2.2.2.2.2.2.2.2))))⟩ (fun hHeld => ?_)
            clear hK K
            refine pure_ (i := 12) (N := some 8) (v := ?_) (a' := ?_) #[true, true, true, true, true, true, true, true, true, true, true, true, true, false] rfl rfl (any_of HT_.out (by kernel_rfl)) (fun _ _ _ h => h) (Or.inl ⟨by rfl, ?_⟩) ?_ ?_
            rotate_left
            · intro w'
              go_simp
              with_reducible rfl
            rotate_left
            · simp only [Act.put, List.setIfInBounds_toArray, List.set_cons_zero, List.set_cons_succ, i64_w, i32_w]
              rfl
            refine pure_ (i := 13) (N := some 9) (v := ?_) (a' := ?_) #[true, true, true, true, true, true, true, true, true, true, true, true, true, true] rfl rfl (any_of HT_.out (by kernel_rfl)) (fun _ _ _ h => h) (Or.inl ⟨by rfl, ?_⟩) ?_ ?_
            rotate_left
            · intro w'
              go_simp
              with_reducible rfl
            rotate_left
            · simp only [Act.put, List.setIfInBounds_toArray, List.set_cons_zero, List.set_cons_succ, i64_w, i32_w]
              rfl
            refine done_ (done_of HT_.out (by kernel_rfl)) ?_
            have hnb27 := NB386_379.out
            have hnc27 := NB379_386.out
            have hnb28 := NB386_380.out
            have hnc28 := NB380_386.out
            have hcz29_0 : w24.cell? ⟨gb386, 0, none⟩ = some (.bool false) := (blk_cell BK386.out 0).trans rfl
            have hcz29_1 : w24.cell? ⟨gb386, 1, none⟩ = some (.int .i64 0) := (blk_cell BK386.out 1).trans rfl
            have hfz29_0 := blk_frozen BK386.out 0
            have hfz29_1 := blk_frozen BK386.out 1
            have hnb30 := NB380_379.out
            have hnc30 := NB379_380.out
            have hcz31_0 : w24.cell? ⟨gb380, 0, none⟩ = some (.bool x381000_1) := (blk_cell BK380.out 0).trans rfl
            have hcz31_1 : w24.cell? ⟨gb380, 1, none⟩ = some (.int .i64 x381001_1) := (blk_cell BK380.out 1).trans rfl
            have hfz31_0 := blk_frozen BK380.out 0
            have hfz31_1 := blk_frozen BK380.out 1
            try go_wp2
            go_roundg k1
            case measure => have := HK1.out; omega
            case rel => exact ⟨(x5_1), (wrap64 (x6_1 + 1)), (t382), (t383), (by first | rfl | (simp; done) | (simp [*]; done)), H', ⟨by have := HK1.out; omega⟩, ⟨by (with_reducible repeat (first | apply Kd.R_alloc | apply Kd.R_drewN | apply Kd.R_drew)); exact Kd.R_mono (Kd.R_far (p := ⟨gb380, 1, none⟩) (Kd.R_far (p := ⟨gb380, 0, none⟩) (Kd.R_far (p := ⟨gb386, 1, none⟩) (Kd.R_far (p := ⟨gb386, 0, none⟩) (Kd.R_types (Kd.R_types HO_5.out BK386.out (by decide)) BK380.out (by decide)) (fun _ hk => hk.1.2) (.bool t382)) (fun _ hk => hk.1.2) (.int .i64 t383)) (fun _ hk => hk.2) (.bool t382)) (fun _ hk => hk.2) (.int .i64 t383)) (fun _ hk => trivial)⟩, ⟨by (with_reducible repeat (first | refine blk_drewN ?_ _ | refine blk_drew ?_ | refine blk_alloc ?_ _)); refine blk_far ?_ NB379_380.out _; (with_reducible repeat (first | refine blk_drewN ?_ _ | refine blk_drew ?_ | refine blk_alloc ?_ _)); refine blk_far ?_ NB379_380.out _; (with_reducible repeat (first | refine blk_drewN ?_ _ | refine blk_drew ?_ | refine blk_alloc ?_ _)); refine blk_far ?_ NB379_386.out _; (with_reducible repeat (first | refine blk_drewN ?_ _ | refine blk_drew ?_ | refine blk_alloc ?_ _)); refine blk_far ?_ NB379_386.out _; (with_reducible repeat (first | refine blk_drewN ?_ _ | refine blk_drew ?_ | refine blk_alloc ?_ _)); exact BK379.out⟩, ⟨by (with_reducible repeat (first | refine blk_drewN ?_ _ | refine blk_drew ?_ | refine blk_alloc ?_ _)); refine blk_put (cs := #[.bool t382, .int .i64 x381001_1]) ?_ (1) _ rfl; (with_reducible repeat (first | refine blk_drewN ?_ _ | refine blk_drew ?_ | refine blk_alloc ?_ _)); refine blk_put (cs := #[.bool x381000_1, .int .i64 x381001_1]) ?_ (0) _ rfl; (with_reducible repeat (first | refine blk_drewN ?_ _ | refine blk_drew ?_ | refine blk_alloc ?_ _)); refine blk_far ?_ NB380_386.out _; (with_reducible repeat (first | refine blk_drewN ?_ _ | refine blk_drew ?_ | refine blk_alloc ?_ _)); refine blk_far ?_ NB380_386.out _; (with_reducible repeat (first | refine blk_drewN ?_ _ | refine blk_drew ?_ | refine blk_alloc ?_ _)); exact BK380.out⟩, ⟨by repeat (first | (with_reducible first | exact HB.out | apply below_alloc | apply pw_below_drewN | apply below_drew1 | refine below_set ?_ GE379.out | refine below_set ?_ GE380.out | refine below_set ?_ GE386.out) | exact HB.out)⟩⟩
        · rw [if_neg c5] at H
          exact absurd H (by simp)
      · rw [if_neg c4] at H
        have c4b0 : decide (x6_1 < (l0.length : Int)) = false := decide_eq_false c4
        clear c4
        simp only [Option.some.injEq, Prod.mk.injEq] at H
        obtain ⟨rfl, rfl, rfl⟩ := H
        try go_wp2
        have n0_ := Aside0.mk (Kd.R_drew HO_5.out)
        have n1_ := Aside0.mk (blk_drew BK379.out)
        have n2_ := Aside0.mk (blk_drew BK380.out)
        have n3_ := Aside0.mk (below_drew1 HB.out)
        clear HO_5
        clear BK379
        clear BK380
        clear HB
        have HO_5 := n0_
        have BK379 := n1_
        have BK380 := n2_
        have HB := n3_
        clear n0_ n1_ n2_ n3_
        refine start_ (n := 4) (S := fun w' => w'.cell? ⟨gb380, 0, none⟩ = some (.bool x381000_1) ∧ w'.cell? ⟨gb380, 1, none⟩ = some (.int .i64 x381001_1)) (ds := []) #[false, false, false, false] (by kernel_rfl) rfl rfl ⟨(blk_cell BK380.out 0).trans rfl, (blk_cell BK380.out 1).trans rfl⟩ (fun hHeld => ?_)
        generalize wr.drew = w32 at HO_5 BK379 BK380 HB hHeld ⊢
        refine pure_ (i := 0) (N := some 32) (v := ?_) (a' := ?_) #[true, false, false, false] rfl rfl (by kernel_rfl) (fun _ _ _ h => h) (Or.inl ⟨by rfl, ?_⟩) ?_ ?_
        rotate_left
        · intro w'
          go_simp
          with_reducible rfl
        rotate_left
        · simp only [Act.put, List.setIfInBounds_toArray, List.set_cons_zero, List.set_cons_succ, i64_w, i32_w]
          rfl
        refine pure_ (i := 2) (N := some 2) (v := ?_) (a' := ?_) #[true, false, true, false] rfl rfl (by kernel_rfl) (fun _ _ _ h => h) (Or.inl ⟨by rfl, ?_⟩) ?_ ?_
        rotate_left
        · intro w'
          go_simp
          with_reducible rfl
        rotate_left
        · simp only [Act.put, List.setIfInBounds_toArray, List.set_cons_zero, List.set_cons_succ, i64_w, i32_w]
          rfl
        refine take_ (i := 1) (N := some 33) (v := ?_) (a' := ?_) #[true, true, true, false] rfl rfl (by kernel_rfl) (fun _ _ _ h => h) (Or.inl ⟨by rfl, ?_⟩) hHeld ?_ ?_
        rotate_left
        · rintro w' ⟨s0, s1⟩
          go_simp
          with_reducible rfl
        rotate_left
        · simp only [Act.put, List.setIfInBounds_toArray, List.set_cons_zero, List.set_cons_succ, i64_w, i32_w]
          rfl
        refine one_ (i := 3) (N := none) #[true, true, true, true] rfl rfl (by kernel_rfl) (by decide) (fun K hK => ?_)
        have hs33 : w32.cell? ⟨gb379, 0, none⟩ = some (.bool false) := (blk_cell BK379.out 0).trans rfl
        have hfs33 := blk_frozen BK379.out 0
        have hns33_1 := NB380_379.out
        have hms33_1 := NB379_380.out
        have hs34 : w32.cell? ⟨gb379, 1, none⟩ = some (.int .i64 0) := (blk_cell BK379.out 1).trans rfl
        have hfs34 := blk_frozen BK379.out 1
        have hns34_1 := NB380_379.out
        have hms34_1 := NB379_380.out
        refine skip_ (w1 := ?_) (by rfl) rfl ?_ ?_
        rotate_left
        · go_simp
          rfl
        refine hK.out _ _ ⟨((cell_far (p := ⟨gb379, _, none⟩) NB380_379.out _).trans (((cell_far (p := ⟨gb379, _, none⟩) NB380_379.out _).trans (hHeld.1)))), ((cell_far (p := ⟨gb379, _, none⟩) NB380_379.out _).trans (((cell_far (p := ⟨gb379, _, none⟩) NB380_379.out _).trans (hHeld.2))))⟩ (fun hHeld => ?_)
        clear hK K
        refine done_ (by kernel_rfl) ?_
        try go_wp2
        refine bodyPost_ret (results_tc rfl _ _ gb379 31 #[.bool x381000_1, .int .i64 x381001_1] (0, 0) _ rfl (by (with_reducible repeat (first | refine blk_drewN ?_ _ | refine blk_drew ?_ | refine blk_alloc ?_ _)); refine blk_put (cs := #[.bool x381000_1, .int .i64 0]) ?_ (1) _ rfl; (with_reducible repeat (first | refine blk_drewN ?_ _ | refine blk_drew ?_ | refine blk_alloc ?_ _)); refine blk_put (cs := #[.bool false, .int .i64 0]) ?_ (0) _ rfl; (with_reducible repeat (first | refine blk_drewN ?_ _ | refine blk_drew ?_ | refine blk_alloc ?_ _)); exact BK379.out) Try.underlying31 rfl (by kernel_rfl)) rfl ?_
        exact ⟨_, by first | rfl | (simp [errW_none, errW_some] <;> rfl) | (simp [*, errW_none, errW_some] <;> rfl), by (with_reducible repeat (first | apply Kd.R_alloc | apply Kd.R_drewN | apply Kd.R_drew)); exact Kd.R_mono (Kd.R_far (p := ⟨gb379, 1, none⟩) (Kd.R_far (p := ⟨gb379, 0, none⟩) (Kd.R_types HO_5.out BK379.out (by decide)) (fun _ hk => hk.2) (.bool x381000_1)) (fun _ hk => hk.2) (.int .i64 x381001_1)) (fun _ hk => trivial), by repeat (first | (with_reducible first | exact HB.out | apply below_alloc | apply pw_below_drewN | apply below_drew1 | refine below_set ?_ GE379.out | refine below_set ?_ GE380.out) | exact HB.out)⟩

end Go.Proofs.Ytdncfnlhkacpaaa.P
