-- Printed by a session's own program (wip/turnprint.py, wip/myprint.sh) over the translation's print.
import Derived.Test.YtdncfnlhkacpaaaZx0
import Derived.Test.YtdncfnlhkacpaaaZx2
import Derived.Test.YtdncfnlhkacpaaaZx5
import Derived.Test.YtdncfnlhkacpaaaZx9
import Derived.Test.YtdncfnlhkacpaaaZx10
import Derived.Test.YtdncfnlhkacpaaaZx11
namespace Go.Proofs.Ytdncfnlhkacpaaa.Z
open Go.RowKit Go.Proofs.YtdncfnlhkacpaaaW.PrintWords Go.Proofs.YtdncfnlhkacpaaaW.PrintLast Go.Proofs.YtdncfnlhkacpaaaW.PrintMore
attribute [local go_sem] max2_int min2_int max_two min_two max_three min_three max_four min_four   -- for this text's walks alone
set_option linter.unusedVariables false
set_option linter.unusedSimpArgs false

attribute [local go_sem high] eqA31
/-! ### perilunelaw32_UplinkKnown: function 10 -/
def perilunelaw32_UplinkKnown.l0 : Nat → List (S22) → List Int → Int → Option (Bool)
  | 0, _, _, _ => none
  | k + 1, x1, x2, x3 => if x3 < (x2.length : Int) then (if 0 ≤ x3 then ((uplink_Word.f k (rd x2 x3)).bind fun bt220 => (if x1.length < 8796093022208 then (perilunelaw32_UplinkKnown.l0 k (x1 ++ [(⟨bt220.1, bt220.2.1, bt220.2.2.1, bt220.2.2.2.1, bt220.2.2.2.2.1, bt220.2.2.2.2.2.1, bt220.2.2.2.2.2.2.1, bt220.2.2.2.2.2.2.2.1, bt220.2.2.2.2.2.2.2.2.1, bt220.2.2.2.2.2.2.2.2.2.1, bt220.2.2.2.2.2.2.2.2.2.2.1, bt220.2.2.2.2.2.2.2.2.2.2.2.1, bt220.2.2.2.2.2.2.2.2.2.2.2.2.1, bt220.2.2.2.2.2.2.2.2.2.2.2.2.2.1, bt220.2.2.2.2.2.2.2.2.2.2.2.2.2.2.1, bt220.2.2.2.2.2.2.2.2.2.2.2.2.2.2.2.1⟩ : S22)]) x2 (wrap64 (x3 + 1))) else (none))) else (none)) else ((uplink_All.f k x1).bind fun bt241 => (if 1 < (x1.length : Int) then ((some (x1.set (1 : Int).toNat (⟨(rd_T22 x1 1).f0, (rd_T22 x1 1).f1, (rd_T22 x1 1).f2, (1 - ((rd_T22 x1 1).f3)) % 256, (rd_T22 x1 1).f4, (rd_T22 x1 1).f5, (rd_T22 x1 1).f6, (rd_T22 x1 1).f7, (rd_T22 x1 1).f8, (rd_T22 x1 1).f9, (rd_T22 x1 1).f10, (rd_T22 x1 1).f11, (rd_T22 x1 1).f12, (rd_T22 x1 1).f13, (rd_T22 x1 1).f14, (rd_T22 x1 1).f15⟩ : S22) : List (S22))).bind fun y248 => (if 4 < (x1.length : Int) then ((uplink_All.f k (y248.set (4 : Int).toNat (⟨2, (rd_T22 y248 4).f1, (rd_T22 y248 4).f2, (rd_T22 y248 4).f3, (rd_T22 y248 4).f4, (rd_T22 y248 4).f5, (rd_T22 y248 4).f6, (rd_T22 y248 4).f7, (rd_T22 y248 4).f8, (rd_T22 y248 4).f9, (rd_T22 y248 4).f10, (rd_T22 y248 4).f11, (rd_T22 y248 4).f12, (rd_T22 y248 4).f13, (rd_T22 y248 4).f14, (rd_T22 y248 4).f15⟩ : S22))).bind fun bt250 => ((uplink_Word.f k (-1)).bind fun bt256 => ((perilunelaw32_awake.f k).bind fun t274 => (if t274 = true then ((periluneref32_Same.f k bt241.1 x2).bind fun t275 => (if t275 = true then (if (!bt241.2.1 && (bt241.2.2 == 0)) = true then ((periluneref32_Same.f k bt250.1 (([1, 0, 31] : List Int))).bind fun t279 => (if t279 = true then (if (!bt250.2.1 && (bt250.2.2 == 2)) = true then (some (bt256.2.2.2.2.2.2.2.2.2.2.2.2.2.2.2.2 == 3)) else (some false)) else (some false))) else (some false)) else (some false))) else (some false))))) else (none))) else (none)))
def perilunelaw32_UplinkKnown.f (k : Nat)  : Option (Bool) := perilunelaw32_UplinkKnown.l0 k ([] : List (S22)) (([1, 2, 3, 18, 4, 18, 0, 31] : List Int)) 0
theorem perilunelaw32_UplinkKnown.mono_l : ∀ k, (∀ y0 y1 y2, LeO (perilunelaw32_UplinkKnown.l0 k y0 y1 y2) (perilunelaw32_UplinkKnown.l0 (k + 1) y0 y1 y2))
  | 0 => fun _ _ _ r h => by simp [perilunelaw32_UplinkKnown.l0] at h
  | k + 1 => by
    have ih0 := perilunelaw32_UplinkKnown.mono_l k
    · intro y0 y1 y2
      unfold perilunelaw32_UplinkKnown.l0
      repeat' first
      | (with_reducible exact ih0 _ _ _)
      | (with_reducible exact perilunelaw32_awake.mono _)
      | (with_reducible exact periluneref32_Same.mono _ _ _)
      | (with_reducible exact uplink_All.mono _ _)
      | (with_reducible exact uplink_Word.mono _ _)
      | (with_reducible exact LeO.refl _)
      | (with_reducible exact LeO.none _)
      | (with_reducible refine LeO.ite ?_ ?_)
      | (with_reducible refine LeO.bind ?_ (fun _ => ?_))
      | exact ih0 _ _ _
      | exact perilunelaw32_awake.mono _
      | exact periluneref32_Same.mono _ _ _
      | exact uplink_All.mono _ _
      | exact uplink_Word.mono _ _
      | exact LeO.none _
      | refine LeO.ite ?_ ?_
      | refine LeO.bind ?_ (fun _ => ?_)
theorem perilunelaw32_UplinkKnown.mono : ∀ k, LeO (perilunelaw32_UplinkKnown.f k ) (perilunelaw32_UplinkKnown.f (k + 1) ) := by
  intro  k
  have ih0 := perilunelaw32_UplinkKnown.mono_l k
  unfold perilunelaw32_UplinkKnown.f
  repeat' first
      | (with_reducible exact ih0 _ _ _)
      | (with_reducible exact perilunelaw32_awake.mono _)
      | (with_reducible exact periluneref32_Same.mono _ _ _)
      | (with_reducible exact uplink_All.mono _ _)
      | (with_reducible exact uplink_Word.mono _ _)
      | (with_reducible exact LeO.refl _)
      | (with_reducible exact LeO.none _)
      | (with_reducible refine LeO.ite ?_ ?_)
      | (with_reducible refine LeO.bind ?_ (fun _ => ?_))
      | exact ih0 _ _ _
      | exact perilunelaw32_awake.mono _
      | exact periluneref32_Same.mono _ _ _
      | exact uplink_All.mono _ _
      | exact uplink_Word.mono _ _
      | exact LeO.none _
      | refine LeO.ite ?_ ?_
      | refine LeO.bind ?_ (fun _ => ?_)
def perilunelaw32_UplinkKnown.T9 : Bool × List (List Nat × List Nat) := (true, [([], []), ([], []), ([1], [1]), ([2], [2]), ([3], [3]), ([4], [4]), ([0], [0]), ([6, 0, 1, 2, 3, 4, 5], [6]), ([7, 5, 0, 1, 2, 3, 4, 5], [5, 7])])
def perilunelaw32_UplinkKnown.B9 : List Nat := [0, 0, 2, 6, 14, 30, 1, 127, 255]
theorem perilunelaw32_UplinkKnown.tab9 : rtab .any (opsOf Try.f10 9) = perilunelaw32_UplinkKnown.T9 := by kernel_rfl
theorem perilunelaw32_UplinkKnown.bits9 : waitsOk perilunelaw32_UplinkKnown.T9.2 perilunelaw32_UplinkKnown.B9 = true := by kernel_rfl
set_option maxHeartbeats 8000000 in
set_option maxRecDepth 100000 in
theorem perilunelaw32_UplinkKnown.calls (k : Nat)  (r : Bool) (w : World) (h : perilunelaw32_UplinkKnown.f k  = some r) (hT_ : Aside0 (r = true)) :
    Calls Try.prog 10 #[] w fun e w' => e = .returned (.bool r) ∧ Below w.heap.size w w' := by
  have hu22 := Try.underlying22
  have hu31 := Try.underlying31
  have HB := Aside0.mk (Below.refl w.heap.size w)
  have H : (perilunelaw32_UplinkKnown.l0 k ([] : List (S22)) (([1, 2, 3, 18, 4, 18, 0, 31] : List Int)) 0) = some r := h
  clear h
  obtain ⟨y216, hy216⟩ : ∃ y_ : List Int, y_ = (([1, 2, 3, 18, 4, 18, 0, 31] : List Int)) := ⟨_, rfl⟩
  replace H : (perilunelaw32_UplinkKnown.l0 k ([] : List (S22)) y216 0) = some r := by first | (rw [hy216]; with_reducible exact H) | (have H2_ := (Option.bind_some _ _).symm.trans H; rw [hy216]; with_reducible exact H2_) | (have H2_ := (Option.bind_some _ _).symm.trans H; with_reducible exact H2_) | with_reducible exact H | (rw [hy216]; exact H) | exact H
  have Ny216 := Aside0.mk hy216
  clear hy216
  have H' := Aside0.mk H
  clear H
  go_enter Try.func10, Try.ntmps10
  go_wp2_with (first | ((with_reducible refine gate_dst (N := 12) rfl ?_); (try (refine gate_guard (by rfl) ?_; dsimp only)); refine Kd.R_lit (Kd.int .i64) _ 3 ?hg (N := 12) ?hd (xs := ([1, 2, 3, 18, 4, 18, 0, 31] : List Int)) (inner := [.int .i64 1, .int .i64 2, .int .i64 3, .int .i64 18, .int .i64 4, .int .i64 18, .int .i64 0, .int .i64 31]) (ok := fun _ => True) (okp := fun _ => True) ?hr ?hp (fun _ hk => hk) trivial (Below.refl _ _) (Nat.le_refl _) (by simp) ?_; (case hd => rfl); (case hg => rfl); (case hr => first | (go_simp; done) | (go_simp; rfl)); (case hp => exact (Reps.one (show Kd.M (Kd.int .i64) _ _ _ 1 [.int .i64 1] from rfl) (Reps.one (show Kd.M (Kd.int .i64) _ _ _ 2 [.int .i64 2] from rfl) (Reps.one (show Kd.M (Kd.int .i64) _ _ _ 3 [.int .i64 3] from rfl) (Reps.one (show Kd.M (Kd.int .i64) _ _ _ 18 [.int .i64 18] from rfl) (Reps.one (show Kd.M (Kd.int .i64) _ _ _ 4 [.int .i64 4] from rfl) (Reps.one (show Kd.M (Kd.int .i64) _ _ _ 18 [.int .i64 18] from rfl) (Reps.one (show Kd.M (Kd.int .i64) _ _ _ 0 [.int .i64 0] from rfl) (Reps.one (show Kd.M (Kd.int .i64) _ _ _ 31 [.int .i64 31] from rfl) (Reps.none _ _)))))))))); intro v217 w1 ho2 hb hg_ hnew_; clear hg_ hnew_; (first | rw [← Ny216.out] at ho2 | (simp only [Int.reduceToNat] at ho2; rw [← Ny216.out] at ho2)); have n0_ := Aside0.mk (Kd.R_lower ho2 (below_size (by repeat (first | (with_reducible first | exact HB.out | apply below_alloc | apply pw_below_drewN | apply below_drew1) | exact HB.out)))); have n1_ := Aside0.mk (below_step (by repeat (first | (with_reducible first | exact HB.out | apply below_alloc | apply pw_below_drewN | apply below_drew1) | exact HB.out)) hb); clear HB; have HO218 := n0_; have HB := n1_; clear n0_ n1_; clear hb ho2))
  go_loopg [1, 3] k (fun kq v1 v3 w' => ∃ (x1_1 : List (S22)) (x3_1 : Int), v3 = .int .i64 x3_1 ∧ Aside0 (perilunelaw32_UplinkKnown.l0 kq x1_1 y216 x3_1 = some r) ∧ Aside0 (kq ≤ k) ∧ Aside0 (Kd.R k22 22 w' w.heap.size (fun _ => True) v1 x1_1) ∧ Aside0 (Kd.R (Kd.int .i64) 3 w' w.heap.size (fun _ => True) v217 y216) ∧ Aside0 (Below w.heap.size w w'))
  case atStart => exact ⟨(([] : List (S22))), (0), (by first | rfl | (simp; done) | (simp [*]; done)), H', ⟨Nat.le_refl _⟩, ⟨by first | exact Kd.R_nil _ _ _ _ _ | exact Kd.N_nil _ _ _ _ _ | exact Kd.V_nil _ _ _ _ _ | exact Kd.Q_nil _ _ _ _ _ | exact Kd.S_nil _ _ _ _ _⟩, ⟨by (with_reducible repeat (first | apply Kd.R_alloc | apply Kd.R_drewN | apply Kd.R_drew)); exact HO218.out⟩, ⟨by repeat (first | (with_reducible first | exact HB.out | apply below_alloc | apply pw_below_drewN | apply below_drew1) | exact HB.out)⟩⟩
  case round =>
    clear H'
    try clear c1
    try clear p2
    obtain ⟨x1_1, x3_1, rfl, HA, HK1, HO_1, HO_2, HB⟩ := hrel
    cases gk with
    | zero => exact absurd HA.out (by simp [perilunelaw32_UplinkKnown.l0])
    | succ k1 =>
      have H := HA.out
      clear HA
      simp only [perilunelaw32_UplinkKnown.l0] at H
      by_cases c3 : x3_1 < (y216.length : Int)
      · rw [if_pos c3] at H
        have c3b0 : decide (x3_1 < (y216.length : Int)) = true := decide_eq_true c3
        clear c3
        by_cases c4 : 0 ≤ x3_1
        · rw [if_pos c4] at H
          have c4b0 : decide (0 ≤ x3_1) = true := decide_eq_true c4
          clear c4
          replace H := Option.bind_eq_some_iff.mp H
          obtain ⟨⟨t220, t221, t222, t223, t224, t225, t226, t227, t228, t229, t230, t231, t232, t233, t234, t235, t236⟩, A50, H⟩ := H
          replace H : (if x1_1.length < 8796093022208 then (perilunelaw32_UplinkKnown.l0 k1 (x1_1 ++ [(⟨t220, t221, t222, t223, t224, t225, t226, t227, t228, t229, t230, t231, t232, t233, t234, t235⟩ : S22)]) y216 (wrap64 (x3_1 + 1))) else (none)) = some r := H
          have A5 := Aside0.mk A50
          clear A50
          by_cases c6 : x1_1.length < 8796093022208
          · rw [if_pos c6] at H
            have LMc6 := Aside0.mk c6
            clear c6
            obtain ⟨y238, hy238⟩ : ∃ y_ : List (S22), y_ = (x1_1 ++ [(⟨t220, t221, t222, t223, t224, t225, t226, t227, t228, t229, t230, t231, t232, t233, t234, t235⟩ : S22)]) := ⟨_, rfl⟩
            replace H : (perilunelaw32_UplinkKnown.l0 k1 y238 y216 (wrap64 (x3_1 + 1))) = some r := by first | (rw [hy238]; with_reducible exact H) | (have H2_ := (Option.bind_some _ _).symm.trans H; rw [hy238]; with_reducible exact H2_) | (have H2_ := (Option.bind_some _ _).symm.trans H; with_reducible exact H2_) | with_reducible exact H | (rw [hy238]; exact H) | exact H
            have Ny238 := Aside0.mk hy238
            clear hy238
            have H' := Aside0.mk H
            clear H
            obtain ⟨Ao7, co7, eo7⟩ := Kd.R_slice HO_2.out
            subst eo7
            have p219 : 0 ≤ (x3_1 : Int) := of_decide_eq_true (by first | (with_reducible assumption) | assumption)
            have q219 : x3_1 < (y216.length : Int) := of_decide_eq_true (by first | (with_reducible assumption) | assumption)
            obtain ⟨ad219, e219, hx219_0⟩ := Kd.at_int (Kd.R_reads' HO_2.out).2.2 x3_1 p219 q219
            cases e219
            replace p219 := eq_true p219
            replace q219 := eq_true q219
            go_wp2_with (first | ((with_reducible refine gate_callee (f := 11) rfl ?_); refine goesL_ (some 24) rfl rfl Try.func11 (by kernel_rfl) rfl #[.int .i64 (rd y216 x3_1)] rfl (by (try simp only [List.map_toArray, List.map_cons, List.map_nil]); first | done | rfl | (simp only [List.length_drop, List.length_take]; rfl)) ?_; (with_reducible refine (uplink_Word.calls k1 (rd y216 x3_1) t220 t221 t222 t223 t224 t225 t226 t227 t228 t229 t230 t231 t232 t233 t234 t235 t236 _ A5.out).mono ?_); rintro e w8 ⟨rfl, hb⟩; refine ⟨_, rfl, ?_⟩; have n0_ := Aside0.mk (Kd.R_below (by (with_reducible repeat (first | apply Kd.R_alloc | apply Kd.R_drewN | apply Kd.R_drew)); exact HO_1.out) hb); have n1_ := Aside0.mk (Kd.R_below (by (with_reducible repeat (first | apply Kd.R_alloc | apply Kd.R_drewN | apply Kd.R_drew)); exact HO_2.out) hb); have n2_ := Aside0.mk (below_step (by repeat (first | (with_reducible first | exact HB.out | apply below_alloc | apply pw_below_drewN | apply below_drew1) | exact HB.out)) hb); clear HO_1; clear HO_2; clear HB; have HO_1 := n0_; have HO_2 := n1_; have HB := n2_; clear n0_ n1_ n2_; (try clear hb); (try clear hb2); (try clear hk); (try clear hi)) | ((with_reducible refine gate_dst (N := 4) rfl ?_); (try (refine gate_guard (by rfl) ?_; dsimp only)); refine box_event ?hg (N := 4) ?hd (cs := #[.int .u8 0, .int .u8 0, .int .u8 0, .int .u8 0, .int .u8 0, .int .u8 0, .int .u8 0, .int .u8 0, .int .u8 0, .int .u8 0, .int .u8 0, .int .u8 0, .int .u8 0, .int .u8 0, .int .u8 0, .int .u8 0]) (t := 22) ?hr ?_; (case hd => rfl); (case hg => rfl); (case hr => first | (go_simp; done) | (go_simp; rfl)); intro gb237 hg w9 hbox hb; have n0_ := Aside0.mk (Kd.R_below (Kd.R_elderB (by (with_reducible repeat (first | apply Kd.R_alloc | apply Kd.R_drewN | apply Kd.R_drew)); exact HO_1.out) gb237 (Nat.le_of_eq hg.symm)) hb); have n1_ := Aside0.mk (Kd.R_below (by (with_reducible repeat (first | apply Kd.R_alloc | apply Kd.R_drewN | apply Kd.R_drew)); exact HO_2.out) hb); have n2_ := Aside0.mk (below_step (by repeat (first | (with_reducible first | exact HB.out | apply below_alloc | apply pw_below_drewN | apply below_drew1) | exact HB.out)) hb); have n3_ := Aside0.mk (hbox); have n4_ := Aside0.mk ((by rw [hg]; exact (below_size (by repeat (first | (with_reducible first | exact HB.out | apply below_alloc | apply pw_below_drewN | apply below_drew1) | exact HB.out))) : w.heap.size ≤ gb237)); have n5_ := Aside0.mk ((by rw [hg]; exact (below_size (by repeat (first | (with_reducible first | exact HB.out | apply below_alloc | apply pw_below_drewN | apply below_drew1) | exact HB.out))) : w.heap.size ≤ gb237)); clear HO_1; clear HO_2; clear HB; have HO_1 := n0_; have HO_2 := n1_; have HB := n2_; have BK237 := n3_; have GW237 := n4_; have GE237 := n5_; clear n0_ n1_ n2_ n3_ n4_ n5_; clear hb hbox hg) | ((with_reducible refine gate_store (t := 22) (p := 4) rfl ?_); refine seg_event (t := 22) (p := 4) (x := ?xo_w10) (g := gb237) (off := 0) (T := 22) (cur := #[.int .u8 0, .int .u8 0, .int .u8 0, .int .u8 0, .int .u8 0, .int .u8 0, .int .u8 0, .int .u8 0, .int .u8 0, .int .u8 0, .int .u8 0, .int .u8 0, .int .u8 0, .int .u8 0, .int .u8 0, .int .u8 0]) (vs := [.int .u8 t220, .int .u8 t221, .int .u8 t222, .int .u8 t223, .int .u8 t224, .int .u8 t225, .int .u8 t226, .int .u8 t227, .int .u8 t228, .int .u8 t229, .int .u8 t230, .int .u8 t231, .int .u8 t232, .int .u8 t233, .int .u8 t234, .int .u8 t235]) (new := #[.int .u8 t220, .int .u8 t221, .int .u8 t222, .int .u8 t223, .int .u8 t224, .int .u8 t225, .int .u8 t226, .int .u8 t227, .int .u8 t228, .int .u8 t229, .int .u8 t230, .int .u8 t231, .int .u8 t232, .int .u8 t233, .int .u8 t234, .int .u8 t235]) ?hg ?ho ?hn ?hp ?hv ?hb ?hi ?hf ?h1 ?hw ?_; (case ho => rfl); (case hg => rfl); (case hn => rfl); (case hp => rfl); (case hv => first | rfl | (go_simp; done) | (simp [*]; done)); (case hb => exact (by (with_reducible repeat (first | refine blk_drewN ?_ _ | refine blk_drew ?_ | refine blk_alloc ?_ _)); exact BK237.out)); (case hi => kernel_rfl); (case hf => exact Nat.le_of_ble_eq_true rfl); (case h1 => rfl); (case hw => rfl); intro w10 hbox hg hbl; have n0_ := Aside0.mk (Kd.R_grown (by (with_reducible repeat (first | apply Kd.R_alloc | apply Kd.R_drewN | apply Kd.R_drew)); exact HO_1.out) hg (by intro k_ hk e_; exact (hk.2) (Option.some.inj e_))); have n1_ := Aside0.mk (Kd.R_mono (Kd.R_grown (Kd.R_types (by (with_reducible repeat (first | apply Kd.R_alloc | apply Kd.R_drewN | apply Kd.R_drew)); exact HO_2.out) (show w9.heap[gb237]? = some (.cells #[.int .u8 0, .int .u8 0, .int .u8 0, .int .u8 0, .int .u8 0, .int .u8 0, .int .u8 0, .int .u8 0, .int .u8 0, .int .u8 0, .int .u8 0, .int .u8 0, .int .u8 0, .int .u8 0, .int .u8 0, .int .u8 0] 22 (0, 0)) from by (with_reducible repeat (first | refine blk_drewN ?_ _ | refine blk_drew ?_ | refine blk_alloc ?_ _)); exact BK237.out) (by decide)) hg (by intro k_ hk e_; exact hk.2 (Option.some.inj e_))) (by intro _ hk; exact hk.1)); have n2_ := Aside0.mk (hbox); have n3_ := Aside0.mk (hbl _ _ (by repeat (first | (with_reducible first | exact HB.out | apply below_alloc | apply pw_below_drewN | apply below_drew1 | refine below_set ?_ GE237.out) | exact HB.out)) GE237.out); clear HO_1; clear HO_2; clear BK237; clear HB; have HO_1 := n0_; have HO_2 := n1_; have BK237 := n2_; have HB := n3_; clear n0_ n1_ n2_ n3_; clear hbox hg hbl) | ((with_reducible refine gate_dst (N := 28) rfl ?_); (try (refine gate_guard (by rfl) ?_; dsimp only)); refine seg_load_on (t := 22) (p := 4) (g := gb237) (off := 0) (T := 22) (cur := #[.int .u8 t220, .int .u8 t221, .int .u8 t222, .int .u8 t223, .int .u8 t224, .int .u8 t225, .int .u8 t226, .int .u8 t227, .int .u8 t228, .int .u8 t229, .int .u8 t230, .int .u8 t231, .int .u8 t232, .int .u8 t233, .int .u8 t234, .int .u8 t235]) (vs := [.int .u8 t220, .int .u8 t221, .int .u8 t222, .int .u8 t223, .int .u8 t224, .int .u8 t225, .int .u8 t226, .int .u8 t227, .int .u8 t228, .int .u8 t229, .int .u8 t230, .int .u8 t231, .int .u8 t232, .int .u8 t233, .int .u8 t234, .int .u8 t235]) ?hg ?ho ?hp ?hb Try.underlying22 ?hd ?hi ?hw ?_; (case ho => rfl); (case hg => first | rfl | (go_simp; done) | (simp [Region.wanted, yielded, *]; done)); (case hp => rfl); (case hb => exact (by (with_reducible repeat (first | refine blk_drewN ?_ _ | refine blk_drew ?_ | refine blk_alloc ?_ _)); exact BK237.out)); (case hd => rfl); (case hi => kernel_rfl); (case hw => rfl)) | ((with_reducible refine gate_builtin (b := .append) (xs := #[.tmp 27, .tmp 29]) rfl ?_); (try (refine gate_guard (by rfl) ?_; dsimp only)); at_builtin; refine Kd.R_append k22 (w0 := w) w.heap.size rfl (.tmp 27) (.tmp 29) 37 22 (.agg #[(.int .u8 0), (.int .u8 0), (.int .u8 0), (.int .u8 0), (.int .u8 0), (.int .u8 0), (.int .u8 0), (.int .u8 0), (.int .u8 0), (.int .u8 0), (.int .u8 0), (.int .u8 0), (.int .u8 0), (.int .u8 0), (.int .u8 0), (.int .u8 0)]) 16 rfl Try.underlying37 info22 rfl (by decide) (by omega) u1 x1_1 (⟨t220, t221, t222, t223, t224, t225, t226, t227, t228, t229, t230, t231, t232, t233, t234, t235⟩ : S22) [.int .u8 t220, .int .u8 t221, .int .u8 t222, .int .u8 t223, .int .u8 t224, .int .u8 t225, .int .u8 t226, .int .u8 t227, .int .u8 t228, .int .u8 t229, .int .u8 t230, .int .u8 t231, .int .u8 t232, .int .u8 t233, .int .u8 t234, .int .u8 t235] (fun k_ => k_ ≠ gb237) (fun _ => False) rfl rfl ?aP (fun _ hk => hk.elim) ?aF ?aO ?aB ?aS ?aL ?_; (case aP => exact k22_mkM _ _ _ (⟨t220, t221, t222, t223, t224, t225, t226, t227, t228, t229, t230, t231, t232, t233, t234, t235⟩ : S22)); (case aB => exact (by repeat (first | (with_reducible first | exact HB.out | apply below_alloc | apply pw_below_drewN | apply below_drew1 | refine below_set ?_ GE237.out) | exact HB.out))); (case aF => exact (fun k_ hk => Kd.freshB (g := gb237) (o := .cells #[.int .u8 t220, .int .u8 t221, .int .u8 t222, .int .u8 t223, .int .u8 t224, .int .u8 t225, .int .u8 t226, .int .u8 t227, .int .u8 t228, .int .u8 t229, .int .u8 t230, .int .u8 t231, .int .u8 t232, .int .u8 t233, .int .u8 t234, .int .u8 t235] 22 (0, 0)) (by (with_reducible repeat (first | refine blk_drewN ?_ _ | refine blk_drew ?_ | refine blk_alloc ?_ _)); exact BK237.out) k_ hk)); (case aO => exact (by (with_reducible repeat (first | apply Kd.R_alloc | apply Kd.R_drewN | apply Kd.R_drew)); exact Kd.R_mono HO_1.out (fun _ hk => hk.2))); (case aS => exact (below_size (by repeat (first | (with_reducible first | exact HB.out | apply below_alloc | apply pw_below_drewN | apply below_drew1 | refine below_set ?_ GE237.out) | exact HB.out)))); (case aL => have := LMc6.out; omega); intro v239 w11 ho hb hg hat; rw [← Ny238.out] at ho; have n0_ := Aside0.mk (Kd.R_over' (by (with_reducible repeat (first | apply Kd.R_alloc | apply Kd.R_drewN | apply Kd.R_drew)); exact HO_2.out) (Kd.R_typed (by (with_reducible repeat (first | apply Kd.R_alloc | apply Kd.R_drewN | apply Kd.R_drew)); exact HO_1.out)) (by decide) hg); have n1_ := Aside0.mk (blk_grown (g := gb237) (o := .cells #[.int .u8 t220, .int .u8 t221, .int .u8 t222, .int .u8 t223, .int .u8 t224, .int .u8 t225, .int .u8 t226, .int .u8 t227, .int .u8 t228, .int .u8 t229, .int .u8 t230, .int .u8 t231, .int .u8 t232, .int .u8 t233, .int .u8 t234, .int .u8 t235] 22 (0, 0)) (by (with_reducible repeat (first | refine blk_drewN ?_ _ | refine blk_drew ?_ | refine blk_alloc ?_ _)); exact BK237.out) hg (Kd.R_away HO_1.out (fun _ hk => hk.2))); have n2_ := Aside0.mk (hb); have n3_ := Aside0.mk (ho); clear HO_2; clear BK237; clear HB; clear HO_1; have HO_2 := n0_; have BK237 := n1_; have HB := n2_; have HO240 := n3_; clear n0_ n1_ n2_ n3_; clear ho hb hg hat))
            go_roundg k1
            case measure => have := HK1.out; omega
            case rel => exact ⟨(y238), (wrap64 (x3_1 + 1)), (by first | rfl | (simp; done) | (simp [*]; done)), H', ⟨by have := HK1.out; omega⟩, ⟨by (with_reducible repeat (first | apply Kd.R_alloc | apply Kd.R_drewN | apply Kd.R_drew)); exact Kd.R_mono HO240.out (fun _ hk => trivial)⟩, ⟨by (with_reducible repeat (first | apply Kd.R_alloc | apply Kd.R_drewN | apply Kd.R_drew)); exact HO_2.out⟩, ⟨by repeat (first | (with_reducible first | exact HB.out | apply below_alloc | apply pw_below_drewN | apply below_drew1 | refine below_set ?_ GE237.out) | exact HB.out)⟩⟩
          · rw [if_neg c6] at H
            exact absurd H (by simp)
        · rw [if_neg c4] at H
          exact absurd H (by simp)
      · rw [if_neg c3] at H
        have c3b0 : decide (x3_1 < (y216.length : Int)) = false := decide_eq_false c3
        clear c3
        replace H := Option.bind_eq_some_iff.mp H
        obtain ⟨⟨t241, t244, t245⟩, A120, H⟩ := H
        replace H : (if 1 < (x1_1.length : Int) then ((some (x1_1.set (1 : Int).toNat (⟨(rd_T22 x1_1 1).f0, (rd_T22 x1_1 1).f1, (rd_T22 x1_1 1).f2, (1 - ((rd_T22 x1_1 1).f3)) % 256, (rd_T22 x1_1 1).f4, (rd_T22 x1_1 1).f5, (rd_T22 x1_1 1).f6, (rd_T22 x1_1 1).f7, (rd_T22 x1_1 1).f8, (rd_T22 x1_1 1).f9, (rd_T22 x1_1 1).f10, (rd_T22 x1_1 1).f11, (rd_T22 x1_1 1).f12, (rd_T22 x1_1 1).f13, (rd_T22 x1_1 1).f14, (rd_T22 x1_1 1).f15⟩ : S22) : List (S22))).bind fun y248 => (if 4 < (x1_1.length : Int) then ((uplink_All.f k1 (y248.set (4 : Int).toNat (⟨2, (rd_T22 y248 4).f1, (rd_T22 y248 4).f2, (rd_T22 y248 4).f3, (rd_T22 y248 4).f4, (rd_T22 y248 4).f5, (rd_T22 y248 4).f6, (rd_T22 y248 4).f7, (rd_T22 y248 4).f8, (rd_T22 y248 4).f9, (rd_T22 y248 4).f10, (rd_T22 y248 4).f11, (rd_T22 y248 4).f12, (rd_T22 y248 4).f13, (rd_T22 y248 4).f14, (rd_T22 y248 4).f15⟩ : S22))).bind fun bt250 => ((uplink_Word.f k1 (-1)).bind fun bt256 => ((perilunelaw32_awake.f k1).bind fun t274 => (if t274 = true then ((periluneref32_Same.f k1 t241 y216).bind fun t275 => (if t275 = true then (if (!t244 && (t245 == 0)) = true then ((periluneref32_Same.f k1 bt250.1 (([1, 0, 31] : List Int))).bind fun t279 => (if t279 = true then (if (!bt250.2.1 && (bt250.2.2 == 2)) = true then (some (bt256.2.2.2.2.2.2.2.2.2.2.2.2.2.2.2.2 == 3)) else (some false)) else (some false))) else (some false)) else (some false))) else (some false))))) else (none))) else (none)) = some r := H
        have A12 := Aside0.mk A120
        clear A120
        by_cases c13 : 1 < (x1_1.length : Int)
        · rw [if_pos c13] at H
          have c13b0 : decide (1 < (x1_1.length : Int)) = true := decide_eq_true c13
          have c13b1 : decide (1 < x1_1.length) = true := decide_eq_true (by omega)
          have c13b2 : 1 < x1_1.length := by omega
          clear c13
          obtain ⟨y248, hy248⟩ : ∃ y_ : List (S22), y_ = (x1_1.set (1 : Int).toNat (⟨(rd_T22 x1_1 1).f0, (rd_T22 x1_1 1).f1, (rd_T22 x1_1 1).f2, (1 - ((rd_T22 x1_1 1).f3)) % 256, (rd_T22 x1_1 1).f4, (rd_T22 x1_1 1).f5, (rd_T22 x1_1 1).f6, (rd_T22 x1_1 1).f7, (rd_T22 x1_1 1).f8, (rd_T22 x1_1 1).f9, (rd_T22 x1_1 1).f10, (rd_T22 x1_1 1).f11, (rd_T22 x1_1 1).f12, (rd_T22 x1_1 1).f13, (rd_T22 x1_1 1).f14, (rd_T22 x1_1 1).f15⟩ : S22)) := ⟨_, rfl⟩
          replace H : (if 4 < (x1_1.length : Int) then ((uplink_All.f k1 (y248.set (4 : Int).toNat (⟨2, (rd_T22 y248 4).f1, (rd_T22 y248 4).f2, (rd_T22 y248 4).f3, (rd_T22 y248 4).f4, (rd_T22 y248 4).f5, (rd_T22 y248 4).f6, (rd_T22 y248 4).f7, (rd_T22 y248 4).f8, (rd_T22 y248 4).f9, (rd_T22 y248 4).f10, (rd_T22 y248 4).f11, (rd_T22 y248 4).f12, (rd_T22 y248 4).f13, (rd_T22 y248 4).f14, (rd_T22 y248 4).f15⟩ : S22))).bind fun bt250 => ((uplink_Word.f k1 (-1)).bind fun bt256 => ((perilunelaw32_awake.f k1).bind fun t274 => (if t274 = true then ((periluneref32_Same.f k1 t241 y216).bind fun t275 => (if t275 = true then (if (!t244 && (t245 == 0)) = true then ((periluneref32_Same.f k1 bt250.1 (([1, 0, 31] : List Int))).bind fun t279 => (if t279 = true then (if (!bt250.2.1 && (bt250.2.2 == 2)) = true then (some (bt256.2.2.2.2.2.2.2.2.2.2.2.2.2.2.2.2 == 3)) else (some false)) else (some false))) else (some false)) else (some false))) else (some false))))) else (none)) = some r := by first | (rw [hy248]; with_reducible exact H) | (have H2_ := (Option.bind_some _ _).symm.trans H; rw [hy248]; with_reducible exact H2_) | (have H2_ := (Option.bind_some _ _).symm.trans H; with_reducible exact H2_) | with_reducible exact H | (rw [hy248]; exact H) | exact H
          have Ny248 := Aside0.mk hy248
          clear hy248
          by_cases c15 : 4 < (x1_1.length : Int)
          · rw [if_pos c15] at H
            have c15b0 : decide (4 < (x1_1.length : Int)) = true := decide_eq_true c15
            have c15b1 : decide (4 < x1_1.length) = true := decide_eq_true (by omega)
            have c15b2 : 4 < x1_1.length := by omega
            clear c15
            obtain ⟨y249, hy249⟩ : ∃ y_ : List (S22), y_ = (y248.set (4 : Int).toNat (⟨2, (rd_T22 y248 4).f1, (rd_T22 y248 4).f2, (rd_T22 y248 4).f3, (rd_T22 y248 4).f4, (rd_T22 y248 4).f5, (rd_T22 y248 4).f6, (rd_T22 y248 4).f7, (rd_T22 y248 4).f8, (rd_T22 y248 4).f9, (rd_T22 y248 4).f10, (rd_T22 y248 4).f11, (rd_T22 y248 4).f12, (rd_T22 y248 4).f13, (rd_T22 y248 4).f14, (rd_T22 y248 4).f15⟩ : S22)) := ⟨_, rfl⟩
            replace H : ((uplink_All.f k1 y249).bind fun bt250 => ((uplink_Word.f k1 (-1)).bind fun bt256 => ((perilunelaw32_awake.f k1).bind fun t274 => (if t274 = true then ((periluneref32_Same.f k1 t241 y216).bind fun t275 => (if t275 = true then (if (!t244 && (t245 == 0)) = true then ((periluneref32_Same.f k1 bt250.1 (([1, 0, 31] : List Int))).bind fun t279 => (if t279 = true then (if (!bt250.2.1 && (bt250.2.2 == 2)) = true then (some (bt256.2.2.2.2.2.2.2.2.2.2.2.2.2.2.2.2 == 3)) else (some false)) else (some false))) else (some false)) else (some false))) else (some false))))) = some r := by first | (rw [hy249]; with_reducible exact H) | (have H2_ := (Option.bind_some _ _).symm.trans H; rw [hy249]; with_reducible exact H2_) | (have H2_ := (Option.bind_some _ _).symm.trans H; with_reducible exact H2_) | with_reducible exact H | (rw [hy249]; exact H) | exact H
            have Ny249 := Aside0.mk hy249
            clear hy249
            replace H := Option.bind_eq_some_iff.mp H
            obtain ⟨⟨t250, t253, t254⟩, A170, H⟩ := H
            replace H : ((uplink_Word.f k1 (-1)).bind fun bt256 => ((perilunelaw32_awake.f k1).bind fun t274 => (if t274 = true then ((periluneref32_Same.f k1 t241 y216).bind fun t275 => (if t275 = true then (if (!t244 && (t245 == 0)) = true then ((periluneref32_Same.f k1 t250 (([1, 0, 31] : List Int))).bind fun t279 => (if t279 = true then (if (!t253 && (t254 == 2)) = true then (some (bt256.2.2.2.2.2.2.2.2.2.2.2.2.2.2.2.2 == 3)) else (some false)) else (some false))) else (some false)) else (some false))) else (some false)))) = some r := H
            have A17 := Aside0.mk A170
            clear A170
            replace H := Option.bind_eq_some_iff.mp H
            obtain ⟨⟨t256, t257, t258, t259, t260, t261, t262, t263, t264, t265, t266, t267, t268, t269, t270, t271, t272⟩, A180, H⟩ := H
            replace H : ((perilunelaw32_awake.f k1).bind fun t274 => (if t274 = true then ((periluneref32_Same.f k1 t241 y216).bind fun t275 => (if t275 = true then (if (!t244 && (t245 == 0)) = true then ((periluneref32_Same.f k1 t250 (([1, 0, 31] : List Int))).bind fun t279 => (if t279 = true then (if (!t253 && (t254 == 2)) = true then (some (t272 == 3)) else (some false)) else (some false))) else (some false)) else (some false))) else (some false))) = some r := H
            have A18 := Aside0.mk A180
            clear A180
            replace H := Option.bind_eq_some_iff.mp H
            obtain ⟨t274, A190, H⟩ := H
            replace H : (if t274 = true then ((periluneref32_Same.f k1 t241 y216).bind fun t275 => (if t275 = true then (if (!t244 && (t245 == 0)) = true then ((periluneref32_Same.f k1 t250 (([1, 0, 31] : List Int))).bind fun t279 => (if t279 = true then (if (!t253 && (t254 == 2)) = true then (some (t272 == 3)) else (some false)) else (some false))) else (some false)) else (some false))) else (some false)) = some r := H
            have A19 := Aside0.mk A190
            clear A190
            by_cases c20 : t274 = true
            · subst c20
              have H1 : ((periluneref32_Same.f k1 t241 y216).bind fun t275 => (if t275 = true then (if (!t244 && (t245 == 0)) = true then ((periluneref32_Same.f k1 t250 (([1, 0, 31] : List Int))).bind fun t279 => (if t279 = true then (if (!t253 && (t254 == 2)) = true then (some (t272 == 3)) else (some false)) else (some false))) else (some false)) else (some false))) = some r := by rw [if_pos rfl] at H; exact H
              clear H
              have H := H1
              clear H1
              replace H := Option.bind_eq_some_iff.mp H
              obtain ⟨t275, A210, H⟩ := H
              replace H : (if t275 = true then (if (!t244 && (t245 == 0)) = true then ((periluneref32_Same.f k1 t250 (([1, 0, 31] : List Int))).bind fun t279 => (if t279 = true then (if (!t253 && (t254 == 2)) = true then (some (t272 == 3)) else (some false)) else (some false))) else (some false)) else (some false)) = some r := H
              have A21 := Aside0.mk A210
              clear A210
              by_cases c22 : t275 = true
              · subst c22
                have H1 : (if (!t244 && (t245 == 0)) = true then ((periluneref32_Same.f k1 t250 (([1, 0, 31] : List Int))).bind fun t279 => (if t279 = true then (if (!t253 && (t254 == 2)) = true then (some (t272 == 3)) else (some false)) else (some false))) else (some false)) = some r := by rw [if_pos rfl] at H; exact H
                clear H
                have H := H1
                clear H1
                by_cases c23 : (!t244 && (t245 == 0)) = true
                · rw [if_pos c23] at H
                  have c23b0 : (!t244 && (t245 == 0)) = true := c23
                  clear c23
                  obtain ⟨y276, hy276⟩ : ∃ y_ : List Int, y_ = (([1, 0, 31] : List Int)) := ⟨_, rfl⟩
                  replace H : ((periluneref32_Same.f k1 t250 y276).bind fun t279 => (if t279 = true then (if (!t253 && (t254 == 2)) = true then (some (t272 == 3)) else (some false)) else (some false))) = some r := by first | (rw [hy276]; with_reducible exact H) | (have H2_ := (Option.bind_some _ _).symm.trans H; rw [hy276]; with_reducible exact H2_) | (have H2_ := (Option.bind_some _ _).symm.trans H; with_reducible exact H2_) | with_reducible exact H | (rw [hy276]; exact H) | exact H
                  have Ny276 := Aside0.mk hy276
                  clear hy276
                  replace H := Option.bind_eq_some_iff.mp H
                  obtain ⟨t279, A240, H⟩ := H
                  replace H : (if t279 = true then (if (!t253 && (t254 == 2)) = true then (some (t272 == 3)) else (some false)) else (some false)) = some r := H
                  have A24 := Aside0.mk A240
                  clear A240
                  by_cases c25 : t279 = true
                  · subst c25
                    have H1 : (if (!t253 && (t254 == 2)) = true then (some (t272 == 3)) else (some false)) = some r := by rw [if_pos rfl] at H; exact H
                    clear H
                    have H := H1
                    clear H1
                    by_cases c26 : (!t253 && (t254 == 2)) = true
                    · rw [if_pos c26] at H
                      have c26b0 : (!t253 && (t254 == 2)) = true := c26
                      clear c26
                      obtain rfl := Option.some.inj H
                      obtain ⟨Ao27, co27, eo27⟩ := Kd.R_slice HO_2.out
                      subst eo27
                      obtain ⟨Ao28, co28, eo28⟩ := Kd.R_slice HO_1.out
                      subst eo28
                      try go_wp2_with (first | ((with_reducible refine gate_callee (f := 18) rfl ?_); refine goesL_ (some 33) rfl rfl Try.func18 (by kernel_rfl) rfl #[.slice Ao28 x1_1.length co28] rfl (by (try simp only [List.map_toArray, List.map_cons, List.map_nil]); first | done | rfl | (simp only [List.length_drop, List.length_take]; rfl)) ?_; (with_reducible refine (uplink_All.calls k1 _ _ x1_1 t241 t244 t245 _ ?side1 ?side2 A12.out).mono ?_); (case side1 => repeat (first | exact (Kd.R_reads' HO_1.out).2.2 | (with_reducible refine Kd.C_alloc ?_ _) | (with_reducible refine Kd.C_drewN ?_ _) | (with_reducible refine Kd.C_drew ?_))); (case side2 => exact (Kd.R_reads' HO_1.out).2.1); rintro e w29 ⟨v242, rfl, ho0, hb⟩; refine ⟨_, rfl, ?_⟩; have n0_ := Aside0.mk (Kd.R_below (by (with_reducible repeat (first | apply Kd.R_alloc | apply Kd.R_drewN | apply Kd.R_drew)); exact HO_1.out) hb); have n1_ := Aside0.mk (Kd.R_elder' (by (with_reducible repeat (first | apply Kd.R_alloc | apply Kd.R_drewN | apply Kd.R_drew)); exact HO_2.out) (Kd.R_base ho0) hb); have n2_ := Aside0.mk (Kd.R_lower (Kd.R_new' ho0 (Kd.R_lt (by (with_reducible repeat (first | apply Kd.R_alloc | apply Kd.R_drewN | apply Kd.R_drew)); exact HO_2.out))) (below_size (by repeat (first | (with_reducible first | exact HB.out | apply below_alloc | apply pw_below_drewN | apply below_drew1) | exact HB.out)))); have n3_ := Aside0.mk (below_step (by repeat (first | (with_reducible first | exact HB.out | apply below_alloc | apply pw_below_drewN | apply below_drew1) | exact HB.out)) hb); clear HO_1; clear HO_2; clear HB; have HO_1 := n0_; have HO_2 := n1_; have HO243 := n2_; have HB := n3_; clear n0_ n1_ n2_ n3_; (try clear hb); (try clear hb2); (try clear hk); (try clear hi); (try clear ho0)) | ((with_reducible refine gate_dst (N := 7) rfl ?_); (try (refine gate_guard (by rfl) ?_; dsimp only)); refine box_event ?hg (N := 7) ?hd (cs := #[.bool false, .int .i64 0]) (t := 31) ?hr ?_; (case hd => rfl); (case hg => rfl); (case hr => first | (go_simp; done) | (go_simp; rfl)); intro gb246 hg w30 hbox hb; have n0_ := Aside0.mk (Kd.R_below (by (with_reducible repeat (first | apply Kd.R_alloc | apply Kd.R_drewN | apply Kd.R_drew)); exact HO_1.out) hb); have n1_ := Aside0.mk (Kd.R_below (by (with_reducible repeat (first | apply Kd.R_alloc | apply Kd.R_drewN | apply Kd.R_drew)); exact HO_2.out) hb); have n2_ := Aside0.mk (Kd.R_below (by (with_reducible repeat (first | apply Kd.R_alloc | apply Kd.R_drewN | apply Kd.R_drew)); exact HO243.out) hb); have n3_ := Aside0.mk (below_step (by repeat (first | (with_reducible first | exact HB.out | apply below_alloc | apply pw_below_drewN | apply below_drew1) | exact HB.out)) hb); have n4_ := Aside0.mk (hbox); have n5_ := Aside0.mk ((by rw [hg]; exact (below_size (by repeat (first | (with_reducible first | exact HB.out | apply below_alloc | apply pw_below_drewN | apply below_drew1) | exact HB.out))) : w.heap.size ≤ gb246)); have n6_ := Aside0.mk ((by rw [hg]; exact (below_size (by repeat (first | (with_reducible first | exact HB.out | apply below_alloc | apply pw_below_drewN | apply below_drew1) | exact HB.out))) : w.heap.size ≤ gb246)); clear HO_1; clear HO_2; clear HO243; clear HB; have HO_1 := n0_; have HO_2 := n1_; have HO243 := n2_; have HB := n3_; have BK246 := n4_; have GW246 := n5_; have GE246 := n6_; clear n0_ n1_ n2_ n3_ n4_ n5_ n6_; clear hb hbox hg; have hcz31_0 : w30.cell? ⟨gb246, 0, none⟩ = some (.bool false) := (blk_cell BK246.out 0).trans rfl; have hcz31_1 : w30.cell? ⟨gb246, 1, none⟩ = some (.int .i64 0) := (blk_cell BK246.out 1).trans rfl; have hfz31_0 := blk_frozen BK246.out 0; have hfz31_1 := blk_frozen BK246.out 1))
                      have n0_ : Aside0 (Kd.R k22 22 ((w30.setCell ⟨gb246, 0, none⟩ (.bool t244)).setCell ⟨gb246, 1, none⟩ (.int .i64 t245)) w.heap.size (fun _ => True) (.slice Ao28 x1_1.length co28) x1_1) := ⟨by (with_reducible repeat (first | apply Kd.R_alloc | apply Kd.R_drewN | apply Kd.R_drew)); exact Kd.R_mono (Kd.R_far (p := ⟨gb246, 1, none⟩) (Kd.R_far (p := ⟨gb246, 0, none⟩) (Kd.R_types HO_1.out BK246.out (by decide)) (fun _ hk => hk.2) (.bool t244)) (fun _ hk => hk.2) (.int .i64 t245)) (fun _ hk => trivial)⟩
                      have n1_ : Aside0 (Kd.R (Kd.int .i64) 3 ((w30.setCell ⟨gb246, 0, none⟩ (.bool t244)).setCell ⟨gb246, 1, none⟩ (.int .i64 t245)) w.heap.size (fun k_ => some k_ ≠ (v242 : Value).ownBlock) (.slice Ao27 y216.length co27) y216) := ⟨by (with_reducible repeat (first | apply Kd.R_alloc | apply Kd.R_drewN | apply Kd.R_drew)); exact Kd.R_mono (Kd.R_far (p := ⟨gb246, 1, none⟩) (Kd.R_far (p := ⟨gb246, 0, none⟩) (Kd.R_types HO_2.out BK246.out (by decide)) (fun _ hk => hk.2) (.bool t244)) (fun _ hk => hk.2) (.int .i64 t245)) (fun _ hk => hk.1.2)⟩
                      have n2_ : Aside0 (Kd.R (Kd.int .i64) 3 ((w30.setCell ⟨gb246, 0, none⟩ (.bool t244)).setCell ⟨gb246, 1, none⟩ (.int .i64 t245)) w.heap.size (fun k_ => some k_ ≠ (.slice Ao27 y216.length co27 : Value).ownBlock) v242 t241) := ⟨by (with_reducible repeat (first | apply Kd.R_alloc | apply Kd.R_drewN | apply Kd.R_drew)); exact Kd.R_mono (Kd.R_far (p := ⟨gb246, 1, none⟩) (Kd.R_far (p := ⟨gb246, 0, none⟩) (Kd.R_types HO243.out BK246.out (by decide)) (fun _ hk => hk.2) (.bool t244)) (fun _ hk => hk.2) (.int .i64 t245)) (fun _ hk => hk.1.2)⟩
                      have n3_ : Aside0 (((w30.setCell ⟨gb246, 0, none⟩ (.bool t244)).setCell ⟨gb246, 1, none⟩ (.int .i64 t245)).heap[gb246]? = some (.cells #[.bool t244, .int .i64 t245] 31 (0, 0))) := ⟨by (with_reducible repeat (first | refine blk_drewN ?_ _ | refine blk_drew ?_ | refine blk_alloc ?_ _)); refine blk_put (cs := #[.bool t244, .int .i64 0]) ?_ (1) _ rfl; (with_reducible repeat (first | refine blk_drewN ?_ _ | refine blk_drew ?_ | refine blk_alloc ?_ _)); refine blk_put (cs := #[.bool false, .int .i64 0]) ?_ (0) _ rfl; (with_reducible repeat (first | refine blk_drewN ?_ _ | refine blk_drew ?_ | refine blk_alloc ?_ _)); exact BK246.out⟩
                      have n4_ : Aside0 (Below w.heap.size w ((w30.setCell ⟨gb246, 0, none⟩ (.bool t244)).setCell ⟨gb246, 1, none⟩ (.int .i64 t245))) := ⟨by repeat (first | (with_reducible first | exact HB.out | apply below_alloc | apply pw_below_drewN | apply below_drew1 | refine below_set ?_ GE246.out) | exact HB.out)⟩
                      (try clear HO_1)
                      (try clear HO_2)
                      (try clear HO243)
                      (try clear BK246)
                      (try clear HB)
                      generalize ((w30.setCell ⟨gb246, 0, none⟩ (.bool t244)).setCell ⟨gb246, 1, none⟩ (.int .i64 t245)) = w32 at n0_ n1_ n2_ n3_ n4_ ⊢
                      have HO_1 := n0_
                      have HO_2 := n1_
                      have HO243 := n2_
                      have BK246 := n3_
                      have HB := n4_
                      clear n0_ n1_ n2_ n3_ n4_
                      have n0_ := Aside0.mk (Kd.R_drew HO_1.out)
                      have n1_ := Aside0.mk (Kd.R_drew HO_2.out)
                      have n2_ := Aside0.mk (Kd.R_drew HO243.out)
                      have n3_ := Aside0.mk (blk_drew BK246.out)
                      have n4_ := Aside0.mk (below_drew1 HB.out)
                      clear HO_1
                      clear HO_2
                      clear HO243
                      clear BK246
                      clear HB
                      have HO_1 := n0_
                      have HO_2 := n1_
                      have HO243 := n2_
                      have BK246 := n3_
                      have HB := n4_
                      clear n0_ n1_ n2_ n3_ n4_
                      have p247 : 0 ≤ (1 : Int) := (by omega)
                      have q247 : 1 < (x1_1.length : Int) := of_decide_eq_true (by first | (with_reducible assumption) | assumption)
                      obtain ⟨ad247, e247, hx247_0, hx247_1, hx247_2, hx247_3, hx247_4, hx247_5, hx247_6, hx247_7, hx247_8, hx247_9, hx247_10, hx247_11, hx247_12, hx247_13, hx247_14, hx247_15⟩ := at_T22 (Kd.R_reads' HO_1.out).2.2 1 p247 q247
                      cases e247
                      (try simp only [show (1 : Int).toNat = 1 from rfl, Nat.reduceMul, Nat.reduceEqDiff, Go.Addr.add, ↓reduceIte] at hx247_0)
                      (try simp only [show (1 : Int).toNat = 1 from rfl, Nat.reduceMul, Nat.reduceEqDiff, Go.Addr.add, ↓reduceIte] at hx247_1)
                      (try simp only [show (1 : Int).toNat = 1 from rfl, Nat.reduceMul, Nat.reduceEqDiff, Go.Addr.add, ↓reduceIte] at hx247_2)
                      (try simp only [show (1 : Int).toNat = 1 from rfl, Nat.reduceMul, Nat.reduceEqDiff, Go.Addr.add, ↓reduceIte] at hx247_3)
                      (try simp only [show (1 : Int).toNat = 1 from rfl, Nat.reduceMul, Nat.reduceEqDiff, Go.Addr.add, ↓reduceIte] at hx247_4)
                      (try simp only [show (1 : Int).toNat = 1 from rfl, Nat.reduceMul, Nat.reduceEqDiff, Go.Addr.add, ↓reduceIte] at hx247_5)
                      (try simp only [show (1 : Int).toNat = 1 from rfl, Nat.reduceMul, Nat.reduceEqDiff, Go.Addr.add, ↓reduceIte] at hx247_6)
                      (try simp only [show (1 : Int).toNat = 1 from rfl, Nat.reduceMul, Nat.reduceEqDiff, Go.Addr.add, ↓reduceIte] at hx247_7)
                      (try simp only [show (1 : Int).toNat = 1 from rfl, Nat.reduceMul, Nat.reduceEqDiff, Go.Addr.add, ↓reduceIte] at hx247_8)
                      (try simp only [show (1 : Int).toNat = 1 from rfl, Nat.reduceMul, Nat.reduceEqDiff, Go.Addr.add, ↓reduceIte] at hx247_9)
                      (try simp only [show (1 : Int).toNat = 1 from rfl, Nat.reduceMul, Nat.reduceEqDiff, Go.Addr.add, ↓reduceIte] at hx247_10)
                      (try simp only [show (1 : Int).toNat = 1 from rfl, Nat.reduceMul, Nat.reduceEqDiff, Go.Addr.add, ↓reduceIte] at hx247_11)
                      (try simp only [show (1 : Int).toNat = 1 from rfl, Nat.reduceMul, Nat.reduceEqDiff, Go.Addr.add, ↓reduceIte] at hx247_12)
                      (try simp only [show (1 : Int).toNat = 1 from rfl, Nat.reduceMul, Nat.reduceEqDiff, Go.Addr.add, ↓reduceIte] at hx247_13)
                      (try simp only [show (1 : Int).toNat = 1 from rfl, Nat.reduceMul, Nat.reduceEqDiff, Go.Addr.add, ↓reduceIte] at hx247_14)
                      (try simp only [show (1 : Int).toNat = 1 from rfl, Nat.reduceMul, Nat.reduceEqDiff, Go.Addr.add, ↓reduceIte] at hx247_15)
                      have qi247 : (1 < x1_1.length) = True := eq_true (by omega)
                      (try rw [show ((1 : Int)).toNat = 1 from rfl] at hx247_0)
                      (try rw [show 1 * 16 = 16 from rfl] at hx247_0)
                      (try rw [show ((1 : Int)).toNat = 1 from rfl] at hx247_1)
                      (try rw [show 1 * 16 = 16 from rfl] at hx247_1)
                      (try rw [show ((1 : Int)).toNat = 1 from rfl] at hx247_2)
                      (try rw [show 1 * 16 = 16 from rfl] at hx247_2)
                      (try rw [show ((1 : Int)).toNat = 1 from rfl] at hx247_3)
                      (try rw [show 1 * 16 = 16 from rfl] at hx247_3)
                      (try rw [show ((1 : Int)).toNat = 1 from rfl] at hx247_4)
                      (try rw [show 1 * 16 = 16 from rfl] at hx247_4)
                      (try rw [show ((1 : Int)).toNat = 1 from rfl] at hx247_5)
                      (try rw [show 1 * 16 = 16 from rfl] at hx247_5)
                      (try rw [show ((1 : Int)).toNat = 1 from rfl] at hx247_6)
                      (try rw [show 1 * 16 = 16 from rfl] at hx247_6)
                      (try rw [show ((1 : Int)).toNat = 1 from rfl] at hx247_7)
                      (try rw [show 1 * 16 = 16 from rfl] at hx247_7)
                      (try rw [show ((1 : Int)).toNat = 1 from rfl] at hx247_8)
                      (try rw [show 1 * 16 = 16 from rfl] at hx247_8)
                      (try rw [show ((1 : Int)).toNat = 1 from rfl] at hx247_9)
                      (try rw [show 1 * 16 = 16 from rfl] at hx247_9)
                      (try rw [show ((1 : Int)).toNat = 1 from rfl] at hx247_10)
                      (try rw [show 1 * 16 = 16 from rfl] at hx247_10)
                      (try rw [show ((1 : Int)).toNat = 1 from rfl] at hx247_11)
                      (try rw [show 1 * 16 = 16 from rfl] at hx247_11)
                      (try rw [show ((1 : Int)).toNat = 1 from rfl] at hx247_12)
                      (try rw [show 1 * 16 = 16 from rfl] at hx247_12)
                      (try rw [show ((1 : Int)).toNat = 1 from rfl] at hx247_13)
                      (try rw [show 1 * 16 = 16 from rfl] at hx247_13)
                      (try rw [show ((1 : Int)).toNat = 1 from rfl] at hx247_14)
                      (try rw [show 1 * 16 = 16 from rfl] at hx247_14)
                      (try rw [show ((1 : Int)).toNat = 1 from rfl] at hx247_15)
                      (try rw [show 1 * 16 = 16 from rfl] at hx247_15)
                      replace p247 := eq_true p247
                      replace q247 := eq_true q247
                      have p14 : 0 ≤ (1 : Int) := (by omega)
                      have q14 : (1 : Int) < ((x1_1.length : Int) : Int) := of_decide_eq_true (by first | (with_reducible assumption) | assumption)
                      have qi14 : (1 < x1_1.length) = True := eq_true (by omega)
                      obtain ⟨go14, co14, eo14, gb14, gl14, cl14, HG14⟩ := Kd.R_form HO_1.out (by omega)
                      (first | cases eo14 | (injection eo14 with ea_ en_ ec_; (first | subst ea_ | (injection ea_ with ea_; subst ea_)); subst ec_; clear en_))
                      have GB14 := Aside0.mk gb14
                      have GG14 := Aside0.mk HG14
                      clear gb14 gl14 HG14
                      (first | simp only [add_plain] at hx247_0 | skip)
                      (first | simp only [add_plain] at hx247_1 | skip)
                      (first | simp only [add_plain] at hx247_2 | skip)
                      (first | simp only [add_plain] at hx247_3 | skip)
                      (first | simp only [add_plain] at hx247_4 | skip)
                      (first | simp only [add_plain] at hx247_5 | skip)
                      (first | simp only [add_plain] at hx247_6 | skip)
                      (first | simp only [add_plain] at hx247_7 | skip)
                      (first | simp only [add_plain] at hx247_8 | skip)
                      (first | simp only [add_plain] at hx247_9 | skip)
                      (first | simp only [add_plain] at hx247_10 | skip)
                      (first | simp only [add_plain] at hx247_11 | skip)
                      (first | simp only [add_plain] at hx247_12 | skip)
                      (first | simp only [add_plain] at hx247_13 | skip)
                      (first | simp only [add_plain] at hx247_14 | skip)
                      (first | simp only [add_plain] at hx247_15 | skip)
                      obtain ⟨ce14, hcl14, hM14, hcc14, hfr14⟩ := Kd.R_elem HO_1.out z22 (1 : Int) p14 q14
                      obtain rfl := k22_openM hM14
                      have hx14_0 : World.cell? _ ⟨go14, (1 : Int).toNat * 16, none⟩ = some (.int .u8 ((rd_T22 x1_1 1).f0)) := hcc14 0 _ rfl
                      have hx14_1 : World.cell? _ ⟨go14, (1 : Int).toNat * 16 + 1, none⟩ = some (.int .u8 ((rd_T22 x1_1 1).f1)) := hcc14 1 _ rfl
                      have hx14_2 : World.cell? _ ⟨go14, (1 : Int).toNat * 16 + 2, none⟩ = some (.int .u8 ((rd_T22 x1_1 1).f2)) := hcc14 2 _ rfl
                      have hx14_3 : World.cell? _ ⟨go14, (1 : Int).toNat * 16 + 3, none⟩ = some (.int .u8 ((rd_T22 x1_1 1).f3)) := hcc14 3 _ rfl
                      have hx14_4 : World.cell? _ ⟨go14, (1 : Int).toNat * 16 + 4, none⟩ = some (.int .u8 ((rd_T22 x1_1 1).f4)) := hcc14 4 _ rfl
                      have hx14_5 : World.cell? _ ⟨go14, (1 : Int).toNat * 16 + 5, none⟩ = some (.int .u8 ((rd_T22 x1_1 1).f5)) := hcc14 5 _ rfl
                      have hx14_6 : World.cell? _ ⟨go14, (1 : Int).toNat * 16 + 6, none⟩ = some (.int .u8 ((rd_T22 x1_1 1).f6)) := hcc14 6 _ rfl
                      have hx14_7 : World.cell? _ ⟨go14, (1 : Int).toNat * 16 + 7, none⟩ = some (.int .u8 ((rd_T22 x1_1 1).f7)) := hcc14 7 _ rfl
                      have hx14_8 : World.cell? _ ⟨go14, (1 : Int).toNat * 16 + 8, none⟩ = some (.int .u8 ((rd_T22 x1_1 1).f8)) := hcc14 8 _ rfl
                      have hx14_9 : World.cell? _ ⟨go14, (1 : Int).toNat * 16 + 9, none⟩ = some (.int .u8 ((rd_T22 x1_1 1).f9)) := hcc14 9 _ rfl
                      have hx14_10 : World.cell? _ ⟨go14, (1 : Int).toNat * 16 + 10, none⟩ = some (.int .u8 ((rd_T22 x1_1 1).f10)) := hcc14 10 _ rfl
                      have hx14_11 : World.cell? _ ⟨go14, (1 : Int).toNat * 16 + 11, none⟩ = some (.int .u8 ((rd_T22 x1_1 1).f11)) := hcc14 11 _ rfl
                      have hx14_12 : World.cell? _ ⟨go14, (1 : Int).toNat * 16 + 12, none⟩ = some (.int .u8 ((rd_T22 x1_1 1).f12)) := hcc14 12 _ rfl
                      have hx14_13 : World.cell? _ ⟨go14, (1 : Int).toNat * 16 + 13, none⟩ = some (.int .u8 ((rd_T22 x1_1 1).f13)) := hcc14 13 _ rfl
                      have hx14_14 : World.cell? _ ⟨go14, (1 : Int).toNat * 16 + 14, none⟩ = some (.int .u8 ((rd_T22 x1_1 1).f14)) := hcc14 14 _ rfl
                      have hx14_15 : World.cell? _ ⟨go14, (1 : Int).toNat * 16 + 15, none⟩ = some (.int .u8 ((rd_T22 x1_1 1).f15)) := hcc14 15 _ rfl
                      have hf14_0 : World.frozen? _ ⟨go14, (1 : Int).toNat * 16, none⟩ = false := hfr14 0
                      have hf14_1 : World.frozen? _ ⟨go14, (1 : Int).toNat * 16 + 1, none⟩ = false := hfr14 1
                      have hf14_2 : World.frozen? _ ⟨go14, (1 : Int).toNat * 16 + 2, none⟩ = false := hfr14 2
                      have hf14_3 : World.frozen? _ ⟨go14, (1 : Int).toNat * 16 + 3, none⟩ = false := hfr14 3
                      have hf14_4 : World.frozen? _ ⟨go14, (1 : Int).toNat * 16 + 4, none⟩ = false := hfr14 4
                      have hf14_5 : World.frozen? _ ⟨go14, (1 : Int).toNat * 16 + 5, none⟩ = false := hfr14 5
                      have hf14_6 : World.frozen? _ ⟨go14, (1 : Int).toNat * 16 + 6, none⟩ = false := hfr14 6
                      have hf14_7 : World.frozen? _ ⟨go14, (1 : Int).toNat * 16 + 7, none⟩ = false := hfr14 7
                      have hf14_8 : World.frozen? _ ⟨go14, (1 : Int).toNat * 16 + 8, none⟩ = false := hfr14 8
                      have hf14_9 : World.frozen? _ ⟨go14, (1 : Int).toNat * 16 + 9, none⟩ = false := hfr14 9
                      have hf14_10 : World.frozen? _ ⟨go14, (1 : Int).toNat * 16 + 10, none⟩ = false := hfr14 10
                      have hf14_11 : World.frozen? _ ⟨go14, (1 : Int).toNat * 16 + 11, none⟩ = false := hfr14 11
                      have hf14_12 : World.frozen? _ ⟨go14, (1 : Int).toNat * 16 + 12, none⟩ = false := hfr14 12
                      have hf14_13 : World.frozen? _ ⟨go14, (1 : Int).toNat * 16 + 13, none⟩ = false := hfr14 13
                      have hf14_14 : World.frozen? _ ⟨go14, (1 : Int).toNat * 16 + 14, none⟩ = false := hfr14 14
                      have hf14_15 : World.frozen? _ ⟨go14, (1 : Int).toNat * 16 + 15, none⟩ = false := hfr14 15
                      clear hcl14 hcc14 hfr14 hM14
                      (try rw [show ((1 : Int)).toNat = 1 from rfl] at hx14_0)
                      (try simp only [Nat.reduceMul, Nat.zero_mul, Nat.zero_add, Nat.reduceAdd] at hx14_0)
                      (try rw [show ((1 : Int)).toNat = 1 from rfl] at hf14_0)
                      (try simp only [Nat.reduceMul, Nat.zero_mul, Nat.zero_add, Nat.reduceAdd] at hf14_0)
                      (try rw [show ((1 : Int)).toNat = 1 from rfl] at hx14_1)
                      (try simp only [Nat.reduceMul, Nat.zero_mul, Nat.zero_add, Nat.reduceAdd] at hx14_1)
                      (try rw [show ((1 : Int)).toNat = 1 from rfl] at hf14_1)
                      (try simp only [Nat.reduceMul, Nat.zero_mul, Nat.zero_add, Nat.reduceAdd] at hf14_1)
                      (try rw [show ((1 : Int)).toNat = 1 from rfl] at hx14_2)
                      (try simp only [Nat.reduceMul, Nat.zero_mul, Nat.zero_add, Nat.reduceAdd] at hx14_2)
                      (try rw [show ((1 : Int)).toNat = 1 from rfl] at hf14_2)
                      (try simp only [Nat.reduceMul, Nat.zero_mul, Nat.zero_add, Nat.reduceAdd] at hf14_2)
                      (try rw [show ((1 : Int)).toNat = 1 from rfl] at hx14_3)
                      (try simp only [Nat.reduceMul, Nat.zero_mul, Nat.zero_add, Nat.reduceAdd] at hx14_3)
                      (try rw [show ((1 : Int)).toNat = 1 from rfl] at hf14_3)
                      (try simp only [Nat.reduceMul, Nat.zero_mul, Nat.zero_add, Nat.reduceAdd] at hf14_3)
                      (try rw [show ((1 : Int)).toNat = 1 from rfl] at hx14_4)
                      (try simp only [Nat.reduceMul, Nat.zero_mul, Nat.zero_add, Nat.reduceAdd] at hx14_4)
                      (try rw [show ((1 : Int)).toNat = 1 from rfl] at hf14_4)
                      (try simp only [Nat.reduceMul, Nat.zero_mul, Nat.zero_add, Nat.reduceAdd] at hf14_4)
                      (try rw [show ((1 : Int)).toNat = 1 from rfl] at hx14_5)
                      (try simp only [Nat.reduceMul, Nat.zero_mul, Nat.zero_add, Nat.reduceAdd] at hx14_5)
                      (try rw [show ((1 : Int)).toNat = 1 from rfl] at hf14_5)
                      (try simp only [Nat.reduceMul, Nat.zero_mul, Nat.zero_add, Nat.reduceAdd] at hf14_5)
                      (try rw [show ((1 : Int)).toNat = 1 from rfl] at hx14_6)
                      (try simp only [Nat.reduceMul, Nat.zero_mul, Nat.zero_add, Nat.reduceAdd] at hx14_6)
                      (try rw [show ((1 : Int)).toNat = 1 from rfl] at hf14_6)
                      (try simp only [Nat.reduceMul, Nat.zero_mul, Nat.zero_add, Nat.reduceAdd] at hf14_6)
                      (try rw [show ((1 : Int)).toNat = 1 from rfl] at hx14_7)
                      (try simp only [Nat.reduceMul, Nat.zero_mul, Nat.zero_add, Nat.reduceAdd] at hx14_7)
                      (try rw [show ((1 : Int)).toNat = 1 from rfl] at hf14_7)
                      (try simp only [Nat.reduceMul, Nat.zero_mul, Nat.zero_add, Nat.reduceAdd] at hf14_7)
                      (try rw [show ((1 : Int)).toNat = 1 from rfl] at hx14_8)
                      (try simp only [Nat.reduceMul, Nat.zero_mul, Nat.zero_add, Nat.reduceAdd] at hx14_8)
                      (try rw [show ((1 : Int)).toNat = 1 from rfl] at hf14_8)
                      (try simp only [Nat.reduceMul, Nat.zero_mul, Nat.zero_add, Nat.reduceAdd] at hf14_8)
                      (try rw [show ((1 : Int)).toNat = 1 from rfl] at hx14_9)
                      (try simp only [Nat.reduceMul, Nat.zero_mul, Nat.zero_add, Nat.reduceAdd] at hx14_9)
                      (try rw [show ((1 : Int)).toNat = 1 from rfl] at hf14_9)
                      (try simp only [Nat.reduceMul, Nat.zero_mul, Nat.zero_add, Nat.reduceAdd] at hf14_9)
                      (try rw [show ((1 : Int)).toNat = 1 from rfl] at hx14_10)
                      (try simp only [Nat.reduceMul, Nat.zero_mul, Nat.zero_add, Nat.reduceAdd] at hx14_10)
                      (try rw [show ((1 : Int)).toNat = 1 from rfl] at hf14_10)
                      (try simp only [Nat.reduceMul, Nat.zero_mul, Nat.zero_add, Nat.reduceAdd] at hf14_10)
                      (try rw [show ((1 : Int)).toNat = 1 from rfl] at hx14_11)
                      (try simp only [Nat.reduceMul, Nat.zero_mul, Nat.zero_add, Nat.reduceAdd] at hx14_11)
                      (try rw [show ((1 : Int)).toNat = 1 from rfl] at hf14_11)
                      (try simp only [Nat.reduceMul, Nat.zero_mul, Nat.zero_add, Nat.reduceAdd] at hf14_11)
                      (try rw [show ((1 : Int)).toNat = 1 from rfl] at hx14_12)
                      (try simp only [Nat.reduceMul, Nat.zero_mul, Nat.zero_add, Nat.reduceAdd] at hx14_12)
                      (try rw [show ((1 : Int)).toNat = 1 from rfl] at hf14_12)
                      (try simp only [Nat.reduceMul, Nat.zero_mul, Nat.zero_add, Nat.reduceAdd] at hf14_12)
                      (try rw [show ((1 : Int)).toNat = 1 from rfl] at hx14_13)
                      (try simp only [Nat.reduceMul, Nat.zero_mul, Nat.zero_add, Nat.reduceAdd] at hx14_13)
                      (try rw [show ((1 : Int)).toNat = 1 from rfl] at hf14_13)
                      (try simp only [Nat.reduceMul, Nat.zero_mul, Nat.zero_add, Nat.reduceAdd] at hf14_13)
                      (try rw [show ((1 : Int)).toNat = 1 from rfl] at hx14_14)
                      (try simp only [Nat.reduceMul, Nat.zero_mul, Nat.zero_add, Nat.reduceAdd] at hx14_14)
                      (try rw [show ((1 : Int)).toNat = 1 from rfl] at hf14_14)
                      (try simp only [Nat.reduceMul, Nat.zero_mul, Nat.zero_add, Nat.reduceAdd] at hf14_14)
                      (try rw [show ((1 : Int)).toNat = 1 from rfl] at hx14_15)
                      (try simp only [Nat.reduceMul, Nat.zero_mul, Nat.zero_add, Nat.reduceAdd] at hx14_15)
                      (try rw [show ((1 : Int)).toNat = 1 from rfl] at hf14_15)
                      (try simp only [Nat.reduceMul, Nat.zero_mul, Nat.zero_add, Nat.reduceAdd] at hf14_15)
                      replace p14 := eq_true p14
                      replace q14 := eq_true q14
                      obtain ⟨ce34, hcl34, hM34, hcc34, hfr34⟩ := Kd.R_elem HO_1.out z22 (1 : Int) (by omega) (by have h_ : (1 : Int) < ((x1_1.length : Int) : Int) := of_decide_eq_true (by first | (with_reducible assumption) | assumption); first | exact h_ | (have e_ := (Kd.R_reads' HO_1.out).1; omega) | simpa using h_)
                      obtain rfl := k22_openM hM34
                      have HP34 := (Kd.R_seg HO_1.out (1 : Int) (by omega) (by have h_ : (1 : Int) < ((x1_1.length : Int) : Int) := of_decide_eq_true (by first | (with_reducible assumption) | assumption); first | exact h_ | (have e_ := (Kd.R_reads' HO_1.out).1; omega) | simpa using h_) (seg := [.int .u8 ((1 - ((rd_T22 x1_1 1).f3)) % 256)]) (j := 3) hcl34 hcc34 (show 4 ≤ 16 from by decide) (x' := (⟨(rd_T22 x1_1 1).f0, (rd_T22 x1_1 1).f1, (rd_T22 x1_1 1).f2, (1 - ((rd_T22 x1_1 1).f3)) % 256, (rd_T22 x1_1 1).f4, (rd_T22 x1_1 1).f5, (rd_T22 x1_1 1).f6, (rd_T22 x1_1 1).f7, (rd_T22 x1_1 1).f8, (rd_T22 x1_1 1).f9, (rd_T22 x1_1 1).f10, (rd_T22 x1_1 1).f11, (rd_T22 x1_1 1).f12, (rd_T22 x1_1 1).f13, (rd_T22 x1_1 1).f14, (rd_T22 x1_1 1).f15⟩ : S22)) (k22_mkM _ _ _ (⟨(rd_T22 x1_1 1).f0, (rd_T22 x1_1 1).f1, (rd_T22 x1_1 1).f2, (1 - ((rd_T22 x1_1 1).f3)) % 256, (rd_T22 x1_1 1).f4, (rd_T22 x1_1 1).f5, (rd_T22 x1_1 1).f6, (rd_T22 x1_1 1).f7, (rd_T22 x1_1 1).f8, (rd_T22 x1_1 1).f9, (rd_T22 x1_1 1).f10, (rd_T22 x1_1 1).f11, (rd_T22 x1_1 1).f12, (rd_T22 x1_1 1).f13, (rd_T22 x1_1 1).f14, (rd_T22 x1_1 1).f15⟩ : S22) ) (fun _ hk => hk)).1
                      rw [← Ny248.out] at HP34
                      have HQ34 := Aside0.mk HP34
                      clear hcl34 hcc34 hfr34 hM34 HP34
                      refine start_ (n := 9) (S := fun w' => w'.cell? ⟨go14, 16, none⟩ = some (.int .u8 ((rd_T22 x1_1 1).f0)) ∧ w'.cell? ⟨go14, 17, none⟩ = some (.int .u8 ((rd_T22 x1_1 1).f1)) ∧ w'.cell? ⟨go14, 18, none⟩ = some (.int .u8 ((rd_T22 x1_1 1).f2)) ∧ w'.cell? ⟨go14, 19, none⟩ = some (.int .u8 ((rd_T22 x1_1 1).f3)) ∧ w'.cell? ⟨go14, 20, none⟩ = some (.int .u8 ((rd_T22 x1_1 1).f4)) ∧ w'.cell? ⟨go14, 21, none⟩ = some (.int .u8 ((rd_T22 x1_1 1).f5)) ∧ w'.cell? ⟨go14, 22, none⟩ = some (.int .u8 ((rd_T22 x1_1 1).f6)) ∧ w'.cell? ⟨go14, 23, none⟩ = some (.int .u8 ((rd_T22 x1_1 1).f7)) ∧ w'.cell? ⟨go14, 24, none⟩ = some (.int .u8 ((rd_T22 x1_1 1).f8)) ∧ w'.cell? ⟨go14, 25, none⟩ = some (.int .u8 ((rd_T22 x1_1 1).f9)) ∧ w'.cell? ⟨go14, 26, none⟩ = some (.int .u8 ((rd_T22 x1_1 1).f10)) ∧ w'.cell? ⟨go14, 27, none⟩ = some (.int .u8 ((rd_T22 x1_1 1).f11)) ∧ w'.cell? ⟨go14, 28, none⟩ = some (.int .u8 ((rd_T22 x1_1 1).f12)) ∧ w'.cell? ⟨go14, 29, none⟩ = some (.int .u8 ((rd_T22 x1_1 1).f13)) ∧ w'.cell? ⟨go14, 30, none⟩ = some (.int .u8 ((rd_T22 x1_1 1).f14)) ∧ w'.cell? ⟨go14, 31, none⟩ = some (.int .u8 ((rd_T22 x1_1 1).f15))) (ds := [8]) #[false, false, false, false, false, false, false, false, false] (by kernel_rfl) rfl rfl ⟨hx247_0, hx247_1, hx247_2, hx247_3, hx247_4, hx247_5, hx247_6, hx247_7, hx247_8, hx247_9, hx247_10, hx247_11, hx247_12, hx247_13, hx247_14, hx247_15⟩ (fun hHeld => ?_); refine with_tabW perilunelaw32_UplinkKnown.tab9 perilunelaw32_UplinkKnown.bits9 (fun HT_ HW_ => ?_)
                      generalize w32.drew = w33 at HO_1 HO_2 HO243 BK246 HB GG14 HQ34 hf14_0 hf14_1 hf14_10 hf14_11 hf14_12 hf14_13 hf14_14 hf14_15 hf14_2 hf14_3 hf14_4 hf14_5 hf14_6 hf14_7 hf14_8 hf14_9 hx14_0 hx14_1 hx14_10 hx14_11 hx14_12 hx14_13 hx14_14 hx14_15 hx14_2 hx14_3 hx14_4 hx14_5 hx14_6 hx14_7 hx14_8 hx14_9 hx247_0 hx247_1 hx247_10 hx247_11 hx247_12 hx247_13 hx247_14 hx247_15 hx247_2 hx247_3 hx247_4 hx247_5 hx247_6 hx247_7 hx247_8 hx247_9 hHeld ⊢
                      refine pure_ (i := 0) (N := some 36) (v := ?_) (a' := ?_) #[true, false, false, false, false, false, false, false, false] rfl rfl (any_of HT_.out (by kernel_rfl)) (fun _ _ _ h => h) (Or.inl ⟨by rfl, ?_⟩) ?_ ?_
                      rotate_left
                      · intro w'
                        go_simp
                        with_reducible rfl
                      rotate_left
                      · simp only [Act.put, List.setIfInBounds_toArray, List.set_cons_zero, List.set_cons_succ, i64_w, i32_w]
                        rfl
                      refine pure_ (i := 1) (N := some 37) (v := ?_) (a' := ?_) #[true, true, false, false, false, false, false, false, false] rfl rfl (any_of HT_.out (by kernel_rfl)) (fun _ _ _ h => h) (Or.inl ⟨by rfl, ?_⟩) ?_ ?_
                      rotate_left
                      · intro w'
                        go_simp
                        with_reducible rfl
                      rotate_left
                      · simp only [Act.put, List.setIfInBounds_toArray, List.set_cons_zero, List.set_cons_succ, i64_w, i32_w]
                        rfl
                      refine pure_ (i := 2) (N := some 38) (v := ?_) (a' := ?_) #[true, true, true, false, false, false, false, false, false] rfl rfl (any_of HT_.out (by kernel_rfl)) (fun _ _ _ h => h) (Or.inl ⟨by rfl, ?_⟩) ?_ ?_
                      rotate_left
                      · intro w'
                        go_simp
                        with_reducible rfl
                      rotate_left
                      · simp only [Act.put, List.setIfInBounds_toArray, List.set_cons_zero, List.set_cons_succ, i64_w, i32_w]
                        rfl
                      refine pure_ (i := 3) (N := some 39) (v := ?_) (a' := ?_) #[true, true, true, true, false, false, false, false, false] rfl rfl (any_of HT_.out (by kernel_rfl)) (fun _ _ _ h => h) (Or.inl ⟨by rfl, ?_⟩) ?_ ?_
                      rotate_left
                      · intro w'
                        go_simp
                        with_reducible rfl
                      rotate_left
                      · simp only [Act.put, List.setIfInBounds_toArray, List.set_cons_zero, List.set_cons_succ, i64_w, i32_w]
                        rfl
                      refine pure_ (i := 6) (N := some 42) (v := ?_) (a' := ?_) #[true, true, true, true, false, false, true, false, false] rfl rfl (any_of HT_.out (by kernel_rfl)) (fun _ _ _ h => h) (Or.inl ⟨by rfl, ?_⟩) ?_ ?_
                      rotate_left
                      · intro w'
                        go_simp
                        with_reducible rfl
                      rotate_left
                      · simp only [Act.put, List.setIfInBounds_toArray, List.set_cons_zero, List.set_cons_succ, i64_w, i32_w]
                        rfl
                      refine take_ (i := 4) (N := some 40) (v := ?_) (a' := ?_) #[true, true, true, true, true, false, true, false, false] rfl rfl (take_ofW HT_.out HW_.out (by kernel_rfl)) (fun _ _ _ h => h) (Or.inl ⟨by rfl, ?_⟩) hHeld ?_ ?_
                      rotate_left
                      · rintro w' ⟨s0, s1, s2, s3, s4, s5, s6, s7, s8, s9, s10, s11, s12, s13, s14, s15⟩
                        go_simp
                        with_reducible rfl
                      rotate_left
                      · simp only [Act.put, List.setIfInBounds_toArray, List.set_cons_zero, List.set_cons_succ, i64_w, i32_w]
                        rfl
                      refine pure_ (i := 5) (N := some 41) (v := ?_) (a' := ?_) #[true, true, true, true, true, true, true, false, false] rfl rfl (any_of HT_.out (by kernel_rfl)) (fun _ _ _ h => h) (Or.inl ⟨by rfl, ?_⟩) ?_ ?_
                      rotate_left
                      · intro w'
                        go_simp
                        with_reducible rfl
                      rotate_left
                      · simp only [Act.put, List.setIfInBounds_toArray, List.set_cons_zero, List.set_cons_succ, i64_w, i32_w]
                        rfl
                      refine pure_ (i := 7) (N := some 43) (v := ?_) (a' := ?_) #[true, true, true, true, true, true, true, true, false] rfl rfl (any_of HT_.out (by kernel_rfl)) (fun _ _ _ h => h) (Or.inl ⟨by rfl, ?_⟩) ?_ ?_
                      rotate_left
                      · intro w'
                        go_simp
                        with_reducible rfl
                      rotate_left
                      · simp only [Act.put, List.setIfInBounds_toArray, List.set_cons_zero, List.set_cons_succ, i64_w, i32_w]
                        rfl
                      refine last_ (i := 8) (N := none) #[true, true, true, true, true, true, true, true, true] rfl rfl (one_of HT_.out (by kernel_rfl)) (by decide) (fun K hK => ?_)
                      refine skip_ (w1 := ?_) (by rfl) rfl ?_ ?_
                      rotate_left
                      · go_simp
                        rfl
                      refine hK.out _ _ ?_
                      clear hK K
                      refine done_ (done_of HT_.out (by kernel_rfl)) ?_
                      have n0_ : Aside0 (Kd.R k22 22 (w33.setCell ⟨go14, 19, none⟩ (.int .u8 ((1 - ((rd_T22 x1_1 1).f3)) % 256))) w.heap.size (fun _ => True) (.slice (some ⟨go14, 0, none⟩) x1_1.length co28) y248) := ⟨by (with_reducible repeat (first | apply Kd.R_alloc | apply Kd.R_drewN | apply Kd.R_drew)); exact HQ34.out⟩
                      have n1_ : Aside0 (Kd.R (Kd.int .i64) 3 (w33.setCell ⟨go14, 19, none⟩ (.int .u8 ((1 - ((rd_T22 x1_1 1).f3)) % 256))) w.heap.size (fun k_ => some k_ ≠ (v242 : Value).ownBlock) (.slice Ao27 y216.length co27) y216) := ⟨by (with_reducible repeat (first | apply Kd.R_alloc | apply Kd.R_drewN | apply Kd.R_drew)); exact Kd.R_mono (Kd.R_far (p := ⟨go14, 19, none⟩) (Kd.R_types HO_2.out GG14.out (by decide)) (fun _ hk => hk.2) (.int .u8 ((1 - ((rd_T22 x1_1 1).f3)) % 256))) (fun _ hk => hk.1)⟩
                      have n2_ : Aside0 (Kd.R (Kd.int .i64) 3 (w33.setCell ⟨go14, 19, none⟩ (.int .u8 ((1 - ((rd_T22 x1_1 1).f3)) % 256))) w.heap.size (fun k_ => some k_ ≠ (.slice Ao27 y216.length co27 : Value).ownBlock) v242 t241) := ⟨by (with_reducible repeat (first | apply Kd.R_alloc | apply Kd.R_drewN | apply Kd.R_drew)); exact Kd.R_mono (Kd.R_far (p := ⟨go14, 19, none⟩) (Kd.R_types HO243.out GG14.out (by decide)) (fun _ hk => hk.2) (.int .u8 ((1 - ((rd_T22 x1_1 1).f3)) % 256))) (fun _ hk => hk.1)⟩
                      have n3_ : Aside0 ((w33.setCell ⟨go14, 19, none⟩ (.int .u8 ((1 - ((rd_T22 x1_1 1).f3)) % 256))).heap[gb246]? = some (.cells #[.bool t244, .int .i64 t245] 31 (0, 0))) := ⟨by (with_reducible repeat (first | refine blk_drewN ?_ _ | refine blk_drew ?_ | refine blk_alloc ?_ _)); refine blk_far ?_ (by have h_ := Kd.R_ne HO_1.out BK246.out (by decide); intro e_; exact h_ (by rw [e_]; rfl)) _; (with_reducible repeat (first | refine blk_drewN ?_ _ | refine blk_drew ?_ | refine blk_alloc ?_ _)); exact BK246.out⟩
                      have n4_ : Aside0 (Below w.heap.size w (w33.setCell ⟨go14, 19, none⟩ (.int .u8 ((1 - ((rd_T22 x1_1 1).f3)) % 256)))) := ⟨by repeat (first | (with_reducible first | exact HB.out | apply below_alloc | apply pw_below_drewN | apply below_drew1 | refine below_set ?_ GB14.out | refine below_set ?_ GE246.out) | exact HB.out)⟩
                      (try clear HO_1)
                      (try clear HO_2)
                      (try clear HO243)
                      (try clear BK246)
                      (try clear HB)
                      (try rw [show ∀ n : Int, IntKind.u8.wrap n = n % 256 from fun n => IntKind.wrap_u8 n])
                      generalize (w33.setCell ⟨go14, 19, none⟩ (.int .u8 ((1 - ((rd_T22 x1_1 1).f3)) % 256))) = w35 at n0_ n1_ n2_ n3_ n4_ ⊢
                      have HO_1 := n0_
                      have HO_2 := n1_
                      have HO243 := n2_
                      have BK246 := n3_
                      have HB := n4_
                      clear n0_ n1_ n2_ n3_ n4_
                      have p16 : 0 ≤ (4 : Int) := (by omega)
                      have q16 : (4 : Int) < ((x1_1.length : Int) : Int) := of_decide_eq_true (by first | (with_reducible assumption) | assumption)
                      have qi16 : (4 < x1_1.length) = True := eq_true (by omega)
                      obtain ⟨ce16, hcl16, hM16, hcc16, hfr16⟩ := Kd.R_elem HO_1.out z22 (4 : Int) p16 q16
                      obtain rfl := k22_openM hM16
                      have hx16_0 : w35.cell? ⟨go14, (4 : Int).toNat * 16, none⟩ = some (.int .u8 ((rd_T22 y248 4).f0)) := hcc16 0 _ rfl
                      have hx16_1 : w35.cell? ⟨go14, (4 : Int).toNat * 16 + 1, none⟩ = some (.int .u8 ((rd_T22 y248 4).f1)) := hcc16 1 _ rfl
                      have hx16_2 : w35.cell? ⟨go14, (4 : Int).toNat * 16 + 2, none⟩ = some (.int .u8 ((rd_T22 y248 4).f2)) := hcc16 2 _ rfl
                      have hx16_3 : w35.cell? ⟨go14, (4 : Int).toNat * 16 + 3, none⟩ = some (.int .u8 ((rd_T22 y248 4).f3)) := hcc16 3 _ rfl
                      have hx16_4 : w35.cell? ⟨go14, (4 : Int).toNat * 16 + 4, none⟩ = some (.int .u8 ((rd_T22 y248 4).f4)) := hcc16 4 _ rfl
                      have hx16_5 : w35.cell? ⟨go14, (4 : Int).toNat * 16 + 5, none⟩ = some (.int .u8 ((rd_T22 y248 4).f5)) := hcc16 5 _ rfl
                      have hx16_6 : w35.cell? ⟨go14, (4 : Int).toNat * 16 + 6, none⟩ = some (.int .u8 ((rd_T22 y248 4).f6)) := hcc16 6 _ rfl
                      have hx16_7 : w35.cell? ⟨go14, (4 : Int).toNat * 16 + 7, none⟩ = some (.int .u8 ((rd_T22 y248 4).f7)) := hcc16 7 _ rfl
                      have hx16_8 : w35.cell? ⟨go14, (4 : Int).toNat * 16 + 8, none⟩ = some (.int .u8 ((rd_T22 y248 4).f8)) := hcc16 8 _ rfl
                      have hx16_9 : w35.cell? ⟨go14, (4 : Int).toNat * 16 + 9, none⟩ = some (.int .u8 ((rd_T22 y248 4).f9)) := hcc16 9 _ rfl
                      have hx16_10 : w35.cell? ⟨go14, (4 : Int).toNat * 16 + 10, none⟩ = some (.int .u8 ((rd_T22 y248 4).f10)) := hcc16 10 _ rfl
                      have hx16_11 : w35.cell? ⟨go14, (4 : Int).toNat * 16 + 11, none⟩ = some (.int .u8 ((rd_T22 y248 4).f11)) := hcc16 11 _ rfl
                      have hx16_12 : w35.cell? ⟨go14, (4 : Int).toNat * 16 + 12, none⟩ = some (.int .u8 ((rd_T22 y248 4).f12)) := hcc16 12 _ rfl
                      have hx16_13 : w35.cell? ⟨go14, (4 : Int).toNat * 16 + 13, none⟩ = some (.int .u8 ((rd_T22 y248 4).f13)) := hcc16 13 _ rfl
                      have hx16_14 : w35.cell? ⟨go14, (4 : Int).toNat * 16 + 14, none⟩ = some (.int .u8 ((rd_T22 y248 4).f14)) := hcc16 14 _ rfl
                      have hx16_15 : w35.cell? ⟨go14, (4 : Int).toNat * 16 + 15, none⟩ = some (.int .u8 ((rd_T22 y248 4).f15)) := hcc16 15 _ rfl
                      have hf16_0 : w35.frozen? ⟨go14, (4 : Int).toNat * 16, none⟩ = false := hfr16 0
                      have hf16_1 : w35.frozen? ⟨go14, (4 : Int).toNat * 16 + 1, none⟩ = false := hfr16 1
                      have hf16_2 : w35.frozen? ⟨go14, (4 : Int).toNat * 16 + 2, none⟩ = false := hfr16 2
                      have hf16_3 : w35.frozen? ⟨go14, (4 : Int).toNat * 16 + 3, none⟩ = false := hfr16 3
                      have hf16_4 : w35.frozen? ⟨go14, (4 : Int).toNat * 16 + 4, none⟩ = false := hfr16 4
                      have hf16_5 : w35.frozen? ⟨go14, (4 : Int).toNat * 16 + 5, none⟩ = false := hfr16 5
                      have hf16_6 : w35.frozen? ⟨go14, (4 : Int).toNat * 16 + 6, none⟩ = false := hfr16 6
                      have hf16_7 : w35.frozen? ⟨go14, (4 : Int).toNat * 16 + 7, none⟩ = false := hfr16 7
                      have hf16_8 : w35.frozen? ⟨go14, (4 : Int).toNat * 16 + 8, none⟩ = false := hfr16 8
                      have hf16_9 : w35.frozen? ⟨go14, (4 : Int).toNat * 16 + 9, none⟩ = false := hfr16 9
                      have hf16_10 : w35.frozen? ⟨go14, (4 : Int).toNat * 16 + 10, none⟩ = false := hfr16 10
                      have hf16_11 : w35.frozen? ⟨go14, (4 : Int).toNat * 16 + 11, none⟩ = false := hfr16 11
                      have hf16_12 : w35.frozen? ⟨go14, (4 : Int).toNat * 16 + 12, none⟩ = false := hfr16 12
                      have hf16_13 : w35.frozen? ⟨go14, (4 : Int).toNat * 16 + 13, none⟩ = false := hfr16 13
                      have hf16_14 : w35.frozen? ⟨go14, (4 : Int).toNat * 16 + 14, none⟩ = false := hfr16 14
                      have hf16_15 : w35.frozen? ⟨go14, (4 : Int).toNat * 16 + 15, none⟩ = false := hfr16 15
                      clear hcl16 hcc16 hfr16 hM16
                      (try rw [show ((4 : Int)).toNat = 4 from rfl] at hx16_0)
                      (try simp only [Nat.reduceMul, Nat.zero_mul, Nat.zero_add, Nat.reduceAdd] at hx16_0)
                      (try rw [show ((4 : Int)).toNat = 4 from rfl] at hf16_0)
                      (try simp only [Nat.reduceMul, Nat.zero_mul, Nat.zero_add, Nat.reduceAdd] at hf16_0)
                      (try rw [show ((4 : Int)).toNat = 4 from rfl] at hx16_1)
                      (try simp only [Nat.reduceMul, Nat.zero_mul, Nat.zero_add, Nat.reduceAdd] at hx16_1)
                      (try rw [show ((4 : Int)).toNat = 4 from rfl] at hf16_1)
                      (try simp only [Nat.reduceMul, Nat.zero_mul, Nat.zero_add, Nat.reduceAdd] at hf16_1)
                      (try rw [show ((4 : Int)).toNat = 4 from rfl] at hx16_2)
                      (try simp only [Nat.reduceMul, Nat.zero_mul, Nat.zero_add, Nat.reduceAdd] at hx16_2)
                      (try rw [show ((4 : Int)).toNat = 4 from rfl] at hf16_2)
                      (try simp only [Nat.reduceMul, Nat.zero_mul, Nat.zero_add, Nat.reduceAdd] at hf16_2)
                      (try rw [show ((4 : Int)).toNat = 4 from rfl] at hx16_3)
                      (try simp only [Nat.reduceMul, Nat.zero_mul, Nat.zero_add, Nat.reduceAdd] at hx16_3)
                      (try rw [show ((4 : Int)).toNat = 4 from rfl] at hf16_3)
                      (try simp only [Nat.reduceMul, Nat.zero_mul, Nat.zero_add, Nat.reduceAdd] at hf16_3)
                      (try rw [show ((4 : Int)).toNat = 4 from rfl] at hx16_4)
                      (try simp only [Nat.reduceMul, Nat.zero_mul, Nat.zero_add, Nat.reduceAdd] at hx16_4)
                      (try rw [show ((4 : Int)).toNat = 4 from rfl] at hf16_4)
                      (try simp only [Nat.reduceMul, Nat.zero_mul, Nat.zero_add, Nat.reduceAdd] at hf16_4)
                      (try rw [show ((4 : Int)).toNat = 4 from rfl] at hx16_5)
                      (try simp only [Nat.reduceMul, Nat.zero_mul, Nat.zero_add, Nat.reduceAdd] at hx16_5)
                      (try rw [show ((4 : Int)).toNat = 4 from rfl] at hf16_5)
                      (try simp only [Nat.reduceMul, Nat.zero_mul, Nat.zero_add, Nat.reduceAdd] at hf16_5)
                      (try rw [show ((4 : Int)).toNat = 4 from rfl] at hx16_6)
                      (try simp only [Nat.reduceMul, Nat.zero_mul, Nat.zero_add, Nat.reduceAdd] at hx16_6)
                      (try rw [show ((4 : Int)).toNat = 4 from rfl] at hf16_6)
                      (try simp only [Nat.reduceMul, Nat.zero_mul, Nat.zero_add, Nat.reduceAdd] at hf16_6)
                      (try rw [show ((4 : Int)).toNat = 4 from rfl] at hx16_7)
                      (try simp only [Nat.reduceMul, Nat.zero_mul, Nat.zero_add, Nat.reduceAdd] at hx16_7)
                      (try rw [show ((4 : Int)).toNat = 4 from rfl] at hf16_7)
                      (try simp only [Nat.reduceMul, Nat.zero_mul, Nat.zero_add, Nat.reduceAdd] at hf16_7)
                      (try rw [show ((4 : Int)).toNat = 4 from rfl] at hx16_8)
                      (try simp only [Nat.reduceMul, Nat.zero_mul, Nat.zero_add, Nat.reduceAdd] at hx16_8)
                      (try rw [show ((4 : Int)).toNat = 4 from rfl] at hf16_8)
                      (try simp only [Nat.reduceMul, Nat.zero_mul, Nat.zero_add, Nat.reduceAdd] at hf16_8)
                      (try rw [show ((4 : Int)).toNat = 4 from rfl] at hx16_9)
                      (try simp only [Nat.reduceMul, Nat.zero_mul, Nat.zero_add, Nat.reduceAdd] at hx16_9)
                      (try rw [show ((4 : Int)).toNat = 4 from rfl] at hf16_9)
                      (try simp only [Nat.reduceMul, Nat.zero_mul, Nat.zero_add, Nat.reduceAdd] at hf16_9)
                      (try rw [show ((4 : Int)).toNat = 4 from rfl] at hx16_10)
                      (try simp only [Nat.reduceMul, Nat.zero_mul, Nat.zero_add, Nat.reduceAdd] at hx16_10)
                      (try rw [show ((4 : Int)).toNat = 4 from rfl] at hf16_10)
                      (try simp only [Nat.reduceMul, Nat.zero_mul, Nat.zero_add, Nat.reduceAdd] at hf16_10)
                      (try rw [show ((4 : Int)).toNat = 4 from rfl] at hx16_11)
                      (try simp only [Nat.reduceMul, Nat.zero_mul, Nat.zero_add, Nat.reduceAdd] at hx16_11)
                      (try rw [show ((4 : Int)).toNat = 4 from rfl] at hf16_11)
                      (try simp only [Nat.reduceMul, Nat.zero_mul, Nat.zero_add, Nat.reduceAdd] at hf16_11)
                      (try rw [show ((4 : Int)).toNat = 4 from rfl] at hx16_12)
                      (try simp only [Nat.reduceMul, Nat.zero_mul, Nat.zero_add, Nat.reduceAdd] at hx16_12)
                      (try rw [show ((4 : Int)).toNat = 4 from rfl] at hf16_12)
                      (try simp only [Nat.reduceMul, Nat.zero_mul, Nat.zero_add, Nat.reduceAdd] at hf16_12)
                      (try rw [show ((4 : Int)).toNat = 4 from rfl] at hx16_13)
                      (try simp only [Nat.reduceMul, Nat.zero_mul, Nat.zero_add, Nat.reduceAdd] at hx16_13)
                      (try rw [show ((4 : Int)).toNat = 4 from rfl] at hf16_13)
                      (try simp only [Nat.reduceMul, Nat.zero_mul, Nat.zero_add, Nat.reduceAdd] at hf16_13)
                      (try rw [show ((4 : Int)).toNat = 4 from rfl] at hx16_14)
                      (try simp only [Nat.reduceMul, Nat.zero_mul, Nat.zero_add, Nat.reduceAdd] at hx16_14)
                      (try rw [show ((4 : Int)).toNat = 4 from rfl] at hf16_14)
                      (try simp only [Nat.reduceMul, Nat.zero_mul, Nat.zero_add, Nat.reduceAdd] at hf16_14)
                      (try rw [show ((4 : Int)).toNat = 4 from rfl] at hx16_15)
                      (try simp only [Nat.reduceMul, Nat.zero_mul, Nat.zero_add, Nat.reduceAdd] at hx16_15)
                      (try rw [show ((4 : Int)).toNat = 4 from rfl] at hf16_15)
                      (try simp only [Nat.reduceMul, Nat.zero_mul, Nat.zero_add, Nat.reduceAdd] at hf16_15)
                      replace p16 := eq_true p16
                      replace q16 := eq_true q16
                      have HX36 := Aside0.mk (show Kd.R k22 22 w35 w.heap.size (fun _ => True) (.slice (some ⟨go14, 0, none⟩) x1_1.length co28) y248 from (by (with_reducible repeat (first | apply Kd.R_alloc | apply Kd.R_drewN | apply Kd.R_drew)); exact HO_1.out))
                      obtain ⟨ce36, hcl36, hM36, hcc36, hfr36⟩ := Kd.R_elem HX36.out z22 (4 : Int) (by omega) (by have h_ : (4 : Int) < ((x1_1.length : Int) : Int) := of_decide_eq_true (by first | (with_reducible assumption) | assumption); first | exact h_ | (have e_ := (Kd.R_reads' HO_1.out).1; omega) | simpa using h_)
                      obtain rfl := k22_openM hM36
                      have HP36 := Kd.R_seg HX36.out (4 : Int) (by omega) (by have h_ : (4 : Int) < ((x1_1.length : Int) : Int) := of_decide_eq_true (by first | (with_reducible assumption) | assumption); first | exact h_ | (have e_ := (Kd.R_reads' HO_1.out).1; omega) | simpa using h_) (seg := [.int .u8 2]) (j := 0) hcl36 hcc36 (show 1 ≤ 16 from by decide) (x' := (⟨2, (rd_T22 y248 4).f1, (rd_T22 y248 4).f2, (rd_T22 y248 4).f3, (rd_T22 y248 4).f4, (rd_T22 y248 4).f5, (rd_T22 y248 4).f6, (rd_T22 y248 4).f7, (rd_T22 y248 4).f8, (rd_T22 y248 4).f9, (rd_T22 y248 4).f10, (rd_T22 y248 4).f11, (rd_T22 y248 4).f12, (rd_T22 y248 4).f13, (rd_T22 y248 4).f14, (rd_T22 y248 4).f15⟩ : S22)) (k22_mkM _ _ _ (⟨2, (rd_T22 y248 4).f1, (rd_T22 y248 4).f2, (rd_T22 y248 4).f3, (rd_T22 y248 4).f4, (rd_T22 y248 4).f5, (rd_T22 y248 4).f6, (rd_T22 y248 4).f7, (rd_T22 y248 4).f8, (rd_T22 y248 4).f9, (rd_T22 y248 4).f10, (rd_T22 y248 4).f11, (rd_T22 y248 4).f12, (rd_T22 y248 4).f13, (rd_T22 y248 4).f14, (rd_T22 y248 4).f15⟩ : S22) ) (fun _ hk => hk)
                      have hx36_0 := hcc36 0 _ rfl
                      (try simp only [show (k22).sz = 16 from rfl, Nat.mul_one, Nat.add_zero] at hx36_0)
                      (try rw [show ((4 : Int)).toNat = 4 from rfl] at hx36_0)
                      (try simp only [Nat.reduceMul, Nat.zero_mul, Nat.zero_add, Nat.reduceAdd] at hx36_0)
                      have hf36_0 := hfr36 0
                      (try simp only [show (k22).sz = 16 from rfl, Nat.mul_one, Nat.add_zero] at hf36_0)
                      (try rw [show ((4 : Int)).toNat = 4 from rfl] at hf36_0)
                      (try simp only [Nat.reduceMul, Nat.zero_mul, Nat.zero_add, Nat.reduceAdd] at hf36_0)
                      clear hcl36 hcc36 hfr36 hM36
                      try go_wp2_with (first | ((with_reducible refine gate_store (t := 5) (p := 46) rfl ?_); refine store_event (t := 5) (p := 46) (v := ?vo_w37) (w1 := (w35.setCell ⟨go14, 64, none⟩ (.int .u8 2))) ?hg ?ho ?hn ?hr ?_; (case ho => rfl); (case hg => rfl); (case hn => rfl); (case hr => first | (go_simp; done) | (go_simp; rfl)); intro w37 hw; have hg : w35.grownBy w37 (some go14) := (by rw [hw]; exact HP36.2); have hp_ : Kd.R k22 22 w37 w.heap.size (fun _ => True) (.slice (some ⟨go14, 0, none⟩) x1_1.length co28) y249 := (by rw [hw, Ny249.out]; exact HP36.1); clear HP36; have n0_ := Aside0.mk (hp_); have n1_ := Aside0.mk (Kd.R_over' (v := (.slice (some ⟨go14, 0, none⟩) x1_1.length co28)) (by (with_reducible repeat (first | apply Kd.R_alloc | apply Kd.R_drewN | apply Kd.R_drew)); exact HO_2.out) (Kd.R_typed HO_1.out) (by decide) hg); have n2_ := Aside0.mk (Kd.R_over' (v := (.slice (some ⟨go14, 0, none⟩) x1_1.length co28)) (by (with_reducible repeat (first | apply Kd.R_alloc | apply Kd.R_drewN | apply Kd.R_drew)); exact HO243.out) (Kd.R_typed HO_1.out) (by decide) hg); have n3_ := Aside0.mk (blk_grown (g := gb246) (o := .cells #[.bool t244, .int .i64 t245] 31 (0, 0)) (by (with_reducible repeat (first | refine blk_drewN ?_ _ | refine blk_drew ?_ | refine blk_alloc ?_ _)); exact BK246.out) hg (Kd.R_ne HO_1.out BK246.out (by decide))); have n4_ := Aside0.mk ((by rw [hw]; exact below_set (HB.out) GB14.out : Below w.heap.size w w37)); clear HO_1; clear HO_2; clear HO243; clear BK246; clear HB; have HO_1 := n0_; have HO_2 := n1_; have HO243 := n2_; have BK246 := n3_; have HB := n4_; clear n0_ n1_ n2_ n3_ n4_; clear hg hw hp_) | ((with_reducible refine gate_callee (f := 18) rfl ?_); refine goesL_ (some 49) rfl rfl Try.func18 (by kernel_rfl) rfl #[.slice (some ⟨go14, 0, none⟩) y249.length co28] rfl (by (try simp only [List.map_toArray, List.map_cons, List.map_nil]); first | done | (rw [show y249.length = x1_1.length from (Kd.R_reads' HO_1.out).1.symm] <;> rfl) | rfl | (simp only [List.length_drop, List.length_take]; rfl)) ?_; (with_reducible refine (uplink_All.calls k1 _ _ y249 t250 t253 t254 _ ?side1 ?side2 A17.out).mono ?_); (case side1 => repeat (first | exact (Kd.R_reads' HO_1.out).2.2 | (with_reducible refine Kd.C_alloc ?_ _) | (with_reducible refine Kd.C_drewN ?_ _) | (with_reducible refine Kd.C_drew ?_))); (case side2 => rw [show y249.length = x1_1.length from (Kd.R_reads' HO_1.out).1.symm]; exact (Kd.R_reads' HO_1.out).2.1); rintro e w38 ⟨v251, rfl, ho0, hb⟩; refine ⟨_, rfl, ?_⟩; have n0_ := Aside0.mk (Kd.R_below (by (with_reducible repeat (first | apply Kd.R_alloc | apply Kd.R_drewN | apply Kd.R_drew)); exact HO_1.out) hb); have n1_ := Aside0.mk (Kd.R_elder' (by (with_reducible repeat (first | apply Kd.R_alloc | apply Kd.R_drewN | apply Kd.R_drew)); exact HO_2.out) (Kd.R_base ho0) hb); have n2_ := Aside0.mk (Kd.R_elder' (by (with_reducible repeat (first | apply Kd.R_alloc | apply Kd.R_drewN | apply Kd.R_drew)); exact HO243.out) (Kd.R_base ho0) hb); have n3_ := Aside0.mk (Kd.R_lower (Kd.R_new' (Kd.R_new' ho0 (Kd.R_lt (by (with_reducible repeat (first | apply Kd.R_alloc | apply Kd.R_drewN | apply Kd.R_drew)); exact HO_2.out))) (Kd.R_lt (by (with_reducible repeat (first | apply Kd.R_alloc | apply Kd.R_drewN | apply Kd.R_drew)); exact HO243.out))) (below_size (by repeat (first | (with_reducible first | exact HB.out | apply below_alloc | apply pw_below_drewN | apply below_drew1 | refine below_set ?_ GE246.out) | exact HB.out)))); have n4_ := Aside0.mk (blk_below (g := gb246) (o := .cells #[.bool t244, .int .i64 t245] 31 (0, 0)) (by (with_reducible repeat (first | refine blk_drewN ?_ _ | refine blk_drew ?_ | refine blk_alloc ?_ _)); exact BK246.out) hb); have n5_ := Aside0.mk (below_step (by repeat (first | (with_reducible first | exact HB.out | apply below_alloc | apply pw_below_drewN | apply below_drew1 | refine below_set ?_ GE246.out) | exact HB.out)) hb); clear HO_1; clear HO_2; clear HO243; clear BK246; clear HB; have HO_1 := n0_; have HO_2 := n1_; have HO243 := n2_; have HO252 := n3_; have BK246 := n4_; have HB := n5_; clear n0_ n1_ n2_ n3_ n4_ n5_; (try clear hb); (try clear hb2); (try clear hk); (try clear hi); (try clear ho0)) | ((with_reducible refine gate_dst (N := 9) rfl ?_); (try (refine gate_guard (by rfl) ?_; dsimp only)); refine box_event ?hg (N := 9) ?hd (cs := #[.bool false, .int .i64 0]) (t := 31) ?hr ?_; (case hd => rfl); (case hg => rfl); (case hr => first | (go_simp; done) | (go_simp; rfl)); intro gb255 hg w39 hbox hb; have n0_ := Aside0.mk (Kd.R_below (by (with_reducible repeat (first | apply Kd.R_alloc | apply Kd.R_drewN | apply Kd.R_drew)); exact HO_1.out) hb); have n1_ := Aside0.mk (Kd.R_below (by (with_reducible repeat (first | apply Kd.R_alloc | apply Kd.R_drewN | apply Kd.R_drew)); exact HO_2.out) hb); have n2_ := Aside0.mk (Kd.R_below (by (with_reducible repeat (first | apply Kd.R_alloc | apply Kd.R_drewN | apply Kd.R_drew)); exact HO243.out) hb); have n3_ := Aside0.mk (Kd.R_below (by (with_reducible repeat (first | apply Kd.R_alloc | apply Kd.R_drewN | apply Kd.R_drew)); exact HO252.out) hb); have n4_ := Aside0.mk (blk_below (g := gb246) (o := .cells #[.bool t244, .int .i64 t245] 31 (0, 0)) (by (with_reducible repeat (first | refine blk_drewN ?_ _ | refine blk_drew ?_ | refine blk_alloc ?_ _)); exact BK246.out) hb); have n5_ := Aside0.mk (below_step (by repeat (first | (with_reducible first | exact HB.out | apply below_alloc | apply pw_below_drewN | apply below_drew1 | refine below_set ?_ GE246.out) | exact HB.out)) hb); have n6_ := Aside0.mk (hbox); have n7_ := Aside0.mk ((by rw [hg]; exact (below_size (by repeat (first | (with_reducible first | exact HB.out | apply below_alloc | apply pw_below_drewN | apply below_drew1 | refine below_set ?_ GE246.out) | exact HB.out))) : w.heap.size ≤ gb255)); have n8_ := Aside0.mk ((by rw [hg]; exact (below_size (by repeat (first | (with_reducible first | exact HB.out | apply below_alloc | apply pw_below_drewN | apply below_drew1 | refine below_set ?_ GE246.out) | exact HB.out))) : w.heap.size ≤ gb255)); have n9_ := Aside0.mk ((by rw [hg]; exact Nat.ne_of_lt (blk_lt (g := gb246) (o := .cells #[.bool t244, .int .i64 t245] 31 (0, 0)) (by (with_reducible repeat (first | refine blk_drewN ?_ _ | refine blk_drew ?_ | refine blk_alloc ?_ _)); exact BK246.out)) : gb246 ≠ gb255)); have n10_ := Aside0.mk ((by rw [hg]; exact Nat.ne_of_gt (blk_lt (g := gb246) (o := .cells #[.bool t244, .int .i64 t245] 31 (0, 0)) (by (with_reducible repeat (first | refine blk_drewN ?_ _ | refine blk_drew ?_ | refine blk_alloc ?_ _)); exact BK246.out)) : gb255 ≠ gb246)); clear HO_1; clear HO_2; clear HO243; clear HO252; clear BK246; clear HB; have HO_1 := n0_; have HO_2 := n1_; have HO243 := n2_; have HO252 := n3_; have BK246 := n4_; have HB := n5_; have BK255 := n6_; have GW255 := n7_; have GE255 := n8_; have NB246_255 := n9_; have NB255_246 := n10_; clear n0_ n1_ n2_ n3_ n4_ n5_ n6_ n7_ n8_ n9_ n10_; clear hb hbox hg; have hnb40 := NB255_246.out; have hnc40 := NB246_255.out; have hcz41_0 : w39.cell? ⟨gb255, 0, none⟩ = some (.bool false) := (blk_cell BK255.out 0).trans rfl; have hcz41_1 : w39.cell? ⟨gb255, 1, none⟩ = some (.int .i64 0) := (blk_cell BK255.out 1).trans rfl; have hfz41_0 := blk_frozen BK255.out 0; have hfz41_1 := blk_frozen BK255.out 1) | ((with_reducible refine gate_callee (f := 11) rfl ?_); refine goesL_ (some 53) rfl rfl Try.func11 (by kernel_rfl) rfl #[.int .i64 (-1)] rfl (by (try simp only [List.map_toArray, List.map_cons, List.map_nil]); first | done | rfl | (simp only [List.length_drop, List.length_take]; rfl)) ?_; (with_reducible refine (uplink_Word.calls k1 (-1) t256 t257 t258 t259 t260 t261 t262 t263 t264 t265 t266 t267 t268 t269 t270 t271 t272 _ A18.out).mono ?_); rintro e w42 ⟨rfl, hb⟩; refine ⟨_, rfl, ?_⟩; have n0_ := Aside0.mk (Kd.R_below (by (with_reducible repeat (first | apply Kd.R_alloc | apply Kd.R_drewN | apply Kd.R_drew)); exact (Kd.R_mono (Kd.R_far (p := ⟨gb255, 1, none⟩) (Kd.R_far (p := ⟨gb255, 0, none⟩) (Kd.R_types HO_1.out BK255.out (by decide)) (fun _ hk => hk.2) (.bool t253)) (fun _ hk => hk.2) (.int .i64 t254)) (fun _ h_ => h_.1))) hb); have n1_ := Aside0.mk (Kd.R_below (by (with_reducible repeat (first | apply Kd.R_alloc | apply Kd.R_drewN | apply Kd.R_drew)); exact (Kd.R_mono (Kd.R_far (p := ⟨gb255, 1, none⟩) (Kd.R_far (p := ⟨gb255, 0, none⟩) (Kd.R_types HO_2.out BK255.out (by decide)) (fun _ hk => hk.2) (.bool t253)) (fun _ hk => hk.2) (.int .i64 t254)) (fun _ h_ => h_.1))) hb); have n2_ := Aside0.mk (Kd.R_below (by (with_reducible repeat (first | apply Kd.R_alloc | apply Kd.R_drewN | apply Kd.R_drew)); exact (Kd.R_mono (Kd.R_far (p := ⟨gb255, 1, none⟩) (Kd.R_far (p := ⟨gb255, 0, none⟩) (Kd.R_types HO243.out BK255.out (by decide)) (fun _ hk => hk.2) (.bool t253)) (fun _ hk => hk.2) (.int .i64 t254)) (fun _ h_ => h_.1))) hb); have n3_ := Aside0.mk (Kd.R_below (by (with_reducible repeat (first | apply Kd.R_alloc | apply Kd.R_drewN | apply Kd.R_drew)); exact (Kd.R_mono (Kd.R_far (p := ⟨gb255, 1, none⟩) (Kd.R_far (p := ⟨gb255, 0, none⟩) (Kd.R_types HO252.out BK255.out (by decide)) (fun _ hk => hk.2) (.bool t253)) (fun _ hk => hk.2) (.int .i64 t254)) (fun _ h_ => h_.1))) hb); have n4_ := Aside0.mk (blk_below (g := gb246) (o := .cells #[.bool t244, .int .i64 t245] 31 (0, 0)) (by (with_reducible repeat (first | refine blk_drewN ?_ _ | refine blk_drew ?_ | refine blk_alloc ?_ _)); refine blk_far ?_ NB246_255.out _; (with_reducible repeat (first | refine blk_drewN ?_ _ | refine blk_drew ?_ | refine blk_alloc ?_ _)); refine blk_far ?_ NB246_255.out _; (with_reducible repeat (first | refine blk_drewN ?_ _ | refine blk_drew ?_ | refine blk_alloc ?_ _)); exact BK246.out) hb); have n5_ := Aside0.mk (blk_below (g := gb255) (o := .cells #[.bool t253, .int .i64 t254] 31 (0, 0)) (by (with_reducible repeat (first | refine blk_drewN ?_ _ | refine blk_drew ?_ | refine blk_alloc ?_ _)); refine blk_put (cs := #[.bool t253, .int .i64 0]) ?_ (1) _ rfl; (with_reducible repeat (first | refine blk_drewN ?_ _ | refine blk_drew ?_ | refine blk_alloc ?_ _)); refine blk_put (cs := #[.bool false, .int .i64 0]) ?_ (0) _ rfl; (with_reducible repeat (first | refine blk_drewN ?_ _ | refine blk_drew ?_ | refine blk_alloc ?_ _)); exact BK255.out) hb); have n6_ := Aside0.mk (below_step (by repeat (first | (with_reducible first | exact HB.out | apply below_alloc | apply pw_below_drewN | apply below_drew1 | refine below_set ?_ GE246.out | refine below_set ?_ GE255.out) | exact HB.out)) hb); clear HO_1; clear HO_2; clear HO243; clear HO252; clear BK246; clear BK255; clear HB; have HO_1 := n0_; have HO_2 := n1_; have HO243 := n2_; have HO252 := n3_; have BK246 := n4_; have BK255 := n5_; have HB := n6_; clear n0_ n1_ n2_ n3_ n4_ n5_ n6_; (try clear hb); (try clear hb2); (try clear hk); (try clear hi)) | ((with_reducible refine gate_dst (N := 10) rfl ?_); (try (refine gate_guard (by rfl) ?_; dsimp only)); refine box_event ?hg (N := 10) ?hd (cs := #[.int .u8 0, .int .u8 0, .int .u8 0, .int .u8 0, .int .u8 0, .int .u8 0, .int .u8 0, .int .u8 0, .int .u8 0, .int .u8 0, .int .u8 0, .int .u8 0, .int .u8 0, .int .u8 0, .int .u8 0, .int .u8 0]) (t := 22) ?hr ?_; (case hd => rfl); (case hg => rfl); (case hr => first | (go_simp; done) | (go_simp; rfl)); intro gb273 hg w43 hbox hb; have n0_ := Aside0.mk (Kd.R_below (Kd.R_elderB (by (with_reducible repeat (first | apply Kd.R_alloc | apply Kd.R_drewN | apply Kd.R_drew)); exact HO_1.out) gb273 (Nat.le_of_eq hg.symm)) hb); have n1_ := Aside0.mk (Kd.R_below (by (with_reducible repeat (first | apply Kd.R_alloc | apply Kd.R_drewN | apply Kd.R_drew)); exact HO_2.out) hb); have n2_ := Aside0.mk (Kd.R_below (by (with_reducible repeat (first | apply Kd.R_alloc | apply Kd.R_drewN | apply Kd.R_drew)); exact HO243.out) hb); have n3_ := Aside0.mk (Kd.R_below (by (with_reducible repeat (first | apply Kd.R_alloc | apply Kd.R_drewN | apply Kd.R_drew)); exact HO252.out) hb); have n4_ := Aside0.mk (blk_below (g := gb246) (o := .cells #[.bool t244, .int .i64 t245] 31 (0, 0)) (by (with_reducible repeat (first | refine blk_drewN ?_ _ | refine blk_drew ?_ | refine blk_alloc ?_ _)); exact BK246.out) hb); have n5_ := Aside0.mk (blk_below (g := gb255) (o := .cells #[.bool t253, .int .i64 t254] 31 (0, 0)) (by (with_reducible repeat (first | refine blk_drewN ?_ _ | refine blk_drew ?_ | refine blk_alloc ?_ _)); exact BK255.out) hb); have n6_ := Aside0.mk (below_step (by repeat (first | (with_reducible first | exact HB.out | apply below_alloc | apply pw_below_drewN | apply below_drew1 | refine below_set ?_ GE246.out | refine below_set ?_ GE255.out) | exact HB.out)) hb); have n7_ := Aside0.mk (hbox); have n8_ := Aside0.mk ((by rw [hg]; exact (below_size (by repeat (first | (with_reducible first | exact HB.out | apply below_alloc | apply pw_below_drewN | apply below_drew1 | refine below_set ?_ GE246.out | refine below_set ?_ GE255.out) | exact HB.out))) : w.heap.size ≤ gb273)); have n9_ := Aside0.mk ((by rw [hg]; exact (below_size (by repeat (first | (with_reducible first | exact HB.out | apply below_alloc | apply pw_below_drewN | apply below_drew1 | refine below_set ?_ GE246.out | refine below_set ?_ GE255.out) | exact HB.out))) : w.heap.size ≤ gb273)); have n10_ := Aside0.mk ((by rw [hg]; exact Nat.ne_of_lt (blk_lt (g := gb246) (o := .cells #[.bool t244, .int .i64 t245] 31 (0, 0)) (by (with_reducible repeat (first | refine blk_drewN ?_ _ | refine blk_drew ?_ | refine blk_alloc ?_ _)); exact BK246.out)) : gb246 ≠ gb273)); have n11_ := Aside0.mk ((by rw [hg]; exact Nat.ne_of_gt (blk_lt (g := gb246) (o := .cells #[.bool t244, .int .i64 t245] 31 (0, 0)) (by (with_reducible repeat (first | refine blk_drewN ?_ _ | refine blk_drew ?_ | refine blk_alloc ?_ _)); exact BK246.out)) : gb273 ≠ gb246)); have n12_ := Aside0.mk ((by rw [hg]; exact Nat.ne_of_lt (blk_lt (g := gb255) (o := .cells #[.bool t253, .int .i64 t254] 31 (0, 0)) (by (with_reducible repeat (first | refine blk_drewN ?_ _ | refine blk_drew ?_ | refine blk_alloc ?_ _)); exact BK255.out)) : gb255 ≠ gb273)); have n13_ := Aside0.mk ((by rw [hg]; exact Nat.ne_of_gt (blk_lt (g := gb255) (o := .cells #[.bool t253, .int .i64 t254] 31 (0, 0)) (by (with_reducible repeat (first | refine blk_drewN ?_ _ | refine blk_drew ?_ | refine blk_alloc ?_ _)); exact BK255.out)) : gb273 ≠ gb255)); clear HO_1; clear HO_2; clear HO243; clear HO252; clear BK246; clear BK255; clear HB; have HO_1 := n0_; have HO_2 := n1_; have HO243 := n2_; have HO252 := n3_; have BK246 := n4_; have BK255 := n5_; have HB := n6_; have BK273 := n7_; have GW273 := n8_; have GE273 := n9_; have NB246_273 := n10_; have NB273_246 := n11_; have NB255_273 := n12_; have NB273_255 := n13_; clear n0_ n1_ n2_ n3_ n4_ n5_ n6_ n7_ n8_ n9_ n10_ n11_ n12_ n13_; clear hb hbox hg) | ((with_reducible refine gate_store (t := 22) (p := 10) rfl ?_); refine seg_event (t := 22) (p := 10) (x := ?xo_w44) (g := gb273) (off := 0) (T := 22) (cur := #[.int .u8 0, .int .u8 0, .int .u8 0, .int .u8 0, .int .u8 0, .int .u8 0, .int .u8 0, .int .u8 0, .int .u8 0, .int .u8 0, .int .u8 0, .int .u8 0, .int .u8 0, .int .u8 0, .int .u8 0, .int .u8 0]) (vs := [.int .u8 t256, .int .u8 t257, .int .u8 t258, .int .u8 t259, .int .u8 t260, .int .u8 t261, .int .u8 t262, .int .u8 t263, .int .u8 t264, .int .u8 t265, .int .u8 t266, .int .u8 t267, .int .u8 t268, .int .u8 t269, .int .u8 t270, .int .u8 t271]) (new := #[.int .u8 t256, .int .u8 t257, .int .u8 t258, .int .u8 t259, .int .u8 t260, .int .u8 t261, .int .u8 t262, .int .u8 t263, .int .u8 t264, .int .u8 t265, .int .u8 t266, .int .u8 t267, .int .u8 t268, .int .u8 t269, .int .u8 t270, .int .u8 t271]) ?hg ?ho ?hn ?hp ?hv ?hb ?hi ?hf ?h1 ?hw ?_; (case ho => rfl); (case hg => rfl); (case hn => rfl); (case hp => rfl); (case hv => first | rfl | (go_simp; done) | (simp [*]; done)); (case hb => exact (by (with_reducible repeat (first | refine blk_drewN ?_ _ | refine blk_drew ?_ | refine blk_alloc ?_ _)); exact BK273.out)); (case hi => kernel_rfl); (case hf => exact Nat.le_of_ble_eq_true rfl); (case h1 => rfl); (case hw => rfl); intro w44 hbox hg hbl; have n0_ := Aside0.mk (Kd.R_grown (by (with_reducible repeat (first | apply Kd.R_alloc | apply Kd.R_drewN | apply Kd.R_drew)); exact HO_1.out) hg (by intro k_ hk e_; exact (hk.2) (Option.some.inj e_))); have n1_ := Aside0.mk (Kd.R_mono (Kd.R_grown (Kd.R_types (by (with_reducible repeat (first | apply Kd.R_alloc | apply Kd.R_drewN | apply Kd.R_drew)); exact HO_2.out) (show w43.heap[gb273]? = some (.cells #[.int .u8 0, .int .u8 0, .int .u8 0, .int .u8 0, .int .u8 0, .int .u8 0, .int .u8 0, .int .u8 0, .int .u8 0, .int .u8 0, .int .u8 0, .int .u8 0, .int .u8 0, .int .u8 0, .int .u8 0, .int .u8 0] 22 (0, 0)) from by (with_reducible repeat (first | refine blk_drewN ?_ _ | refine blk_drew ?_ | refine blk_alloc ?_ _)); exact BK273.out) (by decide)) hg (by intro k_ hk e_; exact hk.2 (Option.some.inj e_))) (by intro _ hk; exact hk.1)); have n2_ := Aside0.mk (Kd.R_mono (Kd.R_grown (Kd.R_types (by (with_reducible repeat (first | apply Kd.R_alloc | apply Kd.R_drewN | apply Kd.R_drew)); exact HO243.out) (show w43.heap[gb273]? = some (.cells #[.int .u8 0, .int .u8 0, .int .u8 0, .int .u8 0, .int .u8 0, .int .u8 0, .int .u8 0, .int .u8 0, .int .u8 0, .int .u8 0, .int .u8 0, .int .u8 0, .int .u8 0, .int .u8 0, .int .u8 0, .int .u8 0] 22 (0, 0)) from by (with_reducible repeat (first | refine blk_drewN ?_ _ | refine blk_drew ?_ | refine blk_alloc ?_ _)); exact BK273.out) (by decide)) hg (by intro k_ hk e_; exact hk.2 (Option.some.inj e_))) (by intro _ hk; exact hk.1)); have n3_ := Aside0.mk (blk_grown (g := gb246) (o := .cells #[.bool t244, .int .i64 t245] 31 (0, 0)) (by (with_reducible repeat (first | refine blk_drewN ?_ _ | refine blk_drew ?_ | refine blk_alloc ?_ _)); exact BK246.out) hg (fun e_ => NB246_273.out (Option.some.inj e_))); have n4_ := Aside0.mk (Kd.R_mono (Kd.R_grown (Kd.R_types (by (with_reducible repeat (first | apply Kd.R_alloc | apply Kd.R_drewN | apply Kd.R_drew)); exact HO252.out) (show w43.heap[gb273]? = some (.cells #[.int .u8 0, .int .u8 0, .int .u8 0, .int .u8 0, .int .u8 0, .int .u8 0, .int .u8 0, .int .u8 0, .int .u8 0, .int .u8 0, .int .u8 0, .int .u8 0, .int .u8 0, .int .u8 0, .int .u8 0, .int .u8 0] 22 (0, 0)) from by (with_reducible repeat (first | refine blk_drewN ?_ _ | refine blk_drew ?_ | refine blk_alloc ?_ _)); exact BK273.out) (by decide)) hg (by intro k_ hk e_; exact hk.2 (Option.some.inj e_))) (by intro _ hk; exact hk.1)); have n5_ := Aside0.mk (blk_grown (g := gb255) (o := .cells #[.bool t253, .int .i64 t254] 31 (0, 0)) (by (with_reducible repeat (first | refine blk_drewN ?_ _ | refine blk_drew ?_ | refine blk_alloc ?_ _)); exact BK255.out) hg (fun e_ => NB255_273.out (Option.some.inj e_))); have n6_ := Aside0.mk (hbox); have n7_ := Aside0.mk (hbl _ _ (by repeat (first | (with_reducible first | exact HB.out | apply below_alloc | apply pw_below_drewN | apply below_drew1 | refine below_set ?_ GE246.out | refine below_set ?_ GE255.out | refine below_set ?_ GE273.out) | exact HB.out)) GE273.out); clear HO_1; clear HO_2; clear HO243; clear BK246; clear HO252; clear BK255; clear BK273; clear HB; have HO_1 := n0_; have HO_2 := n1_; have HO243 := n2_; have BK246 := n3_; have HO252 := n4_; have BK255 := n5_; have BK273 := n6_; have HB := n7_; clear n0_ n1_ n2_ n3_ n4_ n5_ n6_ n7_; clear hbox hg hbl) | ((with_reducible refine gate_callee (f := 15) rfl ?_); refine goesL_ (some 56) rfl rfl Try.func15 (by kernel_rfl) rfl #[] rfl (by (try simp only [List.map_toArray, List.map_cons, List.map_nil]); first | done | rfl | (simp only [List.length_drop, List.length_take]; rfl)) ?_; (with_reducible refine (perilunelaw32_awake.calls k1  true _ A19.out).mono ?_); rintro e w45 ⟨rfl, hb⟩; refine ⟨_, rfl, ?_⟩; have n0_ := Aside0.mk (Kd.R_below (by (with_reducible repeat (first | apply Kd.R_alloc | apply Kd.R_drewN | apply Kd.R_drew)); exact HO_1.out) hb); have n1_ := Aside0.mk (Kd.R_below (by (with_reducible repeat (first | apply Kd.R_alloc | apply Kd.R_drewN | apply Kd.R_drew)); exact HO_2.out) hb); have n2_ := Aside0.mk (Kd.R_below (by (with_reducible repeat (first | apply Kd.R_alloc | apply Kd.R_drewN | apply Kd.R_drew)); exact HO243.out) hb); have n3_ := Aside0.mk (Kd.R_below (by (with_reducible repeat (first | apply Kd.R_alloc | apply Kd.R_drewN | apply Kd.R_drew)); exact HO252.out) hb); have n4_ := Aside0.mk (blk_below (g := gb246) (o := .cells #[.bool t244, .int .i64 t245] 31 (0, 0)) (by (with_reducible repeat (first | refine blk_drewN ?_ _ | refine blk_drew ?_ | refine blk_alloc ?_ _)); exact BK246.out) hb); have n5_ := Aside0.mk (blk_below (g := gb255) (o := .cells #[.bool t253, .int .i64 t254] 31 (0, 0)) (by (with_reducible repeat (first | refine blk_drewN ?_ _ | refine blk_drew ?_ | refine blk_alloc ?_ _)); exact BK255.out) hb); have n6_ := Aside0.mk (blk_below (g := gb273) (o := .cells #[.int .u8 t256, .int .u8 t257, .int .u8 t258, .int .u8 t259, .int .u8 t260, .int .u8 t261, .int .u8 t262, .int .u8 t263, .int .u8 t264, .int .u8 t265, .int .u8 t266, .int .u8 t267, .int .u8 t268, .int .u8 t269, .int .u8 t270, .int .u8 t271] 22 (0, 0)) (by (with_reducible repeat (first | refine blk_drewN ?_ _ | refine blk_drew ?_ | refine blk_alloc ?_ _)); exact BK273.out) hb); have n7_ := Aside0.mk (below_step (by repeat (first | (with_reducible first | exact HB.out | apply below_alloc | apply pw_below_drewN | apply below_drew1 | refine below_set ?_ GE246.out | refine below_set ?_ GE255.out | refine below_set ?_ GE273.out) | exact HB.out)) hb); clear HO_1; clear HO_2; clear HO243; clear HO252; clear BK246; clear BK255; clear BK273; clear HB; have HO_1 := n0_; have HO_2 := n1_; have HO243 := n2_; have HO252 := n3_; have BK246 := n4_; have BK255 := n5_; have BK273 := n6_; have HB := n7_; clear n0_ n1_ n2_ n3_ n4_ n5_ n6_ n7_; (try clear hb); (try clear hb2); (try clear hk); (try clear hi); obtain ⟨Ao46, co46, eo46⟩ := Kd.R_slice HO243.out; subst eo46) | (go_at_call 20; (with_reducible refine (periluneref32_Same.calls k1 _ _ t241 _ _ y216 true _ ?side1 ?side2 ?side3 ?side4 A21.out).mono ?_); (case side1 => repeat (first | exact (Kd.R_reads' HO243.out).2.2 | (with_reducible refine Kd.C_alloc ?_ _) | (with_reducible refine Kd.C_drewN ?_ _) | (with_reducible refine Kd.C_drew ?_))); (case side2 => exact (Kd.R_reads' HO243.out).2.1); (case side3 => repeat (first | exact (Kd.R_reads' HO_2.out).2.2 | (with_reducible refine Kd.C_alloc ?_ _) | (with_reducible refine Kd.C_drewN ?_ _) | (with_reducible refine Kd.C_drew ?_))); (case side4 => exact (Kd.R_reads' HO_2.out).2.1); rintro e w' ⟨rfl, ⟨nd, rfl⟩⟩; have hnb47 := NB246_273.out; have hnc47 := NB273_246.out; have hcz48_0 : w45.cell? ⟨gb246, 0, none⟩ = some (.bool t244) := (blk_cell BK246.out 0).trans rfl; have hcz48_1 : w45.cell? ⟨gb246, 1, none⟩ = some (.int .i64 t245) := (blk_cell BK246.out 1).trans rfl; have hfz48_0 := blk_frozen BK246.out 0; have hfz48_1 := blk_frozen BK246.out 1) | ((with_reducible refine gate_dst (N := 69) rfl ?_); (try (refine gate_guard (by rfl) ?_; dsimp only)); refine Kd.R_lit (Kd.int .i64) _ 3 ?hg (N := 69) ?hd (xs := ([1, 0, 31] : List Int)) (inner := [.int .i64 1, .int .i64 0, .int .i64 31]) (ok := fun _ => True) (okp := fun _ => True) ?hr ?hp (fun _ hk => hk) trivial (Below.refl _ _) (Nat.le_refl _) (by simp) ?_; (case hd => rfl); (case hg => rfl); (case hr => first | (go_simp; done) | (go_simp; rfl)); (case hp => exact (Reps.one (show Kd.M (Kd.int .i64) _ _ _ 1 [.int .i64 1] from rfl) (Reps.one (show Kd.M (Kd.int .i64) _ _ _ 0 [.int .i64 0] from rfl) (Reps.one (show Kd.M (Kd.int .i64) _ _ _ 31 [.int .i64 31] from rfl) (Reps.none _ _))))); intro v277 w49 ho50 hb hg_ hnew_; clear hg_ hnew_; (first | rw [← Ny276.out] at ho50 | (simp only [Int.reduceToNat] at ho50; rw [← Ny276.out] at ho50)); have n0_ := Aside0.mk (Kd.R_below (by (with_reducible repeat (first | apply Kd.R_alloc | apply Kd.R_drewN | apply Kd.R_drew)); exact HO_1.out) hb); have n1_ := Aside0.mk (Kd.R_elder' (by (with_reducible repeat (first | apply Kd.R_alloc | apply Kd.R_drewN | apply Kd.R_drew)); exact HO_2.out) (Kd.R_base ho50) hb); have n2_ := Aside0.mk (Kd.R_elder' (by (with_reducible repeat (first | apply Kd.R_alloc | apply Kd.R_drewN | apply Kd.R_drew)); exact HO243.out) (Kd.R_base ho50) hb); have n3_ := Aside0.mk (Kd.R_elder' (by (with_reducible repeat (first | apply Kd.R_alloc | apply Kd.R_drewN | apply Kd.R_drew)); exact HO252.out) (Kd.R_base ho50) hb); have n4_ := Aside0.mk (Kd.R_lower (Kd.R_new' (Kd.R_new' (Kd.R_new' ho50 (Kd.R_lt (by (with_reducible repeat (first | apply Kd.R_alloc | apply Kd.R_drewN | apply Kd.R_drew)); exact HO_2.out))) (Kd.R_lt (by (with_reducible repeat (first | apply Kd.R_alloc | apply Kd.R_drewN | apply Kd.R_drew)); exact HO243.out))) (Kd.R_lt (by (with_reducible repeat (first | apply Kd.R_alloc | apply Kd.R_drewN | apply Kd.R_drew)); exact HO252.out))) (below_size (by repeat (first | (with_reducible first | exact HB.out | apply below_alloc | apply pw_below_drewN | apply below_drew1 | refine below_set ?_ GE246.out | refine below_set ?_ GE255.out | refine below_set ?_ GE273.out) | exact HB.out)))); have n5_ := Aside0.mk (blk_below (g := gb246) (o := .cells #[.bool t244, .int .i64 t245] 31 (0, 0)) (by (with_reducible repeat (first | refine blk_drewN ?_ _ | refine blk_drew ?_ | refine blk_alloc ?_ _)); exact BK246.out) hb); have n6_ := Aside0.mk (blk_below (g := gb255) (o := .cells #[.bool t253, .int .i64 t254] 31 (0, 0)) (by (with_reducible repeat (first | refine blk_drewN ?_ _ | refine blk_drew ?_ | refine blk_alloc ?_ _)); exact BK255.out) hb); have n7_ := Aside0.mk (blk_below (g := gb273) (o := .cells #[.int .u8 t256, .int .u8 t257, .int .u8 t258, .int .u8 t259, .int .u8 t260, .int .u8 t261, .int .u8 t262, .int .u8 t263, .int .u8 t264, .int .u8 t265, .int .u8 t266, .int .u8 t267, .int .u8 t268, .int .u8 t269, .int .u8 t270, .int .u8 t271] 22 (0, 0)) (by (with_reducible repeat (first | refine blk_drewN ?_ _ | refine blk_drew ?_ | refine blk_alloc ?_ _)); exact BK273.out) hb); have n8_ := Aside0.mk (below_step (by repeat (first | (with_reducible first | exact HB.out | apply below_alloc | apply pw_below_drewN | apply below_drew1 | refine below_set ?_ GE246.out | refine below_set ?_ GE255.out | refine below_set ?_ GE273.out) | exact HB.out)) hb); clear HO_1; clear HO_2; clear HO243; clear HO252; clear BK246; clear BK255; clear BK273; clear HB; have HO_1 := n0_; have HO_2 := n1_; have HO243 := n2_; have HO252 := n3_; have HO278 := n4_; have BK246 := n5_; have BK255 := n6_; have BK273 := n7_; have HB := n8_; clear n0_ n1_ n2_ n3_ n4_ n5_ n6_ n7_ n8_; clear hb ho50; obtain ⟨Ao51, co51, eo51⟩ := Kd.R_slice HO252.out; subst eo51; obtain ⟨Ao52, co52, eo52⟩ := Kd.R_slice HO278.out; subst eo52) | (go_at_call 20; (with_reducible refine (periluneref32_Same.calls k1 _ _ t250 _ _ y276 true _ ?side1 ?side2 ?side3 ?side4 A24.out).mono ?_); (case side1 => repeat (first | exact (Kd.R_reads' HO252.out).2.2 | (with_reducible refine Kd.C_alloc ?_ _) | (with_reducible refine Kd.C_drewN ?_ _) | (with_reducible refine Kd.C_drew ?_))); (case side2 => exact (Kd.R_reads' HO252.out).2.1); (case side3 => repeat (first | exact (Kd.R_reads' HO278.out).2.2 | (with_reducible refine Kd.C_alloc ?_ _) | (with_reducible refine Kd.C_drewN ?_ _) | (with_reducible refine Kd.C_drew ?_))); (case side4 => exact (Kd.R_reads' HO278.out).2.1); rintro e w' ⟨rfl, ⟨nd, rfl⟩⟩; have hnb53 := NB255_273.out; have hnc53 := NB273_255.out; have hcz54_0 : w49.cell? ⟨gb255, 0, none⟩ = some (.bool t253) := (blk_cell BK255.out 0).trans rfl; have hcz54_1 : w49.cell? ⟨gb255, 1, none⟩ = some (.int .i64 t254) := (blk_cell BK255.out 1).trans rfl; have hfz54_0 := blk_frozen BK255.out 0; have hfz54_1 := blk_frozen BK255.out 1))
                      go_ret
                      exact ⟨by first | rfl | (simp [errW_none, errW_some] <;> rfl) | (simp [*, errW_none, errW_some] <;> rfl), by repeat (first | (with_reducible first | exact HB.out | apply below_alloc | apply pw_below_drewN | apply below_drew1 | refine below_set ?_ GE246.out | refine below_set ?_ GE255.out | refine below_set ?_ GE273.out) | exact HB.out)⟩
                    · rw [if_neg c26] at H
                      have c26b0 : (!t253 && (t254 == 2)) = false := by simpa using c26
                      clear c26
                      exact absurd (Option.some.inj H) (by rw [hT_.out]; decide)
                  · replace c25 := Bool.eq_false_iff.mpr c25
                    subst c25
                    have H1 : (some false) = some r := by rw [if_neg (show ¬ (false = true) by decide)] at H; exact H
                    clear H
                    have H := H1
                    clear H1
                    exact absurd (Option.some.inj H) (by rw [hT_.out]; decide)
                · rw [if_neg c23] at H
                  have c23b0 : (!t244 && (t245 == 0)) = false := by simpa using c23
                  clear c23
                  exact absurd (Option.some.inj H) (by rw [hT_.out]; decide)
              · replace c22 := Bool.eq_false_iff.mpr c22
                subst c22
                have H1 : (some false) = some r := by rw [if_neg (show ¬ (false = true) by decide)] at H; exact H
                clear H
                have H := H1
                clear H1
                exact absurd (Option.some.inj H) (by rw [hT_.out]; decide)
            · replace c20 := Bool.eq_false_iff.mpr c20
              subst c20
              have H1 : (some false) = some r := by rw [if_neg (show ¬ (false = true) by decide)] at H; exact H
              clear H
              have H := H1
              clear H1
              exact absurd (Option.some.inj H) (by rw [hT_.out]; decide)
          · rw [if_neg c15] at H
            exact absurd H (by simp)
        · rw [if_neg c13] at H
          exact absurd H (by simp)

/-- THE ONE PURE STATEMENT of perilunelaw32_UplinkKnown: yours. -/
def perilunelaw32_UplinkKnown.Pure : Prop := ∃ k, perilunelaw32_UplinkKnown.f k  = some true
theorem perilunelaw32_UplinkKnown.walk (P : perilunelaw32_UplinkKnown.Pure)  (w : World)  :
    Calls Try.prog 10 #[] w fun e w' => e = .returned (.bool true) ∧ Below w.heap.size w w' := by
  obtain ⟨k, h⟩ := P  
  refine (perilunelaw32_UplinkKnown.calls k  true w h ⟨rfl⟩).mono ?_
  rintro e w' ⟨rfl, hd⟩
  exact ⟨rfl, hd⟩

end Go.Proofs.Ytdncfnlhkacpaaa.Z
