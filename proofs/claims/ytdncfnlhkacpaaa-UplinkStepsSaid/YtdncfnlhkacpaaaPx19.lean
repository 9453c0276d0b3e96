-- Printed by a session's own program (wip/turnprint.py, wip/myprint.sh) over the translation's print.
import Derived.Test.YtdncfnlhkacpaaaPx0
import Derived.Test.YtdncfnlhkacpaaaPx2
import Derived.Test.YtdncfnlhkacpaaaPx9
import Derived.Test.YtdncfnlhkacpaaaPx10
import Derived.Test.YtdncfnlhkacpaaaPx15
import Derived.Test.YtdncfnlhkacpaaaPx17
namespace Go.Proofs.Ytdncfnlhkacpaaa.P
open Go.RowKit Go.Proofs.YtdncfnlhkacpaaaW.PrintWords Go.Proofs.YtdncfnlhkacpaaaW.PrintLast Go.Proofs.YtdncfnlhkacpaaaW.PrintMore
attribute [local go_sem] max2_int min2_int max_two min_two max_three min_three max_four min_four   -- for this text's walks alone
set_option linter.unusedVariables false
set_option linter.unusedSimpArgs false

attribute [local go_sem high] eqA31
/-! ### perilunelaw32_UplinkSteps: function 9 -/
mutual
def perilunelaw32_UplinkSteps.j0 : Nat → List (S22) → List (S22) → Bool → Option (Bool)
  | 0, _, _, _ => none
  | k + 1, x0, x1, x20 => if x20 = true then ((perilunelaw32_awake.f k).bind fun t459 => (some t459)) else ((uplink_All.f k x0).bind fun bt460 => ((some (([] : List (S22)) : List (S22))).bind fun y466 => (if y466.length + x0.length < 8796093022208 then ((some (y466 ++ x0 : List (S22))).bind fun y469 => (if y469.length + x1.length < 8796093022208 then ((uplink_All.f k (y469 ++ x1)).bind fun bt475 => (perilunelaw32_UplinkSteps.l0 k x1 bt460.1 bt475.1 0 bt460.2.1 bt460.2.2 bt475.2.1 bt475.2.2)) else (none))) else (none))))
def perilunelaw32_UplinkSteps.l0 : Nat → List (S22) → List Int → List Int → Int → Bool → Int → Bool → Int → Option (Bool)
  | 0, _, _, _, _, _, _, _, _ => none
  | k + 1, x1, x5, x7, x9, x466000, x466001, x481000, x481001 => if x9 < (x1.length : Int) then (if 0 ≤ x9 then ((uplink_Receive.f k x466000 x466001 ((rd_T22 x1 x9).f0) ((rd_T22 x1 x9).f1) ((rd_T22 x1 x9).f2) ((rd_T22 x1 x9).f3) ((rd_T22 x1 x9).f4) ((rd_T22 x1 x9).f5) ((rd_T22 x1 x9).f6) ((rd_T22 x1 x9).f7) ((rd_T22 x1 x9).f8) ((rd_T22 x1 x9).f9) ((rd_T22 x1 x9).f10) ((rd_T22 x1 x9).f11) ((rd_T22 x1 x9).f12) ((rd_T22 x1 x9).f13) ((rd_T22 x1 x9).f14) ((rd_T22 x1 x9).f15)).bind fun bt484 => (if bt484.2.2.2 = true then (if x5.length < 17592186044416 then (perilunelaw32_UplinkSteps.l0 k x1 (x5 ++ [bt484.2.2.1]) x7 (wrap64 (x9 + 1)) bt484.1 bt484.2.1 x481000 x481001) else (none)) else (if bt484.2.2.1 = 0 then (perilunelaw32_UplinkSteps.l0 k x1 x5 x7 (wrap64 (x9 + 1)) bt484.1 bt484.2.1 x481000 x481001) else (some false)))) else (none)) else ((periluneref32_Same.f k x5 x7).bind fun t481 => (if t481 = true then (if (x466000 == x481000 && (x466001 == x481001)) = true then ((perilunelaw32_awake.f k).bind fun t482 => (some t482)) else (some false)) else (some false)))
end
def perilunelaw32_UplinkSteps.f (k : Nat) (l0 : List (S22)) (l1 : List (S22)) : Option (Bool) := if (l0.length : Int) > 400 then (perilunelaw32_UplinkSteps.j0 k l0 l1 true) else (perilunelaw32_UplinkSteps.j0 k l0 l1 (decide ((l1.length : Int) > 400)))
theorem perilunelaw32_UplinkSteps.mono_l : ∀ k, (∀ y0 y1 y2, LeO (perilunelaw32_UplinkSteps.j0 k y0 y1 y2) (perilunelaw32_UplinkSteps.j0 (k + 1) y0 y1 y2)) ∧ (∀ y0 y1 y2 y3 y4 y5 y6 y7, LeO (perilunelaw32_UplinkSteps.l0 k y0 y1 y2 y3 y4 y5 y6 y7) (perilunelaw32_UplinkSteps.l0 (k + 1) y0 y1 y2 y3 y4 y5 y6 y7))
  | 0 => ⟨fun _ _ _ r h => by simp [perilunelaw32_UplinkSteps.j0] at h, fun _ _ _ _ _ _ _ _ r h => by simp [perilunelaw32_UplinkSteps.l0] at h⟩
  | k + 1 => by
    obtain ⟨ih0, ih1⟩ := perilunelaw32_UplinkSteps.mono_l k
    refine ⟨?_, ?_⟩
    · intro y0 y1 y2
      unfold perilunelaw32_UplinkSteps.j0
      repeat' first
      | (with_reducible exact ih0 _ _ _)
      | (with_reducible exact ih1 _ _ _ _ _ _ _ _)
      | (with_reducible exact perilunelaw32_awake.mono _)
      | (with_reducible exact periluneref32_Same.mono _ _ _)
      | (with_reducible exact uplink_All.mono _ _)
      | (with_reducible exact uplink_Receive.mono _ _ _ _ _ _ _ _ _ _ _ _ _ _ _ _ _ _ _)
      | (with_reducible exact LeO.refl _)
      | (with_reducible exact LeO.none _)
      | (with_reducible refine LeO.ite ?_ ?_)
      | (with_reducible refine LeO.bind ?_ (fun _ => ?_))
      | exact ih0 _ _ _
      | exact ih1 _ _ _ _ _ _ _ _
      | exact perilunelaw32_awake.mono _
      | exact periluneref32_Same.mono _ _ _
      | exact uplink_All.mono _ _
      | exact uplink_Receive.mono _ _ _ _ _ _ _ _ _ _ _ _ _ _ _ _ _ _ _
      | exact LeO.none _
      | refine LeO.ite ?_ ?_
      | refine LeO.bind ?_ (fun _ => ?_)
    · intro y0 y1 y2 y3 y4 y5 y6 y7
      unfold perilunelaw32_UplinkSteps.l0
      repeat' first
      | (with_reducible exact ih0 _ _ _)
      | (with_reducible exact ih1 _ _ _ _ _ _ _ _)
      | (with_reducible exact perilunelaw32_awake.mono _)
      | (with_reducible exact periluneref32_Same.mono _ _ _)
      | (with_reducible exact uplink_All.mono _ _)
      | (with_reducible exact uplink_Receive.mono _ _ _ _ _ _ _ _ _ _ _ _ _ _ _ _ _ _ _)
      | (with_reducible exact LeO.refl _)
      | (with_reducible exact LeO.none _)
      | (with_reducible refine LeO.ite ?_ ?_)
      | (with_reducible refine LeO.bind ?_ (fun _ => ?_))
      | exact ih0 _ _ _
      | exact ih1 _ _ _ _ _ _ _ _
      | exact perilunelaw32_awake.mono _
      | exact periluneref32_Same.mono _ _ _
      | exact uplink_All.mono _ _
      | exact uplink_Receive.mono _ _ _ _ _ _ _ _ _ _ _ _ _ _ _ _ _ _ _
      | exact LeO.none _
      | refine LeO.ite ?_ ?_
      | refine LeO.bind ?_ (fun _ => ?_)
theorem perilunelaw32_UplinkSteps.mono : ∀ a0 a1 k, LeO (perilunelaw32_UplinkSteps.f k a0 a1) (perilunelaw32_UplinkSteps.f (k + 1) a0 a1) := by
  intro a0 a1 k
  obtain ⟨ih0, ih1⟩ := perilunelaw32_UplinkSteps.mono_l k
  unfold perilunelaw32_UplinkSteps.f
  repeat' first
      | (with_reducible exact ih0 _ _ _)
      | (with_reducible exact ih1 _ _ _ _ _ _ _ _)
      | (with_reducible exact perilunelaw32_awake.mono _)
      | (with_reducible exact periluneref32_Same.mono _ _ _)
      | (with_reducible exact uplink_All.mono _ _)
      | (with_reducible exact uplink_Receive.mono _ _ _ _ _ _ _ _ _ _ _ _ _ _ _ _ _ _ _)
      | (with_reducible exact LeO.refl _)
      | (with_reducible exact LeO.none _)
      | (with_reducible refine LeO.ite ?_ ?_)
      | (with_reducible refine LeO.bind ?_ (fun _ => ?_))
      | exact ih0 _ _ _
      | exact ih1 _ _ _ _ _ _ _ _
      | exact perilunelaw32_awake.mono _
      | exact periluneref32_Same.mono _ _ _
      | exact uplink_All.mono _ _
      | exact uplink_Receive.mono _ _ _ _ _ _ _ _ _ _ _ _ _ _ _ _ _ _ _
      | exact LeO.none _
      | refine LeO.ite ?_ ?_
      | refine LeO.bind ?_ (fun _ => ?_)
def perilunelaw32_UplinkSteps.T8 : Bool × List (List Nat × List Nat) := (true, [([], []), ([], []), ([], []), ([1, 2], [1, 2]), ([3], [3]), ([0, 4], [0, 4]), ([5], [5]), ([6], [6]), ([6], [6]), ([6], [6]), ([], []), ([10, 7, 5, 0, 1, 2, 3, 4, 5, 6, 7, 10], [7, 10]), ([8, 11, 0, 1, 2, 3, 4, 5, 6, 7, 8, 10, 11], [8]), ([9, 12, 0, 1, 2, 3, 4, 5, 6, 7, 8, 9, 10, 11, 12], [9])])
def perilunelaw32_UplinkSteps.B8 : List Nat := [0, 0, 0, 6, 14, 31, 63, 127, 127, 127, 0, 1279, 3583, 8191]
theorem perilunelaw32_UplinkSteps.tab8 : rtab .any (opsOf Try.f9 8) = perilunelaw32_UplinkSteps.T8 := by kernel_rfl
theorem perilunelaw32_UplinkSteps.bits8 : waitsOk perilunelaw32_UplinkSteps.T8.2 perilunelaw32_UplinkSteps.B8 = true := by kernel_rfl
set_option maxHeartbeats 8000000 in
set_option maxRecDepth 100000 in
theorem perilunelaw32_UplinkSteps.calls (k : Nat) (A0 : Option Addr) (c0 : Nat) (l0 : List (S22)) (A1 : Option Addr) (c1 : Nat) (l1 : List (S22)) (r : Bool) (w : World) (hr0 : Kd.C k22 w A0 l0.length l0) (hc0 : l0.length ≤ c0) (hr1 : Kd.C k22 w A1 l1.length l1) (hc1 : l1.length ≤ c1) (h : perilunelaw32_UplinkSteps.f k l0 l1 = some r) (hT_ : Aside0 (r = true)) :
    Calls Try.prog 9 #[.slice A0 l0.length c0, .slice A1 l1.length c1] w fun e w' => e = .returned (.bool r) ∧ Below w.heap.size w w' := by
  have hu31 := Try.underlying31
  have hu22 := Try.underlying22
  have HR0 := Aside0.mk hr0
  have HC0 := Aside0.mk hc0
  clear hr0 hc0
  have HR1 := Aside0.mk hr1
  have HC1 := Aside0.mk hc1
  clear hr1 hc1
  have HB := Aside0.mk (Below.refl w.heap.size w)
  have H : (if (l0.length : Int) > 400 then (perilunelaw32_UplinkSteps.j0 k l0 l1 true) else (perilunelaw32_UplinkSteps.j0 k l0 l1 (decide ((l1.length : Int) > 400)))) = some r := h
  clear h
  have HC3 := Aside0.mk H
  clear H
  go_enter Try.func9, Try.ntmps9
  go_upto_region 1 with (fail)
  go_cut [20] (fun v20 wc => ∃ (kq : Nat) (x20_2 : Bool), v20 = .bool x20_2 ∧ Aside0 (perilunelaw32_UplinkSteps.j0 kq l0 l1 x20_2 = some r) ∧ Aside0 (kq ≤ k) ∧ Aside0 (Below w.heap.size w wc))
  case first =>
    have H := HC3.out
    clear HC3
    by_cases c4 : (l0.length : Int) > 400
    · rw [if_pos c4] at H
      have c4b0 : decide (400 < (l0.length : Int)) = true := decide_eq_true c4
      have c4b1 : decide (400 < l0.length) = true := decide_eq_true (by omega)
      have c4b2 : 400 < l0.length := by omega
      clear c4
      (first | rw [c4b0] | (simp only [i64_w, i32_w]; rw [c4b0]) | rw [c4b1] | skip)
      have H' := Aside0.mk H
      clear H
      go_wp2
      go_meet
      case rel => exact ⟨_, (true), (by first | rfl | (simp; done) | (simp [*]; done)), H', ⟨by first | omega | exact Nat.le_refl _⟩, ⟨by repeat (first | (with_reducible first | exact HB.out | apply below_alloc | apply pw_below_drewN | apply below_drew1) | exact HB.out)⟩⟩
    · rw [if_neg c4] at H
      have c4b0 : decide (400 < (l0.length : Int)) = false := decide_eq_false c4
      have c4b1 : decide (400 < l0.length) = false := decide_eq_false (by omega)
      clear c4
      (first | rw [c4b0] | (simp only [i64_w, i32_w]; rw [c4b0]) | rw [c4b1] | skip)
      have H' := Aside0.mk H
      clear H
      go_wp2
      go_meet
      case rel => exact ⟨_, (decide ((l1.length : Int) > 400)), (by first | rfl | (simp; done) | (simp [*]; done)), H', ⟨by first | omega | exact Nat.le_refl _⟩, ⟨by repeat (first | (with_reducible first | exact HB.out | apply below_alloc | apply pw_below_drewN | apply below_drew1) | exact HB.out)⟩⟩
  case rest =>
    clear HC3
    try clear c1
    try clear p2
    try clear c4
    try clear c4b0
    try clear c4b1
    try clear c4b2
    obtain ⟨kq, x20_2, rfl, HA, HJ2, HB⟩ := hcut
    cases kq with
    | zero => exact absurd HA.out (by simp [perilunelaw32_UplinkSteps.j0])
    | succ kj2 =>
      have H := HA.out
      clear HA
      simp only [perilunelaw32_UplinkSteps.j0] at H
      by_cases c5 : x20_2 = true
      · subst c5
        have H1 : ((perilunelaw32_awake.f kj2).bind fun t459 => (some t459)) = some r := by rw [if_pos rfl] at H; exact H
        clear H
        have H := H1
        clear H1
        replace H := Option.bind_eq_some_iff.mp H
        obtain ⟨t459, A60, H⟩ := H
        replace H : (some t459) = some r := H
        have A6 := Aside0.mk A60
        clear A60
        obtain rfl := Option.some.inj H
        go_wp2_with (first | ((with_reducible refine gate_callee (f := 15) rfl ?_); refine goesL_ (some 21) rfl rfl Try.func15 (by kernel_rfl) rfl #[] rfl (by (try simp only [List.map_toArray, List.map_cons, List.map_nil]); first | done | rfl | (simp only [List.length_drop, List.length_take]; rfl)) ?_; (with_reducible refine (perilunelaw32_awake.calls kj2  t459 _ A6.out).mono ?_); rintro e w7 ⟨rfl, hb⟩; refine ⟨_, rfl, ?_⟩; have n0_ := Aside0.mk (below_step (by repeat (first | (with_reducible first | exact HB.out | apply below_alloc | apply pw_below_drewN | apply below_drew1) | exact HB.out)) hb); clear HB; have HB := n0_; clear n0_; (try clear hb); (try clear hb2); (try clear hk); (try clear hi)))
        go_ret
        exact ⟨by first | rfl | (simp [errW_none, errW_some] <;> rfl) | (simp [*, errW_none, errW_some] <;> rfl), by repeat (first | (with_reducible first | exact HB.out | apply below_alloc | apply pw_below_drewN | apply below_drew1) | exact HB.out)⟩
      · replace c5 := Bool.eq_false_iff.mpr c5
        subst c5
        have H1 : ((uplink_All.f kj2 l0).bind fun bt460 => ((some (([] : List (S22)) : List (S22))).bind fun y466 => (if y466.length + l0.length < 8796093022208 then ((some (y466 ++ l0 : List (S22))).bind fun y469 => (if y469.length + l1.length < 8796093022208 then ((uplink_All.f kj2 (y469 ++ l1)).bind fun bt475 => (perilunelaw32_UplinkSteps.l0 kj2 l1 bt460.1 bt475.1 0 bt460.2.1 bt460.2.2 bt475.2.1 bt475.2.2)) else (none))) else (none)))) = some r := by rw [if_neg (show ¬ (false = true) by decide)] at H; exact H
        clear H
        have H := H1
        clear H1
        replace H := Option.bind_eq_some_iff.mp H
        obtain ⟨⟨t460, t463, t464⟩, A80, H⟩ := H
        replace H : ((some (([] : List (S22)) : List (S22))).bind fun y466 => (if y466.length + l0.length < 8796093022208 then ((some (y466 ++ l0 : List (S22))).bind fun y469 => (if y469.length + l1.length < 8796093022208 then ((uplink_All.f kj2 (y469 ++ l1)).bind fun bt475 => (perilunelaw32_UplinkSteps.l0 kj2 l1 t460 bt475.1 0 t463 t464 bt475.2.1 bt475.2.2)) else (none))) else (none))) = some r := H
        have A8 := Aside0.mk A80
        clear A80
        obtain ⟨y466, hy466⟩ : ∃ y_ : List (S22), y_ = (([] : List (S22))) := ⟨_, rfl⟩
        replace H : (if y466.length + l0.length < 8796093022208 then ((some (y466 ++ l0 : List (S22))).bind fun y469 => (if y469.length + l1.length < 8796093022208 then ((uplink_All.f kj2 (y469 ++ l1)).bind fun bt475 => (perilunelaw32_UplinkSteps.l0 kj2 l1 t460 bt475.1 0 t463 t464 bt475.2.1 bt475.2.2)) else (none))) else (none)) = some r := by first | (rw [hy466]; with_reducible exact H) | (have H2_ := (Option.bind_some _ _).symm.trans H; rw [hy466]; with_reducible exact H2_) | (have H2_ := (Option.bind_some _ _).symm.trans H; with_reducible exact H2_) | with_reducible exact H | (rw [hy466]; exact H) | exact H
        have Ny466 := Aside0.mk hy466
        clear hy466
        by_cases c9 : y466.length + l0.length < 8796093022208
        · rw [if_pos c9] at H
          have LMc9 := Aside0.mk c9
          clear c9
          obtain ⟨y469, hy469⟩ : ∃ y_ : List (S22), y_ = (y466 ++ l0) := ⟨_, rfl⟩
          replace H : (if y469.length + l1.length < 8796093022208 then ((uplink_All.f kj2 (y469 ++ l1)).bind fun bt475 => (perilunelaw32_UplinkSteps.l0 kj2 l1 t460 bt475.1 0 t463 t464 bt475.2.1 bt475.2.2)) else (none)) = some r := by first | (rw [hy469]; with_reducible exact H) | (have H2_ := (Option.bind_some _ _).symm.trans H; rw [hy469]; with_reducible exact H2_) | (have H2_ := (Option.bind_some _ _).symm.trans H; with_reducible exact H2_) | with_reducible exact H | (rw [hy469]; exact H) | exact H
          have Ny469 := Aside0.mk hy469
          clear hy469
          by_cases c10 : y469.length + l1.length < 8796093022208
          · rw [if_pos c10] at H
            have LMc10 := Aside0.mk c10
            clear c10
            obtain ⟨y472, hy472⟩ : ∃ y_ : List (S22), y_ = (y469 ++ l1) := ⟨_, rfl⟩
            replace H : ((uplink_All.f kj2 y472).bind fun bt475 => (perilunelaw32_UplinkSteps.l0 kj2 l1 t460 bt475.1 0 t463 t464 bt475.2.1 bt475.2.2)) = some r := by first | (rw [hy472]; with_reducible exact H) | (have H2_ := (Option.bind_some _ _).symm.trans H; rw [hy472]; with_reducible exact H2_) | (have H2_ := (Option.bind_some _ _).symm.trans H; with_reducible exact H2_) | with_reducible exact H | (rw [hy472]; exact H) | exact H
            have Ny472 := Aside0.mk hy472
            clear hy472
            replace H := Option.bind_eq_some_iff.mp H
            obtain ⟨⟨t475, t478, t479⟩, A110, H⟩ := H
            replace H : (perilunelaw32_UplinkSteps.l0 kj2 l1 t460 t475 0 t463 t464 t478 t479) = some r := H
            have A11 := Aside0.mk A110
            clear A110
            have H' := Aside0.mk H
            clear H
            go_wp2_with (first | ((with_reducible refine gate_callee (f := 18) rfl ?_); refine goesL_ (some 24) rfl rfl Try.func18 (by kernel_rfl) rfl #[.slice A0 l0.length c0] rfl (by (try simp only [List.map_toArray, List.map_cons, List.map_nil]); first | done | rfl | (simp only [List.length_drop, List.length_take]; rfl)) ?_; (with_reducible refine (uplink_All.calls kj2 _ _ l0 t460 t463 t464 _ ?side1 ?side2 A8.out).mono ?_); (case side1 => repeat (first | exact (Kd.C_below HR0.out HB.out) | (with_reducible refine Kd.C_alloc ?_ _) | (with_reducible refine Kd.C_drewN ?_ _) | (with_reducible refine Kd.C_drew ?_))); (case side2 => exact HC0.out); rintro e w12 ⟨v461, rfl, ho0, hb⟩; refine ⟨_, rfl, ?_⟩; have n0_ := Aside0.mk (Kd.R_lower ho0 (below_size (by repeat (first | (with_reducible first | exact HB.out | apply below_alloc | apply pw_below_drewN | apply below_drew1) | exact HB.out)))); have n1_ := Aside0.mk (below_step (by repeat (first | (with_reducible first | exact HB.out | apply below_alloc | apply pw_below_drewN | apply below_drew1) | exact HB.out)) hb); clear HB; have HO462 := n0_; have HB := n1_; clear n0_ n1_; (try clear hb); (try clear hb2); (try clear hk); (try clear hi); (try clear ho0)) | ((with_reducible refine gate_dst (N := 6) rfl ?_); (try (refine gate_guard (by rfl) ?_; dsimp only)); refine box_event ?hg (N := 6) ?hd (cs := #[.bool false, .int .i64 0]) (t := 31) ?hr ?_; (case hd => rfl); (case hg => rfl); (case hr => first | (go_simp; done) | (go_simp; rfl)); intro gb465 hg w13 hbox hb; have n0_ := Aside0.mk (Kd.R_below (by (with_reducible repeat (first | apply Kd.R_alloc | apply Kd.R_drewN | apply Kd.R_drew)); exact HO462.out) hb); have n1_ := Aside0.mk (below_step (by repeat (first | (with_reducible first | exact HB.out | apply below_alloc | apply pw_below_drewN | apply below_drew1) | exact HB.out)) hb); have n2_ := Aside0.mk (hbox); have n3_ := Aside0.mk ((by rw [hg]; exact (below_size (by repeat (first | (with_reducible first | exact HB.out | apply below_alloc | apply pw_below_drewN | apply below_drew1) | exact HB.out))) : w.heap.size ≤ gb465)); have n4_ := Aside0.mk ((by rw [hg]; exact (below_size (by repeat (first | (with_reducible first | exact HB.out | apply below_alloc | apply pw_below_drewN | apply below_drew1) | exact HB.out))) : w.heap.size ≤ gb465)); clear HO462; clear HB; have HO462 := n0_; have HB := n1_; have BK465 := n2_; have GW465 := n3_; have GE465 := n4_; clear n0_ n1_ n2_ n3_ n4_; clear hb hbox hg; have hcz14_0 : w13.cell? ⟨gb465, 0, none⟩ = some (.bool false) := (blk_cell BK465.out 0).trans rfl; have hcz14_1 : w13.cell? ⟨gb465, 1, none⟩ = some (.int .i64 0) := (blk_cell BK465.out 1).trans rfl; have hfz14_0 := blk_frozen BK465.out 0; have hfz14_1 := blk_frozen BK465.out 1) | ((with_reducible refine gate_dst (N := 28) rfl ?_); (try (refine gate_guard (by rfl) ?_; dsimp only)); refine Kd.R_lit k22 _ 22 ?hg (N := 28) ?hd (xs := ([] : List (S22))) (inner := []) (ok := fun _ => True) (okp := fun _ => True) ?hr ?hp (fun _ hk => hk) trivial (Below.refl _ _) (Nat.le_refl _) (by simp) ?_; (case hd => rfl); (case hg => rfl); (case hr => first | (go_simp; done) | (go_simp; rfl)); (case hp => exact (Reps.none _ _)); intro v467 w15 ho16 hb hg_ hnew_; clear hg_ hnew_; (first | rw [← Ny466.out] at ho16 | (simp only [Int.reduceToNat] at ho16; rw [← Ny466.out] at ho16)); have n0_ := Aside0.mk (Kd.R_below (by (with_reducible repeat (first | apply Kd.R_alloc | apply Kd.R_drewN | apply Kd.R_drew)); exact (Kd.R_mono (Kd.R_far (p := ⟨gb465, 1, none⟩) (Kd.R_far (p := ⟨gb465, 0, none⟩) (Kd.R_types HO462.out BK465.out (by decide)) (fun _ hk => hk.2) (.bool t463)) (fun _ hk => hk.2) (.int .i64 t464)) (fun _ h_ => h_.1))) hb); have n1_ := Aside0.mk (Kd.R_lower ho16 (below_size (by repeat (first | (with_reducible first | exact HB.out | apply below_alloc | apply pw_below_drewN | apply below_drew1 | refine below_set ?_ GE465.out) | exact HB.out)))); have n2_ := Aside0.mk (blk_below (g := gb465) (o := .cells #[.bool t463, .int .i64 t464] 31 (0, 0)) (by (with_reducible repeat (first | refine blk_drewN ?_ _ | refine blk_drew ?_ | refine blk_alloc ?_ _)); refine blk_put (cs := #[.bool t463, .int .i64 0]) ?_ (1) _ rfl; (with_reducible repeat (first | refine blk_drewN ?_ _ | refine blk_drew ?_ | refine blk_alloc ?_ _)); refine blk_put (cs := #[.bool false, .int .i64 0]) ?_ (0) _ rfl; (with_reducible repeat (first | refine blk_drewN ?_ _ | refine blk_drew ?_ | refine blk_alloc ?_ _)); exact BK465.out) hb); have n3_ := Aside0.mk (below_step (by repeat (first | (with_reducible first | exact HB.out | apply below_alloc | apply pw_below_drewN | apply below_drew1 | refine below_set ?_ GE465.out) | exact HB.out)) hb); clear HO462; clear BK465; clear HB; have HO462 := n0_; have HO468 := n1_; have BK465 := n2_; have HB := n3_; clear n0_ n1_ n2_ n3_; clear hb ho16) | ((with_reducible refine gate_builtin (b := .append) (xs := #[.tmp 28, .tmp 29]) rfl ?_); (try (refine gate_guard (by rfl) ?_; dsimp only)); at_builtin; refine Kd.R_append_rows k22 (w0 := w) w.heap.size rfl (.tmp 28) (.tmp 29) 37 22 (.agg #[(.int .u8 0), (.int .u8 0), (.int .u8 0), (.int .u8 0), (.int .u8 0), (.int .u8 0), (.int .u8 0), (.int .u8 0), (.int .u8 0), (.int .u8 0), (.int .u8 0), (.int .u8 0), (.int .u8 0), (.int .u8 0), (.int .u8 0), (.int .u8 0)]) 16 rfl Try.underlying37 info22 rfl (by decide) (by omega) v467 y466 l0 _ _ _ (fun _ => True) (fun _ => False) rfl rfl ?aO ?aR (fun _ _ h => h) (fun _ h => h.elim) ?aF ?aB ?aS ?aL ?_; (case aR => repeat (first | exact (Kd.C_below HR0.out HB.out) | (with_reducible refine Kd.C_alloc ?_ _) | (with_reducible refine Kd.C_drewN ?_ _) | (with_reducible refine Kd.C_drew ?_))); (case aB => exact (by repeat (first | (with_reducible first | exact HB.out | apply below_alloc | apply pw_below_drewN | apply below_drew1 | refine below_set ?_ GE465.out) | exact HB.out))); (case aF => exact (fun _ _ => trivial)); (case aO => exact (by (with_reducible repeat (first | apply Kd.R_alloc | apply Kd.R_drewN | apply Kd.R_drew)); exact HO468.out)); (case aS => exact (below_size (by repeat (first | (with_reducible first | exact HB.out | apply below_alloc | apply pw_below_drewN | apply below_drew1 | refine below_set ?_ GE465.out) | exact HB.out)))); (case aL => have := LMc9.out; omega); intro v470 w17 ho hb hg hat; rw [← Ny469.out] at ho; have n0_ := Aside0.mk (Kd.R_over' (by (with_reducible repeat (first | apply Kd.R_alloc | apply Kd.R_drewN | apply Kd.R_drew)); exact HO462.out) (Kd.R_typed (by (with_reducible repeat (first | apply Kd.R_alloc | apply Kd.R_drewN | apply Kd.R_drew)); exact HO468.out)) (by decide) hg); have n1_ := Aside0.mk (blk_grown (g := gb465) (o := .cells #[.bool t463, .int .i64 t464] 31 (0, 0)) (by (with_reducible repeat (first | refine blk_drewN ?_ _ | refine blk_drew ?_ | refine blk_alloc ?_ _)); exact BK465.out) hg (Kd.R_ne HO468.out BK465.out (by decide))); have n2_ := Aside0.mk (hb); have n3_ := Aside0.mk (ho); clear HO462; clear BK465; clear HB; clear HO468; have HO462 := n0_; have BK465 := n1_; have HB := n2_; have HO471 := n3_; clear n0_ n1_ n2_ n3_; clear ho hb hg hat) | ((with_reducible refine gate_builtin (b := .append) (xs := #[.tmp 30, .tmp 31]) rfl ?_); (try (refine gate_guard (by rfl) ?_; dsimp only)); at_builtin; refine Kd.R_append_rows k22 (w0 := w) w.heap.size rfl (.tmp 30) (.tmp 31) 37 22 (.agg #[(.int .u8 0), (.int .u8 0), (.int .u8 0), (.int .u8 0), (.int .u8 0), (.int .u8 0), (.int .u8 0), (.int .u8 0), (.int .u8 0), (.int .u8 0), (.int .u8 0), (.int .u8 0), (.int .u8 0), (.int .u8 0), (.int .u8 0), (.int .u8 0)]) 16 rfl Try.underlying37 info22 rfl (by decide) (by omega) v470 y469 l1 _ _ _ (fun _ => True) (fun _ => False) rfl rfl ?aO ?aR (fun _ _ h => h) (fun _ h => h.elim) ?aF ?aB ?aS ?aL ?_; (case aR => repeat (first | exact (Kd.C_below HR1.out HB.out) | (with_reducible refine Kd.C_alloc ?_ _) | (with_reducible refine Kd.C_drewN ?_ _) | (with_reducible refine Kd.C_drew ?_))); (case aB => exact (by repeat (first | (with_reducible first | exact HB.out | apply below_alloc | apply pw_below_drewN | apply below_drew1 | refine below_set ?_ GE465.out) | exact HB.out))); (case aF => exact (fun _ _ => trivial)); (case aO => exact (by (with_reducible repeat (first | apply Kd.R_alloc | apply Kd.R_drewN | apply Kd.R_drew)); exact HO471.out)); (case aS => exact (below_size (by repeat (first | (with_reducible first | exact HB.out | apply below_alloc | apply pw_below_drewN | apply below_drew1 | refine below_set ?_ GE465.out) | exact HB.out)))); (case aL => have := LMc10.out; omega); intro v473 w18 ho hb hg hat; rw [← Ny472.out] at ho; have n0_ := Aside0.mk (Kd.R_over' (by (with_reducible repeat (first | apply Kd.R_alloc | apply Kd.R_drewN | apply Kd.R_drew)); exact HO462.out) (Kd.R_typed (by (with_reducible repeat (first | apply Kd.R_alloc | apply Kd.R_drewN | apply Kd.R_drew)); exact HO471.out)) (by decide) hg); have n1_ := Aside0.mk (blk_grown (g := gb465) (o := .cells #[.bool t463, .int .i64 t464] 31 (0, 0)) (by (with_reducible repeat (first | refine blk_drewN ?_ _ | refine blk_drew ?_ | refine blk_alloc ?_ _)); exact BK465.out) hg (Kd.R_ne HO471.out BK465.out (by decide))); have n2_ := Aside0.mk (hb); have n3_ := Aside0.mk (ho); clear HO462; clear BK465; clear HB; clear HO471; have HO462 := n0_; have BK465 := n1_; have HB := n2_; have HO474 := n3_; clear n0_ n1_ n2_ n3_; clear ho hb hg hat; obtain ⟨Ao19, co19, eo19⟩ := Kd.R_slice HO474.out; subst eo19) | ((with_reducible refine gate_callee (f := 18) rfl ?_); refine goesL_ (some 33) rfl rfl Try.func18 (by kernel_rfl) rfl #[.slice Ao19 y472.length co19] rfl (by (try simp only [List.map_toArray, List.map_cons, List.map_nil]); first | done | rfl | (simp only [List.length_drop, List.length_take]; rfl)) ?_; (with_reducible refine (uplink_All.calls kj2 _ _ y472 t475 t478 t479 _ ?side1 ?side2 A11.out).mono ?_); (case side1 => repeat (first | exact (Kd.R_reads' HO474.out).2.2 | (with_reducible refine Kd.C_alloc ?_ _) | (with_reducible refine Kd.C_drewN ?_ _) | (with_reducible refine Kd.C_drew ?_))); (case side2 => exact (Kd.R_reads' HO474.out).2.1); rintro e w20 ⟨v476, rfl, ho0, hb⟩; refine ⟨_, rfl, ?_⟩; have n0_ := Aside0.mk (Kd.R_elder' (by (with_reducible repeat (first | apply Kd.R_alloc | apply Kd.R_drewN | apply Kd.R_drew)); exact HO462.out) (Kd.R_base ho0) hb); have n1_ := Aside0.mk (Kd.R_below (by (with_reducible repeat (first | apply Kd.R_alloc | apply Kd.R_drewN | apply Kd.R_drew)); exact HO474.out) hb); have n2_ := Aside0.mk (Kd.R_lower (Kd.R_new' ho0 (Kd.R_lt (by (with_reducible repeat (first | apply Kd.R_alloc | apply Kd.R_drewN | apply Kd.R_drew)); exact HO462.out))) (below_size (by repeat (first | (with_reducible first | exact HB.out | apply below_alloc | apply pw_below_drewN | apply below_drew1 | refine below_set ?_ GE465.out) | exact HB.out)))); have n3_ := Aside0.mk (blk_below (g := gb465) (o := .cells #[.bool t463, .int .i64 t464] 31 (0, 0)) (by (with_reducible repeat (first | refine blk_drewN ?_ _ | refine blk_drew ?_ | refine blk_alloc ?_ _)); exact BK465.out) hb); have n4_ := Aside0.mk (below_step (by repeat (first | (with_reducible first | exact HB.out | apply below_alloc | apply pw_below_drewN | apply below_drew1 | refine below_set ?_ GE465.out) | exact HB.out)) hb); clear HO462; clear HO474; clear BK465; clear HB; have HO462 := n0_; have HO474 := n1_; have HO477 := n2_; have BK465 := n3_; have HB := n4_; clear n0_ n1_ n2_ n3_ n4_; (try clear hb); (try clear hb2); (try clear hk); (try clear hi); (try clear ho0)) | ((with_reducible refine gate_dst (N := 8) rfl ?_); (try (refine gate_guard (by rfl) ?_; dsimp only)); refine box_event ?hg (N := 8) ?hd (cs := #[.bool false, .int .i64 0]) (t := 31) ?hr ?_; (case hd => rfl); (case hg => rfl); (case hr => first | (go_simp; done) | (go_simp; rfl)); intro gb480 hg w21 hbox hb; have n0_ := Aside0.mk (Kd.R_below (by (with_reducible repeat (first | apply Kd.R_alloc | apply Kd.R_drewN | apply Kd.R_drew)); exact HO462.out) hb); have n1_ := Aside0.mk (Kd.R_below (by (with_reducible repeat (first | apply Kd.R_alloc | apply Kd.R_drewN | apply Kd.R_drew)); exact HO474.out) hb); have n2_ := Aside0.mk (Kd.R_below (by (with_reducible repeat (first | apply Kd.R_alloc | apply Kd.R_drewN | apply Kd.R_drew)); exact HO477.out) hb); have n3_ := Aside0.mk (blk_below (g := gb465) (o := .cells #[.bool t463, .int .i64 t464] 31 (0, 0)) (by (with_reducible repeat (first | refine blk_drewN ?_ _ | refine blk_drew ?_ | refine blk_alloc ?_ _)); exact BK465.out) hb); have n4_ := Aside0.mk (below_step (by repeat (first | (with_reducible first | exact HB.out | apply below_alloc | apply pw_below_drewN | apply below_drew1 | refine below_set ?_ GE465.out) | exact HB.out)) hb); have n5_ := Aside0.mk (hbox); have n6_ := Aside0.mk ((by rw [hg]; exact (below_size (by repeat (first | (with_reducible first | exact HB.out | apply below_alloc | apply pw_below_drewN | apply below_drew1 | refine below_set ?_ GE465.out) | exact HB.out))) : w.heap.size ≤ gb480)); have n7_ := Aside0.mk ((by rw [hg]; exact (below_size (by repeat (first | (with_reducible first | exact HB.out | apply below_alloc | apply pw_below_drewN | apply below_drew1 | refine below_set ?_ GE465.out) | exact HB.out))) : w.heap.size ≤ gb480)); have n8_ := Aside0.mk ((by rw [hg]; exact Nat.ne_of_lt (blk_lt (g := gb465) (o := .cells #[.bool t463, .int .i64 t464] 31 (0, 0)) (by (with_reducible repeat (first | refine blk_drewN ?_ _ | refine blk_drew ?_ | refine blk_alloc ?_ _)); exact BK465.out)) : gb465 ≠ gb480)); have n9_ := Aside0.mk ((by rw [hg]; exact Nat.ne_of_gt (blk_lt (g := gb465) (o := .cells #[.bool t463, .int .i64 t464] 31 (0, 0)) (by (with_reducible repeat (first | refine blk_drewN ?_ _ | refine blk_drew ?_ | refine blk_alloc ?_ _)); exact BK465.out)) : gb480 ≠ gb465)); clear HO462; clear HO474; clear HO477; clear BK465; clear HB; have HO462 := n0_; have HO474 := n1_; have HO477 := n2_; have BK465 := n3_; have HB := n4_; have BK480 := n5_; have GW480 := n6_; have GE480 := n7_; have NB465_480 := n8_; have NB480_465 := n9_; clear n0_ n1_ n2_ n3_ n4_ n5_ n6_ n7_ n8_ n9_; clear hb hbox hg; have hnb22 := NB480_465.out; have hnc22 := NB465_480.out; have hcz23_0 : w21.cell? ⟨gb480, 0, none⟩ = some (.bool false) := (blk_cell BK480.out 0).trans rfl; have hcz23_1 : w21.cell? ⟨gb480, 1, none⟩ = some (.int .i64 0) := (blk_cell BK480.out 1).trans rfl; have hfz23_0 := blk_frozen BK480.out 0; have hfz23_1 := blk_frozen BK480.out 1))
            go_loopg [5, 9] kj2 (fun kq v5 v9 w' => ∃ (x5_2 : List Int) (x9_2 : Int) (x466000_2 : Bool) (x466001_2 : Int), v9 = .int .i64 x9_2 ∧ Aside0 (perilunelaw32_UplinkSteps.l0 kq l1 x5_2 t475 x9_2 x466000_2 x466001_2 t478 t479 = some r) ∧ Aside0 (kq ≤ kj2) ∧ Aside0 (Kd.R (Kd.int .i64) 3 w' w.heap.size (fun k_ => some k_ ≠ (v476 : Value).ownBlock) v5 x5_2) ∧ Aside0 (Kd.R (Kd.int .i64) 3 w' w.heap.size (fun k_ => some k_ ≠ (v5 : Value).ownBlock) v476 t475) ∧ Aside0 (w'.heap[gb465]? = some (.cells #[.bool x466000_2, .int .i64 x466001_2] 31 (0, 0))) ∧ Aside0 (w'.heap[gb480]? = some (.cells #[.bool t478, .int .i64 t479] 31 (0, 0))) ∧ Aside0 (Below w.heap.size w w'))
            case atStart => exact ⟨(t460), (0), (t463), (t464), (by first | rfl | (simp; done) | (simp [*]; done)), H', ⟨Nat.le_refl _⟩, ⟨by (with_reducible repeat (first | apply Kd.R_alloc | apply Kd.R_drewN | apply Kd.R_drew)); exact Kd.R_mono (Kd.R_far (p := ⟨gb480, 1, none⟩) (Kd.R_far (p := ⟨gb480, 0, none⟩) (Kd.R_types HO462.out BK480.out (by decide)) (fun _ hk => hk.2) (.bool t478)) (fun _ hk => hk.2) (.int .i64 t479)) (fun _ hk => hk.1.2)⟩, ⟨by (with_reducible repeat (first | apply Kd.R_alloc | apply Kd.R_drewN | apply Kd.R_drew)); exact Kd.R_mono (Kd.R_far (p := ⟨gb480, 1, none⟩) (Kd.R_far (p := ⟨gb480, 0, none⟩) (Kd.R_types HO477.out BK480.out (by decide)) (fun _ hk => hk.2) (.bool t478)) (fun _ hk => hk.2) (.int .i64 t479)) (fun _ hk => hk.1.2)⟩, ⟨by (with_reducible repeat (first | refine blk_drewN ?_ _ | refine blk_drew ?_ | refine blk_alloc ?_ _)); refine blk_far ?_ NB465_480.out _; (with_reducible repeat (first | refine blk_drewN ?_ _ | refine blk_drew ?_ | refine blk_alloc ?_ _)); refine blk_far ?_ NB465_480.out _; (with_reducible repeat (first | refine blk_drewN ?_ _ | refine blk_drew ?_ | refine blk_alloc ?_ _)); exact BK465.out⟩, ⟨by (with_reducible repeat (first | refine blk_drewN ?_ _ | refine blk_drew ?_ | refine blk_alloc ?_ _)); refine blk_put (cs := #[.bool t478, .int .i64 0]) ?_ (1) _ rfl; (with_reducible repeat (first | refine blk_drewN ?_ _ | refine blk_drew ?_ | refine blk_alloc ?_ _)); refine blk_put (cs := #[.bool false, .int .i64 0]) ?_ (0) _ rfl; (with_reducible repeat (first | refine blk_drewN ?_ _ | refine blk_drew ?_ | refine blk_alloc ?_ _)); exact BK480.out⟩, ⟨by repeat (first | (with_reducible first | exact HB.out | apply below_alloc | apply pw_below_drewN | apply below_drew1 | refine below_set ?_ GE465.out | refine below_set ?_ GE480.out) | exact HB.out)⟩⟩
            case round =>
              clear H'
              try clear c1
              try clear c2
              try clear p2
              try clear c4
              try clear c4b0
              try clear c4b1
              try clear c4b2
              try clear c5
              try clear c9
              try clear c10
              try clear c15
              try clear c18
              try clear c22
              try clear hcz14_0
              try clear hcz14_1
              try clear hcz23_0
              try clear hcz23_1
              try clear hfz14_0
              try clear hfz14_1
              try clear hfz23_0
              try clear hfz23_1
              try clear p2
              obtain ⟨x5_2, x9_2, x466000_2, x466001_2, rfl, HA, HK2, HO_5, HO_7, BK465, BK480, HB⟩ := hrel
              cases gk with
              | zero => exact absurd HA.out (by simp [perilunelaw32_UplinkSteps.l0])
              | succ k2 =>
                have H := HA.out
                clear HA
                simp only [perilunelaw32_UplinkSteps.l0] at H
                by_cases c24 : x9_2 < (l1.length : Int)
                · rw [if_pos c24] at H
                  have c24b0 : decide (x9_2 < (l1.length : Int)) = true := decide_eq_true c24
                  clear c24
                  by_cases c25 : 0 ≤ x9_2
                  · rw [if_pos c25] at H
                    have c25b0 : decide (0 ≤ x9_2) = true := decide_eq_true c25
                    clear c25
                    replace H := Option.bind_eq_some_iff.mp H
                    obtain ⟨⟨t484, t485, t486, t487⟩, A260, H⟩ := H
                    replace H : (if t487 = true then (if x5_2.length < 17592186044416 then (perilunelaw32_UplinkSteps.l0 k2 l1 (x5_2 ++ [t486]) t475 (wrap64 (x9_2 + 1)) t484 t485 t478 t479) else (none)) else (if t486 = 0 then (perilunelaw32_UplinkSteps.l0 k2 l1 x5_2 t475 (wrap64 (x9_2 + 1)) t484 t485 t478 t479) else (some false))) = some r := H
                    have A26 := Aside0.mk A260
                    clear A260
                    by_cases c27 : t487 = true
                    · subst c27
                      have H1 : (if x5_2.length < 17592186044416 then (perilunelaw32_UplinkSteps.l0 k2 l1 (x5_2 ++ [t486]) t475 (wrap64 (x9_2 + 1)) t484 t485 t478 t479) else (none)) = some r := by rw [if_pos rfl] at H; exact H
                      clear H
                      have H := H1
                      clear H1
                      by_cases c28 : x5_2.length < 17592186044416
                      · rw [if_pos c28] at H
                        have LMc28 := Aside0.mk c28
                        clear c28
                        obtain ⟨y489, hy489⟩ : ∃ y_ : List Int, y_ = (x5_2 ++ [t486]) := ⟨_, rfl⟩
                        replace H : (perilunelaw32_UplinkSteps.l0 k2 l1 y489 t475 (wrap64 (x9_2 + 1)) t484 t485 t478 t479) = some r := by first | (rw [hy489]; with_reducible exact H) | (have H2_ := (Option.bind_some _ _).symm.trans H; rw [hy489]; with_reducible exact H2_) | (have H2_ := (Option.bind_some _ _).symm.trans H; with_reducible exact H2_) | with_reducible exact H | (rw [hy489]; exact H) | exact H
                        have Ny489 := Aside0.mk hy489
                        clear hy489
                        have H' := Aside0.mk H
                        clear H
                        try go_wp2
                        have n0_ := Aside0.mk (Kd.R_drew HO_5.out)
                        have n1_ := Aside0.mk (Kd.R_drew HO_7.out)
                        have n2_ := Aside0.mk (blk_drew BK465.out)
                        have n3_ := Aside0.mk (blk_drew BK480.out)
                        have n4_ := Aside0.mk (below_drew1 HB.out)
                        clear HO_5
                        clear HO_7
                        clear BK465
                        clear BK480
                        clear HB
                        have HO_5 := n0_
                        have HO_7 := n1_
                        have BK465 := n2_
                        have BK480 := n3_
                        have HB := n4_
                        clear n0_ n1_ n2_ n3_ n4_
                        have p483 : 0 ≤ (x9_2 : Int) := of_decide_eq_true (by first | (with_reducible assumption) | assumption)
                        have q483 : x9_2 < (l1.length : Int) := of_decide_eq_true (by first | (with_reducible assumption) | assumption)
                        obtain ⟨ad483, e483, hx483_0, hx483_1, hx483_2, hx483_3, hx483_4, hx483_5, hx483_6, hx483_7, hx483_8, hx483_9, hx483_10, hx483_11, hx483_12, hx483_13, hx483_14, hx483_15⟩ := at_T22 HR1.out x9_2 p483 q483
                        have hw483_15 := hx483_15
                        have hw483_14 := hx483_14
                        have hw483_13 := hx483_13
                        have hw483_12 := hx483_12
                        have hw483_11 := hx483_11
                        have hw483_10 := hx483_10
                        have hw483_9 := hx483_9
                        have hw483_8 := hx483_8
                        have hw483_7 := hx483_7
                        have hw483_6 := hx483_6
                        have hw483_5 := hx483_5
                        have hw483_4 := hx483_4
                        have hw483_3 := hx483_3
                        have hw483_2 := hx483_2
                        have hw483_1 := hx483_1
                        have hw483_0 := hx483_0
                        cases e483
                        replace hx483_0 := (HB.out.cell (World.block_lt_of_cell? w _ hx483_0)).trans hx483_0
                        replace hx483_1 := (HB.out.cell (World.block_lt_of_cell? w _ hx483_1)).trans hx483_1
                        replace hx483_2 := (HB.out.cell (World.block_lt_of_cell? w _ hx483_2)).trans hx483_2
                        replace hx483_3 := (HB.out.cell (World.block_lt_of_cell? w _ hx483_3)).trans hx483_3
                        replace hx483_4 := (HB.out.cell (World.block_lt_of_cell? w _ hx483_4)).trans hx483_4
                        replace hx483_5 := (HB.out.cell (World.block_lt_of_cell? w _ hx483_5)).trans hx483_5
                        replace hx483_6 := (HB.out.cell (World.block_lt_of_cell? w _ hx483_6)).trans hx483_6
                        replace hx483_7 := (HB.out.cell (World.block_lt_of_cell? w _ hx483_7)).trans hx483_7
                        replace hx483_8 := (HB.out.cell (World.block_lt_of_cell? w _ hx483_8)).trans hx483_8
                        replace hx483_9 := (HB.out.cell (World.block_lt_of_cell? w _ hx483_9)).trans hx483_9
                        replace hx483_10 := (HB.out.cell (World.block_lt_of_cell? w _ hx483_10)).trans hx483_10
                        replace hx483_11 := (HB.out.cell (World.block_lt_of_cell? w _ hx483_11)).trans hx483_11
                        replace hx483_12 := (HB.out.cell (World.block_lt_of_cell? w _ hx483_12)).trans hx483_12
                        replace hx483_13 := (HB.out.cell (World.block_lt_of_cell? w _ hx483_13)).trans hx483_13
                        replace hx483_14 := (HB.out.cell (World.block_lt_of_cell? w _ hx483_14)).trans hx483_14
                        replace hx483_15 := (HB.out.cell (World.block_lt_of_cell? w _ hx483_15)).trans hx483_15
                        replace p483 := eq_true p483
                        replace q483 := eq_true q483
                        refine start_ (n := 14) (S := fun w' => w'.cell? ⟨gb465, 0, none⟩ = some (.bool x466000_2) ∧ w'.cell? ⟨gb465, 1, none⟩ = some (.int .i64 x466001_2) ∧ w'.cell? (ad483.add ((x9_2).toNat * 16)) = some (.int .u8 ((rd_T22 l1 x9_2).f0)) ∧ w'.cell? ⟨(ad483.add ((x9_2).toNat * 16)).block, (ad483.add ((x9_2).toNat * 16)).off + 1, none⟩ = some (.int .u8 ((rd_T22 l1 x9_2).f1)) ∧ w'.cell? ⟨(ad483.add ((x9_2).toNat * 16)).block, (ad483.add ((x9_2).toNat * 16)).off + 2, none⟩ = some (.int .u8 ((rd_T22 l1 x9_2).f2)) ∧ w'.cell? ⟨(ad483.add ((x9_2).toNat * 16)).block, (ad483.add ((x9_2).toNat * 16)).off + 3, none⟩ = some (.int .u8 ((rd_T22 l1 x9_2).f3)) ∧ w'.cell? ⟨(ad483.add ((x9_2).toNat * 16)).block, (ad483.add ((x9_2).toNat * 16)).off + 4, none⟩ = some (.int .u8 ((rd_T22 l1 x9_2).f4)) ∧ w'.cell? ⟨(ad483.add ((x9_2).toNat * 16)).block, (ad483.add ((x9_2).toNat * 16)).off + 5, none⟩ = some (.int .u8 ((rd_T22 l1 x9_2).f5)) ∧ w'.cell? ⟨(ad483.add ((x9_2).toNat * 16)).block, (ad483.add ((x9_2).toNat * 16)).off + 6, none⟩ = some (.int .u8 ((rd_T22 l1 x9_2).f6)) ∧ w'.cell? ⟨(ad483.add ((x9_2).toNat * 16)).block, (ad483.add ((x9_2).toNat * 16)).off + 7, none⟩ = some (.int .u8 ((rd_T22 l1 x9_2).f7)) ∧ w'.cell? ⟨(ad483.add ((x9_2).toNat * 16)).block, (ad483.add ((x9_2).toNat * 16)).off + 8, none⟩ = some (.int .u8 ((rd_T22 l1 x9_2).f8)) ∧ w'.cell? ⟨(ad483.add ((x9_2).toNat * 16)).block, (ad483.add ((x9_2).toNat * 16)).off + 9, none⟩ = some (.int .u8 ((rd_T22 l1 x9_2).f9)) ∧ w'.cell? ⟨(ad483.add ((x9_2).toNat * 16)).block, (ad483.add ((x9_2).toNat * 16)).off + 10, none⟩ = some (.int .u8 ((rd_T22 l1 x9_2).f10)) ∧ w'.cell? ⟨(ad483.add ((x9_2).toNat * 16)).block, (ad483.add ((x9_2).toNat * 16)).off + 11, none⟩ = some (.int .u8 ((rd_T22 l1 x9_2).f11)) ∧ w'.cell? ⟨(ad483.add ((x9_2).toNat * 16)).block, (ad483.add ((x9_2).toNat * 16)).off + 12, none⟩ = some (.int .u8 ((rd_T22 l1 x9_2).f12)) ∧ w'.cell? ⟨(ad483.add ((x9_2).toNat * 16)).block, (ad483.add ((x9_2).toNat * 16)).off + 13, none⟩ = some (.int .u8 ((rd_T22 l1 x9_2).f13)) ∧ w'.cell? ⟨(ad483.add ((x9_2).toNat * 16)).block, (ad483.add ((x9_2).toNat * 16)).off + 14, none⟩ = some (.int .u8 ((rd_T22 l1 x9_2).f14)) ∧ w'.cell? ⟨(ad483.add ((x9_2).toNat * 16)).block, (ad483.add ((x9_2).toNat * 16)).off + 15, none⟩ = some (.int .u8 ((rd_T22 l1 x9_2).f15))) (ds := []) #[false, false, false, false, false, false, false, false, false, false, false, false, false, false] (by kernel_rfl) rfl rfl ⟨(blk_cell BK465.out 0).trans rfl, (blk_cell BK465.out 1).trans rfl, ((HB.out.cell (World.block_lt_of_cell? w _ hw483_0)).trans hw483_0), ((HB.out.cell (World.block_lt_of_cell? w _ hw483_1)).trans hw483_1), ((HB.out.cell (World.block_lt_of_cell? w _ hw483_2)).trans hw483_2), ((HB.out.cell (World.block_lt_of_cell? w _ hw483_3)).trans hw483_3), ((HB.out.cell (World.block_lt_of_cell? w _ hw483_4)).trans hw483_4), ((HB.out.cell (World.block_lt_of_cell? w _ hw483_5)).trans hw483_5), ((HB.out.cell (World.block_lt_of_cell? w _ hw483_6)).trans hw483_6), ((HB.out.cell (World.block_lt_of_cell? w _ hw483_7)).trans hw483_7), ((HB.out.cell (World.block_lt_of_cell? w _ hw483_8)).trans hw483_8), ((HB.out.cell (World.block_lt_of_cell? w _ hw483_9)).trans hw483_9), ((HB.out.cell (World.block_lt_of_cell? w _ hw483_10)).trans hw483_10), ((HB.out.cell (World.block_lt_of_cell? w _ hw483_11)).trans hw483_11), ((HB.out.cell (World.block_lt_of_cell? w _ hw483_12)).trans hw483_12), ((HB.out.cell (World.block_lt_of_cell? w _ hw483_13)).trans hw483_13), ((HB.out.cell (World.block_lt_of_cell? w _ hw483_14)).trans hw483_14), ((HB.out.cell (World.block_lt_of_cell? w _ hw483_15)).trans hw483_15)⟩ (fun hHeld => ?_); refine with_tabW perilunelaw32_UplinkSteps.tab8 perilunelaw32_UplinkSteps.bits8 (fun HT_ HW_ => ?_)
                        generalize wr.drew = w29 at HO_5 HO_7 BK465 BK480 HB hx483_0 hx483_1 hx483_10 hx483_11 hx483_12 hx483_13 hx483_14 hx483_15 hx483_2 hx483_3 hx483_4 hx483_5 hx483_6 hx483_7 hx483_8 hx483_9 hHeld ⊢
                        refine pure_ (i := 1) (N := some 44) (v := ?_) (a' := ?_) #[false, true, false, false, false, false, false, false, false, false, false, false, false, false] rfl rfl (any_of HT_.out (by kernel_rfl)) (fun _ _ _ h => h) (Or.inl ⟨by rfl, ?_⟩) ?_ ?_
                        rotate_left
                        · intro w'
                          go_simp
                          with_reducible rfl
                        rotate_left
                        · simp only [Act.put, List.setIfInBounds_toArray, List.set_cons_zero, List.set_cons_succ, i64_w, i32_w]
                          rfl
                        refine pure_ (i := 2) (N := some 45) (v := ?_) (a' := ?_) #[false, true, true, false, false, false, false, false, false, false, false, false, false, false] rfl rfl (any_of HT_.out (by kernel_rfl)) (fun _ _ _ h => h) (Or.inl ⟨by rfl, ?_⟩) ?_ ?_
                        rotate_left
                        · intro w'
                          go_simp
                          with_reducible rfl
                        rotate_left
                        · simp only [Act.put, List.setIfInBounds_toArray, List.set_cons_zero, List.set_cons_succ, i64_w, i32_w]
                          rfl
                        refine pure_ (i := 3) (N := some 46) (v := ?_) (a' := ?_) #[false, true, true, true, false, false, false, false, false, false, false, false, false, false] rfl rfl (any_of HT_.out (by kernel_rfl)) (fun _ _ _ h => h) (Or.inl ⟨by rfl, ?_⟩) ?_ ?_
                        rotate_left
                        · intro w'
                          go_simp
                          with_reducible rfl
                        rotate_left
                        · simp only [Act.put, List.setIfInBounds_toArray, List.set_cons_zero, List.set_cons_succ, i64_w, i32_w]
                          rfl
                        refine take_ (i := 0) (N := some 43) (v := ?_) (a' := ?_) #[true, true, true, true, false, false, false, false, false, false, false, false, false, false] rfl rfl (take_ofW HT_.out HW_.out (by kernel_rfl)) (fun _ _ _ h => h) (Or.inl ⟨by rfl, ?_⟩) hHeld ?_ ?_
                        rotate_left
                        · rintro w' ⟨s0, s1, s2, s3, s4, s5, s6, s7, s8, s9, s10, s11, s12, s13, s14, s15, s16, s17⟩
                          go_simp
                          with_reducible rfl
                        rotate_left
                        · simp only [Act.put, List.setIfInBounds_toArray, List.set_cons_zero, List.set_cons_succ, i64_w, i32_w]
                          rfl
                        refine take_ (i := 4) (N := some 47) (v := ?_) (a' := ?_) #[true, true, true, true, true, false, false, false, false, false, false, false, false, false] rfl rfl (take_ofW HT_.out HW_.out (by kernel_rfl)) (fun _ _ _ h => h) (Or.inl ⟨by rfl, ?_⟩) hHeld ?_ ?_
                        rotate_left
                        · rintro w' ⟨s0, s1, s2, s3, s4, s5, s6, s7, s8, s9, s10, s11, s12, s13, s14, s15, s16, s17⟩
                          go_simp
                          with_reducible rfl
                        rotate_left
                        · simp only [Act.put, List.setIfInBounds_toArray, List.set_cons_zero, List.set_cons_succ, i64_w, i32_w]
                          rfl
                        refine join_ (σ := Nat) 3 #[true, true, true, true, true, true, true, true, true, true, true, false, false, false] (fun s_ => [(48, .tuple #[.agg #[.bool t484, .int .i64 t485], .int .i64 t486, .bool true]), (10, .pointer (some ⟨s_, 0, none⟩)), (42, .tuple #[.agg #[.bool t484, .int .i64 t485], .int .i64 t486, .bool true]), (49, .agg #[.bool t484, .int .i64 t485]), (50, .int .i64 t486), (51, .bool true)]) (fun s_ w' => (w'.cell? ⟨gb465, 0, none⟩ = some (.bool x466000_2) ∧ w'.cell? ⟨gb465, 1, none⟩ = some (.int .i64 x466001_2) ∧ w'.cell? (ad483.add ((x9_2).toNat * 16)) = some (.int .u8 ((rd_T22 l1 x9_2).f0)) ∧ w'.cell? ⟨(ad483.add ((x9_2).toNat * 16)).block, (ad483.add ((x9_2).toNat * 16)).off + 1, none⟩ = some (.int .u8 ((rd_T22 l1 x9_2).f1)) ∧ w'.cell? ⟨(ad483.add ((x9_2).toNat * 16)).block, (ad483.add ((x9_2).toNat * 16)).off + 2, none⟩ = some (.int .u8 ((rd_T22 l1 x9_2).f2)) ∧ w'.cell? ⟨(ad483.add ((x9_2).toNat * 16)).block, (ad483.add ((x9_2).toNat * 16)).off + 3, none⟩ = some (.int .u8 ((rd_T22 l1 x9_2).f3)) ∧ w'.cell? ⟨(ad483.add ((x9_2).toNat * 16)).block, (ad483.add ((x9_2).toNat * 16)).off + 4, none⟩ = some (.int .u8 ((rd_T22 l1 x9_2).f4)) ∧ w'.cell? ⟨(ad483.add ((x9_2).toNat * 16)).block, (ad483.add ((x9_2).toNat * 16)).off + 5, none⟩ = some (.int .u8 ((rd_T22 l1 x9_2).f5)) ∧ w'.cell? ⟨(ad483.add ((x9_2).toNat * 16)).block, (ad483.add ((x9_2).toNat * 16)).off + 6, none⟩ = some (.int .u8 ((rd_T22 l1 x9_2).f6)) ∧ w'.cell? ⟨(ad483.add ((x9_2).toNat * 16)).block, (ad483.add ((x9_2).toNat * 16)).off + 7, none⟩ = some (.int .u8 ((rd_T22 l1 x9_2).f7)) ∧ w'.cell? ⟨(ad483.add ((x9_2).toNat * 16)).block, (ad483.add ((x9_2).toNat * 16)).off + 8, none⟩ = some (.int .u8 ((rd_T22 l1 x9_2).f8)) ∧ w'.cell? ⟨(ad483.add ((x9_2).toNat * 16)).block, (ad483.add ((x9_2).toNat * 16)).off + 9, none⟩ = some (.int .u8 ((rd_T22 l1 x9_2).f9)) ∧ w'.cell? ⟨(ad483.add ((x9_2).toNat * 16)).block, (ad483.add ((x9_2).toNat * 16)).off + 10, none⟩ = some (.int .u8 ((rd_T22 l1 x9_2).f10)) ∧ w'.cell? ⟨(ad483.add ((x9_2).toNat * 16)).block, (ad483.add ((x9_2).toNat * 16)).off + 11, none⟩ = some (.int .u8 ((rd_T22 l1 x9_2).f11)) ∧ w'.cell? ⟨(ad483.add ((x9_2).toNat * 16)).block, (ad483.add ((x9_2).toNat * 16)).off + 12, none⟩ = some (.int .u8 ((rd_T22 l1 x9_2).f12)) ∧ w'.cell? ⟨(ad483.add ((x9_2).toNat * 16)).block, (ad483.add ((x9_2).toNat * 16)).off + 13, none⟩ = some (.int .u8 ((rd_T22 l1 x9_2).f13)) ∧ w'.cell? ⟨(ad483.add ((x9_2).toNat * 16)).block, (ad483.add ((x9_2).toNat * 16)).off + 14, none⟩ = some (.int .u8 ((rd_T22 l1 x9_2).f14)) ∧ w'.cell? ⟨(ad483.add ((x9_2).toNat * 16)).block, (ad483.add ((x9_2).toNat * 16)).off + 15, none⟩ = some (.int .u8 ((rd_T22 l1 x9_2).f15))) ∧ (Kd.R (Kd.int .i64) 3 w' w.heap.size (fun k_ => some k_ ≠ (v476 : Value).ownBlock) u5 x5_2) ∧ (Kd.R (Kd.int .i64) 3 w' w.heap.size (fun k_ => some k_ ≠ (u5 : Value).ownBlock) v476 t475) ∧ (w'.heap[gb465]? = some (.cells #[.bool x466000_2, .int .i64 x466001_2] 31 (0, 0))) ∧ (w'.heap[gb480]? = some (.cells #[.bool t478, .int .i64 t479] 31 (0, 0))) ∧ (w'.heap[s_]? = some (.cells #[.bool false, .int .i64 0] 31 (0, 0))) ∧ (w.heap.size ≤ s_) ∧ (w.heap.size ≤ s_) ∧ (gb465 ≠ s_) ∧ (s_ ≠ gb465) ∧ (gb480 ≠ s_) ∧ (s_ ≠ gb480) ∧ (Below w.heap.size w w')) ?_ ?_
                        rotate_left
                        · intro hCont
                          refine two_ (i := 5) (j := 10) (Ni := some 48) (Nj := some 10) #[true, true, true, true, true, true, false, false, false, false, false, false, false, false] #[true, true, true, true, true, false, false, false, false, false, true, false, false, false] rfl rfl rfl rfl (two_of HT_.out (by kernel_rfl)) (by decide) (by decide) (fun K hK => ?_) (fun K hK => ?_)
                          · skip
                            refine goes_ Try.func16 (by kernel_rfl) rfl #[.agg #[.bool x466000_2, .int .i64 x466001_2], .agg #[.int .u8 ((rd_T22 l1 x9_2).f0), .int .u8 ((rd_T22 l1 x9_2).f1), .int .u8 ((rd_T22 l1 x9_2).f2), .int .u8 ((rd_T22 l1 x9_2).f3), .int .u8 ((rd_T22 l1 x9_2).f4), .int .u8 ((rd_T22 l1 x9_2).f5), .int .u8 ((rd_T22 l1 x9_2).f6), .int .u8 ((rd_T22 l1 x9_2).f7), .int .u8 ((rd_T22 l1 x9_2).f8), .int .u8 ((rd_T22 l1 x9_2).f9), .int .u8 ((rd_T22 l1 x9_2).f10), .int .u8 ((rd_T22 l1 x9_2).f11), .int .u8 ((rd_T22 l1 x9_2).f12), .int .u8 ((rd_T22 l1 x9_2).f13), .int .u8 ((rd_T22 l1 x9_2).f14), .int .u8 ((rd_T22 l1 x9_2).f15)]] (by rfl) rfl rfl (by (try simp only [List.map_toArray, List.map_cons, List.map_nil]); first | done | rfl | (simp only [List.length_drop, List.length_take]; rfl)) ?_
                            with_reducible refine (uplink_Receive.calls k2 x466000_2 x466001_2 ((rd_T22 l1 x9_2).f0) ((rd_T22 l1 x9_2).f1) ((rd_T22 l1 x9_2).f2) ((rd_T22 l1 x9_2).f3) ((rd_T22 l1 x9_2).f4) ((rd_T22 l1 x9_2).f5) ((rd_T22 l1 x9_2).f6) ((rd_T22 l1 x9_2).f7) ((rd_T22 l1 x9_2).f8) ((rd_T22 l1 x9_2).f9) ((rd_T22 l1 x9_2).f10) ((rd_T22 l1 x9_2).f11) ((rd_T22 l1 x9_2).f12) ((rd_T22 l1 x9_2).f13) ((rd_T22 l1 x9_2).f14) ((rd_T22 l1 x9_2).f15) t484 t485 t486 true _ A26.out).mono ?_
                            rintro e w30 ⟨rfl, hb⟩
                            refine ⟨_, rfl, ?_⟩
                            have n0_ := Aside0.mk (Kd.R_below (by (with_reducible repeat (first | apply Kd.R_alloc | apply Kd.R_drewN | apply Kd.R_drew)); exact HO_5.out) hb)
                            have n1_ := Aside0.mk (Kd.R_below (by (with_reducible repeat (first | apply Kd.R_alloc | apply Kd.R_drewN | apply Kd.R_drew)); exact HO_7.out) hb)
                            have n2_ := Aside0.mk (blk_below (g := gb465) (o := .cells #[.bool x466000_2, .int .i64 x466001_2] 31 (0, 0)) (by (with_reducible repeat (first | refine blk_drewN ?_ _ | refine blk_drew ?_ | refine blk_alloc ?_ _)); exact BK465.out) hb)
                            have n3_ := Aside0.mk (blk_below (g := gb480) (o := .cells #[.bool t478, .int .i64 t479] 31 (0, 0)) (by (with_reducible repeat (first | refine blk_drewN ?_ _ | refine blk_drew ?_ | refine blk_alloc ?_ _)); exact BK480.out) hb)
                            have n4_ := Aside0.mk (below_step (by repeat (first | (with_reducible first | exact HB.out | apply below_alloc | apply pw_below_drewN | apply below_drew1 | refine below_set ?_ GE465.out | refine below_set ?_ GE480.out) | exact HB.out)) hb)
                            clear HO_5
                            clear HO_7
                            clear BK465
                            clear BK480
                            clear HB
                            have HO_5 := n0_
                            have HO_7 := n1_
                            have BK465 := n2_
                            have BK480 := n3_
                            have HB := n4_
                            clear n0_ n1_ n2_ n3_ n4_
                            (try clear hb)
                            (try clear hb2)
                            (try clear hk)
                            (try clear hi)
                            refine hK.out _ _ ⟨(blk_cell BK465.out 0).trans rfl, (blk_cell BK465.out 1).trans rfl, ((HB.out.cell (World.block_lt_of_cell? w _ hw483_0)).trans hw483_0), ((HB.out.cell (World.block_lt_of_cell? w _ hw483_1)).trans hw483_1), ((HB.out.cell (World.block_lt_of_cell? w _ hw483_2)).trans hw483_2), ((HB.out.cell (World.block_lt_of_cell? w _ hw483_3)).trans hw483_3), ((HB.out.cell (World.block_lt_of_cell? w _ hw483_4)).trans hw483_4), ((HB.out.cell (World.block_lt_of_cell? w _ hw483_5)).trans hw483_5), ((HB.out.cell (World.block_lt_of_cell? w _ hw483_6)).trans hw483_6), ((HB.out.cell (World.block_lt_of_cell? w _ hw483_7)).trans hw483_7), ((HB.out.cell (World.block_lt_of_cell? w _ hw483_8)).trans hw483_8), ((HB.out.cell (World.block_lt_of_cell? w _ hw483_9)).trans hw483_9), ((HB.out.cell (World.block_lt_of_cell? w _ hw483_10)).trans hw483_10), ((HB.out.cell (World.block_lt_of_cell? w _ hw483_11)).trans hw483_11), ((HB.out.cell (World.block_lt_of_cell? w _ hw483_12)).trans hw483_12), ((HB.out.cell (World.block_lt_of_cell? w _ hw483_13)).trans hw483_13), ((HB.out.cell (World.block_lt_of_cell? w _ hw483_14)).trans hw483_14), ((HB.out.cell (World.block_lt_of_cell? w _ hw483_15)).trans hw483_15)⟩ (fun hHeld => ?_)
                            clear hK K
                            refine norm_ (a' := ?_) ?_ ?_
                            rotate_left
                            · show Act.put _ (some 48) _ = _
                              simp only [Act.put, List.setIfInBounds_toArray, List.set_cons_zero, List.set_cons_succ, i64_w, i32_w]
                              rfl
                            refine pure_ (i := 6) (N := some 42) (v := ?_) (a' := ?_) #[true, true, true, true, true, true, true, false, false, false, false, false, false, false] rfl rfl (any_of HT_.out (by kernel_rfl)) (fun _ _ _ h => h) (Or.inl ⟨by rfl, ?_⟩) ?_ ?_
                            rotate_left
                            · intro w'
                              go_simp
                              with_reducible rfl
                            rotate_left
                            · simp only [Act.put, List.setIfInBounds_toArray, List.set_cons_zero, List.set_cons_succ, i64_w, i32_w]
                              rfl
                            refine pure_ (i := 7) (N := some 49) (v := ?_) (a' := ?_) #[true, true, true, true, true, true, true, true, false, false, false, false, false, false] rfl rfl (any_of HT_.out (by kernel_rfl)) (fun _ _ _ h => h) (Or.inl ⟨by rfl, ?_⟩) ?_ ?_
                            rotate_left
                            · intro w'
                              go_simp
                              with_reducible rfl
                            rotate_left
                            · simp only [Act.put, List.setIfInBounds_toArray, List.set_cons_zero, List.set_cons_succ, i64_w, i32_w]
                              rfl
                            refine pure_ (i := 8) (N := some 50) (v := ?_) (a' := ?_) #[true, true, true, true, true, true, true, true, true, false, false, false, false, false] rfl rfl (any_of HT_.out (by kernel_rfl)) (fun _ _ _ h => h) (Or.inl ⟨by rfl, ?_⟩) ?_ ?_
                            rotate_left
                            · intro w'
                              go_simp
                              with_reducible rfl
                            rotate_left
                            · simp only [Act.put, List.setIfInBounds_toArray, List.set_cons_zero, List.set_cons_succ, i64_w, i32_w]
                              rfl
                            refine pure_ (i := 9) (N := some 51) (v := ?_) (a' := ?_) #[true, true, true, true, true, true, true, true, true, true, false, false, false, false] rfl rfl (any_of HT_.out (by kernel_rfl)) (fun _ _ _ h => h) (Or.inl ⟨by rfl, ?_⟩) ?_ ?_
                            rotate_left
                            · intro w'
                              go_simp
                              with_reducible rfl
                            rotate_left
                            · simp only [Act.put, List.setIfInBounds_toArray, List.set_cons_zero, List.set_cons_succ, i64_w, i32_w]
                              rfl
                            refine one_ (i := 10) (N := some 10) #[true, true, true, true, true, true, true, true, true, true, true, false, false, false] rfl rfl (one_of HT_.out (by kernel_rfl)) (by decide) (fun K hK => ?_)
                            refine box_step ?hg (N := 10) ?hd (cs := #[.bool false, .int .i64 0]) (t := 31) ?hr ?_; (case hd => rfl); (case hg => rfl); (case hr => first | (go_simp; done) | (go_simp; rfl))
                            intro gb488 hg w31 hbox hb
                            have n0_ := Aside0.mk (Kd.R_below (by (with_reducible repeat (first | apply Kd.R_alloc | apply Kd.R_drewN | apply Kd.R_drew)); exact HO_5.out) hb)
                            have n1_ := Aside0.mk (Kd.R_below (by (with_reducible repeat (first | apply Kd.R_alloc | apply Kd.R_drewN | apply Kd.R_drew)); exact HO_7.out) hb)
                            have n2_ := Aside0.mk (blk_below (g := gb465) (o := .cells #[.bool x466000_2, .int .i64 x466001_2] 31 (0, 0)) (by (with_reducible repeat (first | refine blk_drewN ?_ _ | refine blk_drew ?_ | refine blk_alloc ?_ _)); exact BK465.out) hb)
                            have n3_ := Aside0.mk (blk_below (g := gb480) (o := .cells #[.bool t478, .int .i64 t479] 31 (0, 0)) (by (with_reducible repeat (first | refine blk_drewN ?_ _ | refine blk_drew ?_ | refine blk_alloc ?_ _)); exact BK480.out) hb)
                            have n4_ := Aside0.mk (below_step (by repeat (first | (with_reducible first | exact HB.out | apply below_alloc | apply pw_below_drewN | apply below_drew1 | refine below_set ?_ GE465.out | refine below_set ?_ GE480.out) | exact HB.out)) hb)
                            have n5_ := Aside0.mk (hbox)
                            have n6_ := Aside0.mk ((by rw [hg]; exact (below_size (by repeat (first | (with_reducible first | exact HB.out | apply below_alloc | apply pw_below_drewN | apply below_drew1 | refine below_set ?_ GE465.out | refine below_set ?_ GE480.out) | exact HB.out))) : w.heap.size ≤ gb488))
                            have n7_ := Aside0.mk ((by rw [hg]; exact (below_size (by repeat (first | (with_reducible first | exact HB.out | apply below_alloc | apply pw_below_drewN | apply below_drew1 | refine below_set ?_ GE465.out | refine below_set ?_ GE480.out) | exact HB.out))) : w.heap.size ≤ gb488))
                            have n8_ := Aside0.mk ((by rw [hg]; exact Nat.ne_of_lt (blk_lt (g := gb465) (o := .cells #[.bool x466000_2, .int .i64 x466001_2] 31 (0, 0)) (by (with_reducible repeat (first | refine blk_drewN ?_ _ | refine blk_drew ?_ | refine blk_alloc ?_ _)); exact BK465.out)) : gb465 ≠ gb488))
                            have n9_ := Aside0.mk ((by rw [hg]; exact Nat.ne_of_gt (blk_lt (g := gb465) (o := .cells #[.bool x466000_2, .int .i64 x466001_2] 31 (0, 0)) (by (with_reducible repeat (first | refine blk_drewN ?_ _ | refine blk_drew ?_ | refine blk_alloc ?_ _)); exact BK465.out)) : gb488 ≠ gb465))
                            have n10_ := Aside0.mk ((by rw [hg]; exact Nat.ne_of_lt (blk_lt (g := gb480) (o := .cells #[.bool t478, .int .i64 t479] 31 (0, 0)) (by (with_reducible repeat (first | refine blk_drewN ?_ _ | refine blk_drew ?_ | refine blk_alloc ?_ _)); exact BK480.out)) : gb480 ≠ gb488))
                            have n11_ := Aside0.mk ((by rw [hg]; exact Nat.ne_of_gt (blk_lt (g := gb480) (o := .cells #[.bool t478, .int .i64 t479] 31 (0, 0)) (by (with_reducible repeat (first | refine blk_drewN ?_ _ | refine blk_drew ?_ | refine blk_alloc ?_ _)); exact BK480.out)) : gb488 ≠ gb480))
                            clear HO_5
                            clear HO_7
                            clear BK465
                            clear BK480
                            clear HB
                            have HO_5 := n0_
                            have HO_7 := n1_
                            have BK465 := n2_
                            have BK480 := n3_
                            have HB := n4_
                            have BK488 := n5_
                            have GW488 := n6_
                            have GE488 := n7_
                            have NB465_488 := n8_
                            have NB488_465 := n9_
                            have NB480_488 := n10_
                            have NB488_480 := n11_
                            clear n0_ n1_ n2_ n3_ n4_ n5_ n6_ n7_ n8_ n9_ n10_ n11_
                            clear hb hbox hg
                            refine hK.out _ _ ⟨(blk_cell BK465.out 0).trans rfl, (blk_cell BK465.out 1).trans rfl, ((HB.out.cell (World.block_lt_of_cell? w _ hw483_0)).trans hw483_0), ((HB.out.cell (World.block_lt_of_cell? w _ hw483_1)).trans hw483_1), ((HB.out.cell (World.block_lt_of_cell? w _ hw483_2)).trans hw483_2), ((HB.out.cell (World.block_lt_of_cell? w _ hw483_3)).trans hw483_3), ((HB.out.cell (World.block_lt_of_cell? w _ hw483_4)).trans hw483_4), ((HB.out.cell (World.block_lt_of_cell? w _ hw483_5)).trans hw483_5), ((HB.out.cell (World.block_lt_of_cell? w _ hw483_6)).trans hw483_6), ((HB.out.cell (World.block_lt_of_cell? w _ hw483_7)).trans hw483_7), ((HB.out.cell (World.block_lt_of_cell? w _ hw483_8)).trans hw483_8), ((HB.out.cell (World.block_lt_of_cell? w _ hw483_9)).trans hw483_9), ((HB.out.cell (World.block_lt_of_cell? w _ hw483_10)).trans hw483_10), ((HB.out.cell (World.block_lt_of_cell? w _ hw483_11)).trans hw483_11), ((HB.out.cell (World.block_lt_of_cell? w _ hw483_12)).trans hw483_12), ((HB.out.cell (World.block_lt_of_cell? w _ hw483_13)).trans hw483_13), ((HB.out.cell (World.block_lt_of_cell? w _ hw483_14)).trans hw483_14), ((HB.out.cell (World.block_lt_of_cell? w _ hw483_15)).trans hw483_15)⟩ (fun hHeld => ?_)
                            clear hK K
                            refine norm_ (a' := ?_) ?_ ?_
                            rotate_left
                            · show Act.put _ (some 10) _ = _
                              simp only [Act.put, List.setIfInBounds_toArray, List.set_cons_zero, List.set_cons_succ, i64_w, i32_w]
                              rfl
                            exact norm_ (by simp only [putAll, Act.put, List.setIfInBounds_toArray, List.set_cons_zero, List.set_cons_succ]) (hCont (gb488) _ ⟨hHeld, (by (with_reducible repeat (first | apply Kd.R_alloc | apply Kd.R_drewN | apply Kd.R_drew)); exact HO_5.out), (by (with_reducible repeat (first | apply Kd.R_alloc | apply Kd.R_drewN | apply Kd.R_drew)); exact HO_7.out), (by (with_reducible repeat (first | refine blk_drewN ?_ _ | refine blk_drew ?_ | refine blk_alloc ?_ _)); exact BK465.out), (by (with_reducible repeat (first | refine blk_drewN ?_ _ | refine blk_drew ?_ | refine blk_alloc ?_ _)); exact BK480.out), (by (with_reducible repeat (first | refine blk_drewN ?_ _ | refine blk_drew ?_ | refine blk_alloc ?_ _)); exact BK488.out), GW488.out, GE488.out, NB465_488.out, NB488_465.out, NB480_488.out, NB488_480.out, (by repeat (first | (with_reducible first | exact HB.out | apply below_alloc | apply pw_below_drewN | apply below_drew1 | refine below_set ?_ GE465.out | refine below_set ?_ GE480.out | refine below_set ?_ GE488.out) | exact HB.out))⟩)
                          · skip
                            refine box_step ?hg (N := 10) ?hd (cs := #[.bool false, .int .i64 0]) (t := 31) ?hr ?_; (case hd => rfl); (case hg => rfl); (case hr => first | (go_simp; done) | (go_simp; rfl))
                            intro gb488 hg w30 hbox hb
                            have n0_ := Aside0.mk (Kd.R_below (by (with_reducible repeat (first | apply Kd.R_alloc | apply Kd.R_drewN | apply Kd.R_drew)); exact HO_5.out) hb)
                            have n1_ := Aside0.mk (Kd.R_below (by (with_reducible repeat (first | apply Kd.R_alloc | apply Kd.R_drewN | apply Kd.R_drew)); exact HO_7.out) hb)
                            have n2_ := Aside0.mk (blk_below (g := gb465) (o := .cells #[.bool x466000_2, .int .i64 x466001_2] 31 (0, 0)) (by (with_reducible repeat (first | refine blk_drewN ?_ _ | refine blk_drew ?_ | refine blk_alloc ?_ _)); exact BK465.out) hb)
                            have n3_ := Aside0.mk (blk_below (g := gb480) (o := .cells #[.bool t478, .int .i64 t479] 31 (0, 0)) (by (with_reducible repeat (first | refine blk_drewN ?_ _ | refine blk_drew ?_ | refine blk_alloc ?_ _)); exact BK480.out) hb)
                            have n4_ := Aside0.mk (below_step (by repeat (first | (with_reducible first | exact HB.out | apply below_alloc | apply pw_below_drewN | apply below_drew1 | refine below_set ?_ GE465.out | refine below_set ?_ GE480.out) | exact HB.out)) hb)
                            have n5_ := Aside0.mk (hbox)
                            have n6_ := Aside0.mk ((by rw [hg]; exact (below_size (by repeat (first | (with_reducible first | exact HB.out | apply below_alloc | apply pw_below_drewN | apply below_drew1 | refine below_set ?_ GE465.out | refine below_set ?_ GE480.out) | exact HB.out))) : w.heap.size ≤ gb488))
                            have n7_ := Aside0.mk ((by rw [hg]; exact (below_size (by repeat (first | (with_reducible first | exact HB.out | apply below_alloc | apply pw_below_drewN | apply below_drew1 | refine below_set ?_ GE465.out | refine below_set ?_ GE480.out) | exact HB.out))) : w.heap.size ≤ gb488))
                            have n8_ := Aside0.mk ((by rw [hg]; exact Nat.ne_of_lt (blk_lt (g := gb465) (o := .cells #[.bool x466000_2, .int .i64 x466001_2] 31 (0, 0)) (by (with_reducible repeat (first | refine blk_drewN ?_ _ | refine blk_drew ?_ | refine blk_alloc ?_ _)); exact BK465.out)) : gb465 ≠ gb488))
                            have n9_ := Aside0.mk ((by rw [hg]; exact Nat.ne_of_gt (blk_lt (g := gb465) (o := .cells #[.bool x466000_2, .int .i64 x466001_2] 31 (0, 0)) (by (with_reducible repeat (first | refine blk_drewN ?_ _ | refine blk_drew ?_ | refine blk_alloc ?_ _)); exact BK465.out)) : gb488 ≠ gb465))
                            have n10_ := Aside0.mk ((by rw [hg]; exact Nat.ne_of_lt (blk_lt (g := gb480) (o := .cells #[.bool t478, .int .i64 t479] 31 (0, 0)) (by (with_reducible repeat (first | refine blk_drewN ?_ _ | refine blk_drew ?_ | refine blk_alloc ?_ _)); exact BK480.out)) : gb480 ≠ gb488))
                            have n11_ := Aside0.mk ((by rw [hg]; exact Nat.ne_of_gt (blk_lt (g := gb480) (o := .cells #[.bool t478, .int .i64 t479] 31 (0, 0)) (by (with_reducible repeat (first | refine blk_drewN ?_ _ | refine blk_drew ?_ | refine blk_alloc ?_ _)); exact BK480.out)) : gb488 ≠ gb480))
                            clear HO_5
                            clear HO_7
                            clear BK465
                            clear BK480
                            clear HB
                            have HO_5 := n0_
                            have HO_7 := n1_
                            have BK465 := n2_
                            have BK480 := n3_
                            have HB := n4_
                            have BK488 := n5_
                            have GW488 := n6_
                            have GE488 := n7_
                            have NB465_488 := n8_
                            have NB488_465 := n9_
                            have NB480_488 := n10_
                            have NB488_480 := n11_
                            clear n0_ n1_ n2_ n3_ n4_ n5_ n6_ n7_ n8_ n9_ n10_ n11_
                            clear hb hbox hg
                            refine hK.out _ _ ⟨(blk_cell BK465.out 0).trans rfl, (blk_cell BK465.out 1).trans rfl, ((HB.out.cell (World.block_lt_of_cell? w _ hw483_0)).trans hw483_0), ((HB.out.cell (World.block_lt_of_cell? w _ hw483_1)).trans hw483_1), ((HB.out.cell (World.block_lt_of_cell? w _ hw483_2)).trans hw483_2), ((HB.out.cell (World.block_lt_of_cell? w _ hw483_3)).trans hw483_3), ((HB.out.cell (World.block_lt_of_cell? w _ hw483_4)).trans hw483_4), ((HB.out.cell (World.block_lt_of_cell? w _ hw483_5)).trans hw483_5), ((HB.out.cell (World.block_lt_of_cell? w _ hw483_6)).trans hw483_6), ((HB.out.cell (World.block_lt_of_cell? w _ hw483_7)).trans hw483_7), ((HB.out.cell (World.block_lt_of_cell? w _ hw483_8)).trans hw483_8), ((HB.out.cell (World.block_lt_of_cell? w _ hw483_9)).trans hw483_9), ((HB.out.cell (World.block_lt_of_cell? w _ hw483_10)).trans hw483_10), ((HB.out.cell (World.block_lt_of_cell? w _ hw483_11)).trans hw483_11), ((HB.out.cell (World.block_lt_of_cell? w _ hw483_12)).trans hw483_12), ((HB.out.cell (World.block_lt_of_cell? w _ hw483_13)).trans hw483_13), ((HB.out.cell (World.block_lt_of_cell? w _ hw483_14)).trans hw483_14), ((HB.out.cell (World.block_lt_of_cell? w _ hw483_15)).trans hw483_15)⟩ (fun hHeld => ?_)
                            clear hK K
                            refine norm_ (a' := ?_) ?_ ?_
                            rotate_left
                            · show Act.put _ (some 10) _ = _
                              simp only [Act.put, List.setIfInBounds_toArray, List.set_cons_zero, List.set_cons_succ, i64_w, i32_w]
                              rfl
                            refine one_ (i := 5) (N := some 48) #[true, true, true, true, true, true, false, false, false, false, true, false, false, false] rfl rfl (one_of HT_.out (by kernel_rfl)) (by decide) (fun K hK => ?_)
                            refine goes_ Try.func16 (by kernel_rfl) rfl #[.agg #[.bool x466000_2, .int .i64 x466001_2], .agg #[.int .u8 ((rd_T22 l1 x9_2).f0), .int .u8 ((rd_T22 l1 x9_2).f1), .int .u8 ((rd_T22 l1 x9_2).f2), .int .u8 ((rd_T22 l1 x9_2).f3), .int .u8 ((rd_T22 l1 x9_2).f4), .int .u8 ((rd_T22 l1 x9_2).f5), .int .u8 ((rd_T22 l1 x9_2).f6), .int .u8 ((rd_T22 l1 x9_2).f7), .int .u8 ((rd_T22 l1 x9_2).f8), .int .u8 ((rd_T22 l1 x9_2).f9), .int .u8 ((rd_T22 l1 x9_2).f10), .int .u8 ((rd_T22 l1 x9_2).f11), .int .u8 ((rd_T22 l1 x9_2).f12), .int .u8 ((rd_T22 l1 x9_2).f13), .int .u8 ((rd_T22 l1 x9_2).f14), .int .u8 ((rd_T22 l1 x9_2).f15)]] (by rfl) rfl rfl (by (try simp only [List.map_toArray, List.map_cons, List.map_nil]); first | done | rfl | (simp only [List.length_drop, List.length_take]; rfl)) ?_
                            with_reducible refine (uplink_Receive.calls k2 x466000_2 x466001_2 ((rd_T22 l1 x9_2).f0) ((rd_T22 l1 x9_2).f1) ((rd_T22 l1 x9_2).f2) ((rd_T22 l1 x9_2).f3) ((rd_T22 l1 x9_2).f4) ((rd_T22 l1 x9_2).f5) ((rd_T22 l1 x9_2).f6) ((rd_T22 l1 x9_2).f7) ((rd_T22 l1 x9_2).f8) ((rd_T22 l1 x9_2).f9) ((rd_T22 l1 x9_2).f10) ((rd_T22 l1 x9_2).f11) ((rd_T22 l1 x9_2).f12) ((rd_T22 l1 x9_2).f13) ((rd_T22 l1 x9_2).f14) ((rd_T22 l1 x9_2).f15) t484 t485 t486 true _ A26.out).mono ?_
                            rintro e w31 ⟨rfl, hb⟩
                            refine ⟨_, rfl, ?_⟩
                            have n0_ := Aside0.mk (Kd.R_below (by (with_reducible repeat (first | apply Kd.R_alloc | apply Kd.R_drewN | apply Kd.R_drew)); exact HO_5.out) hb)
                            have n1_ := Aside0.mk (Kd.R_below (by (with_reducible repeat (first | apply Kd.R_alloc | apply Kd.R_drewN | apply Kd.R_drew)); exact HO_7.out) hb)
                            have n2_ := Aside0.mk (blk_below (g := gb465) (o := .cells #[.bool x466000_2, .int .i64 x466001_2] 31 (0, 0)) (by (with_reducible repeat (first | refine blk_drewN ?_ _ | refine blk_drew ?_ | refine blk_alloc ?_ _)); exact BK465.out) hb)
                            have n3_ := Aside0.mk (blk_below (g := gb480) (o := .cells #[.bool t478, .int .i64 t479] 31 (0, 0)) (by (with_reducible repeat (first | refine blk_drewN ?_ _ | refine blk_drew ?_ | refine blk_alloc ?_ _)); exact BK480.out) hb)
                            have n4_ := Aside0.mk (blk_below (g := gb488) (o := .cells #[.bool false, .int .i64 0] 31 (0, 0)) (by (with_reducible repeat (first | refine blk_drewN ?_ _ | refine blk_drew ?_ | refine blk_alloc ?_ _)); exact BK488.out) hb)
                            have n5_ := Aside0.mk (below_step (by repeat (first | (with_reducible first | exact HB.out | apply below_alloc | apply pw_below_drewN | apply below_drew1 | refine below_set ?_ GE465.out | refine below_set ?_ GE480.out | refine below_set ?_ GE488.out) | exact HB.out)) hb)
                            clear HO_5
                            clear HO_7
                            clear BK465
                            clear BK480
                            clear BK488
                            clear HB
                            have HO_5 := n0_
                            have HO_7 := n1_
                            have BK465 := n2_
                            have BK480 := n3_
                            have BK488 := n4_
                            have HB := n5_
                            clear n0_ n1_ n2_ n3_ n4_ n5_
                            (try clear hb)
                            (try clear hb2)
                            (try clear hk)
                            (try clear hi)
                            refine hK.out _ _ ⟨(blk_cell BK465.out 0).trans rfl, (blk_cell BK465.out 1).trans rfl, ((HB.out.cell (World.block_lt_of_cell? w _ hw483_0)).trans hw483_0), ((HB.out.cell (World.block_lt_of_cell? w _ hw483_1)).trans hw483_1), ((HB.out.cell (World.block_lt_of_cell? w _ hw483_2)).trans hw483_2), ((HB.out.cell (World.block_lt_of_cell? w _ hw483_3)).trans hw483_3), ((HB.out.cell (World.block_lt_of_cell? w _ hw483_4)).trans hw483_4), ((HB.out.cell (World.block_lt_of_cell? w _ hw483_5)).trans hw483_5), ((HB.out.cell (World.block_lt_of_cell? w _ hw483_6)).trans hw483_6), ((HB.out.cell (World.block_lt_of_cell? w _ hw483_7)).trans hw483_7), ((HB.out.cell (World.block_lt_of_cell? w _ hw483_8)).trans hw483_8), ((HB.out.cell (World.block_lt_of_cell? w _ hw483_9)).trans hw483_9), ((HB.out.cell (World.block_lt_of_cell? w _ hw483_10)).trans hw483_10), ((HB.out.cell (World.block_lt_of_cell? w _ hw483_11)).trans hw483_11), ((HB.out.cell (World.block_lt_of_cell? w _ hw483_12)).trans hw483_12), ((HB.out.cell (World.block_lt_of_cell? w _ hw483_13)).trans hw483_13), ((HB.out.cell (World.block_lt_of_cell? w _ hw483_14)).trans hw483_14), ((HB.out.cell (World.block_lt_of_cell? w _ hw483_15)).trans hw483_15)⟩ (fun hHeld => ?_)
                            clear hK K
                            refine norm_ (a' := ?_) ?_ ?_
                            rotate_left
                            · show Act.put _ (some 48) _ = _
                              simp only [Act.put, List.setIfInBounds_toArray, List.set_cons_zero, List.set_cons_succ, i64_w, i32_w]
                              rfl
                            refine pure_ (i := 6) (N := some 42) (v := ?_) (a' := ?_) #[true, true, true, true, true, true, true, false, false, false, true, false, false, false] rfl rfl (any_of HT_.out (by kernel_rfl)) (fun _ _ _ h => h) (Or.inl ⟨by rfl, ?_⟩) ?_ ?_
                            rotate_left
                            · intro w'
                              go_simp
                              with_reducible rfl
                            rotate_left
                            · simp only [Act.put, List.setIfInBounds_toArray, List.set_cons_zero, List.set_cons_succ, i64_w, i32_w]
                              rfl
                            refine pure_ (i := 7) (N := some 49) (v := ?_) (a' := ?_) #[true, true, true, true, true, true, true, true, false, false, true, false, false, false] rfl rfl (any_of HT_.out (by kernel_rfl)) (fun _ _ _ h => h) (Or.inl ⟨by rfl, ?_⟩) ?_ ?_
                            rotate_left
                            · intro w'
                              go_simp
                              with_reducible rfl
                            rotate_left
                            · simp only [Act.put, List.setIfInBounds_toArray, List.set_cons_zero, List.set_cons_succ, i64_w, i32_w]
                              rfl
                            refine pure_ (i := 8) (N := some 50) (v := ?_) (a' := ?_) #[true, true, true, true, true, true, true, true, true, false, true, false, false, false] rfl rfl (any_of HT_.out (by kernel_rfl)) (fun _ _ _ h => h) (Or.inl ⟨by rfl, ?_⟩) ?_ ?_
                            rotate_left
                            · intro w'
                              go_simp
                              with_reducible rfl
                            rotate_left
                            · simp only [Act.put, List.setIfInBounds_toArray, List.set_cons_zero, List.set_cons_succ, i64_w, i32_w]
                              rfl
                            refine pure_ (i := 9) (N := some 51) (v := ?_) (a' := ?_) #[true, true, true, true, true, true, true, true, true, true, true, false, false, false] rfl rfl (any_of HT_.out (by kernel_rfl)) (fun _ _ _ h => h) (Or.inl ⟨by rfl, ?_⟩) ?_ ?_
                            rotate_left
                            · intro w'
                              go_simp
                              with_reducible rfl
                            rotate_left
                            · simp only [Act.put, List.setIfInBounds_toArray, List.set_cons_zero, List.set_cons_succ, i64_w, i32_w]
                              rfl
                            exact norm_ (by simp only [putAll, Act.put, List.setIfInBounds_toArray, List.set_cons_zero, List.set_cons_succ]) (hCont (gb488) _ ⟨hHeld, (by (with_reducible repeat (first | apply Kd.R_alloc | apply Kd.R_drewN | apply Kd.R_drew)); exact HO_5.out), (by (with_reducible repeat (first | apply Kd.R_alloc | apply Kd.R_drewN | apply Kd.R_drew)); exact HO_7.out), (by (with_reducible repeat (first | refine blk_drewN ?_ _ | refine blk_drew ?_ | refine blk_alloc ?_ _)); exact BK465.out), (by (with_reducible repeat (first | refine blk_drewN ?_ _ | refine blk_drew ?_ | refine blk_alloc ?_ _)); exact BK480.out), (by (with_reducible repeat (first | refine blk_drewN ?_ _ | refine blk_drew ?_ | refine blk_alloc ?_ _)); exact BK488.out), GW488.out, GE488.out, NB465_488.out, NB488_465.out, NB480_488.out, NB488_480.out, (by repeat (first | (with_reducible first | exact HB.out | apply below_alloc | apply pw_below_drewN | apply below_drew1 | refine below_set ?_ GE465.out | refine below_set ?_ GE480.out | refine below_set ?_ GE488.out) | exact HB.out))⟩)
                        rintro gb488 w32 ⟨hS_, h0_, h1_, h2_, h3_, h4_, h5_, h6_, h7_, h8_, h9_, h10_, h11_⟩
                        have n0_ : Aside0 (Kd.R (Kd.int .i64) 3 w32 w.heap.size (fun k_ => some k_ ≠ (v476 : Value).ownBlock) u5 x5_2) := ⟨h0_⟩
                        have n1_ : Aside0 (Kd.R (Kd.int .i64) 3 w32 w.heap.size (fun k_ => some k_ ≠ (u5 : Value).ownBlock) v476 t475) := ⟨h1_⟩
                        have n2_ : Aside0 (w32.heap[gb465]? = some (.cells #[.bool x466000_2, .int .i64 x466001_2] 31 (0, 0))) := ⟨h2_⟩
                        have n3_ : Aside0 (w32.heap[gb480]? = some (.cells #[.bool t478, .int .i64 t479] 31 (0, 0))) := ⟨h3_⟩
                        have n4_ : Aside0 (w32.heap[gb488]? = some (.cells #[.bool false, .int .i64 0] 31 (0, 0))) := ⟨h4_⟩
                        have n5_ : Aside0 (w.heap.size ≤ gb488) := ⟨h5_⟩
                        have n6_ : Aside0 (w.heap.size ≤ gb488) := ⟨h6_⟩
                        have n7_ : Aside0 (gb465 ≠ gb488) := ⟨h7_⟩
                        have n8_ : Aside0 (gb488 ≠ gb465) := ⟨h8_⟩
                        have n9_ : Aside0 (gb480 ≠ gb488) := ⟨h9_⟩
                        have n10_ : Aside0 (gb488 ≠ gb480) := ⟨h10_⟩
                        have n11_ : Aside0 (Below w.heap.size w w32) := ⟨h11_⟩
                        clear HO_5
                        clear HO_7
                        clear BK465
                        clear BK480
                        clear HB
                        clear h0_ h1_ h2_ h3_ h4_ h5_ h6_ h7_ h8_ h9_ h10_ h11_
                        have HO_5 := n0_
                        have HO_7 := n1_
                        have BK465 := n2_
                        have BK480 := n3_
                        have BK488 := n4_
                        have GW488 := n5_
                        have GE488 := n6_
                        have NB465_488 := n7_
                        have NB488_465 := n8_
                        have NB480_488 := n9_
                        have NB488_480 := n10_
                        have HB := n11_
                        clear n0_ n1_ n2_ n3_ n4_ n5_ n6_ n7_ n8_ n9_ n10_ n11_
                        have hHeld : w32.cell? ⟨gb465, 0, none⟩ = some (.bool x466000_2) ∧ w32.cell? ⟨gb465, 1, none⟩ = some (.int .i64 x466001_2) ∧ w32.cell? (ad483.add ((x9_2).toNat * 16)) = some (.int .u8 ((rd_T22 l1 x9_2).f0)) ∧ w32.cell? ⟨(ad483.add ((x9_2).toNat * 16)).block, (ad483.add ((x9_2).toNat * 16)).off + 1, none⟩ = some (.int .u8 ((rd_T22 l1 x9_2).f1)) ∧ w32.cell? ⟨(ad483.add ((x9_2).toNat * 16)).block, (ad483.add ((x9_2).toNat * 16)).off + 2, none⟩ = some (.int .u8 ((rd_T22 l1 x9_2).f2)) ∧ w32.cell? ⟨(ad483.add ((x9_2).toNat * 16)).block, (ad483.add ((x9_2).toNat * 16)).off + 3, none⟩ = some (.int .u8 ((rd_T22 l1 x9_2).f3)) ∧ w32.cell? ⟨(ad483.add ((x9_2).toNat * 16)).block, (ad483.add ((x9_2).toNat * 16)).off + 4, none⟩ = some (.int .u8 ((rd_T22 l1 x9_2).f4)) ∧ w32.cell? ⟨(ad483.add ((x9_2).toNat * 16)).block, (ad483.add ((x9_2).toNat * 16)).off + 5, none⟩ = some (.int .u8 ((rd_T22 l1 x9_2).f5)) ∧ w32.cell? ⟨(ad483.add ((x9_2).toNat * 16)).block, (ad483.add ((x9_2).toNat * 16)).off + 6, none⟩ = some (.int .u8 ((rd_T22 l1 x9_2).f6)) ∧ w32.cell? ⟨(ad483.add ((x9_2).toNat * 16)).block, (ad483.add ((x9_2).toNat * 16)).off + 7, none⟩ = some (.int .u8 ((rd_T22 l1 x9_2).f7)) ∧ w32.cell? ⟨(ad483.add ((x9_2).toNat * 16)).block, (ad483.add ((x9_2).toNat * 16)).off + 8, none⟩ = some (.int .u8 ((rd_T22 l1 x9_2).f8)) ∧ w32.cell? ⟨(ad483.add ((x9_2).toNat * 16)).block, (ad483.add ((x9_2).toNat * 16)).off + 9, none⟩ = some (.int .u8 ((rd_T22 l1 x9_2).f9)) ∧ w32.cell? ⟨(ad483.add ((x9_2).toNat * 16)).block, (ad483.add ((x9_2).toNat * 16)).off + 10, none⟩ = some (.int .u8 ((rd_T22 l1 x9_2).f10)) ∧ w32.cell? ⟨(ad483.add ((x9_2).toNat * 16)).block, (ad483.add ((x9_2).toNat * 16)).off + 11, none⟩ = some (.int .u8 ((rd_T22 l1 x9_2).f11)) ∧ w32.cell? ⟨(ad483.add ((x9_2).toNat * 16)).block, (ad483.add ((x9_2).toNat * 16)).off + 12, none⟩ = some (.int .u8 ((rd_T22 l1 x9_2).f12)) ∧ w32.cell? ⟨(ad483.add ((x9_2).toNat * 16)).block, (ad483.add ((x9_2).toNat * 16)).off + 13, none⟩ = some (.int .u8 ((rd_T22 l1 x9_2).f13)) ∧ w32.cell? ⟨(ad483.add ((x9_2).toNat * 16)).block, (ad483.add ((x9_2).toNat * 16)).off + 14, none⟩ = some (.int .u8 ((rd_T22 l1 x9_2).f14)) ∧ w32.cell? ⟨(ad483.add ((x9_2).toNat * 16)).block, (ad483.add ((x9_2).toNat * 16)).off + 15, none⟩ = some (.int .u8 ((rd_T22 l1 x9_2).f15)) := hS_
                        refine norm_ (a' := ?_) ?_ ?_
                        rotate_left
                        · simp only [putAll, Act.put, List.setIfInBounds_toArray, List.set_cons_zero, List.set_cons_succ]
                          rfl
                        refine one_ (i := 11) (N := none) #[true, true, true, true, true, true, true, true, true, true, true, true, false, false] rfl rfl (one_of HT_.out (by kernel_rfl)) (by decide) (fun K hK => ?_)
                        have hs33 : w32.cell? ⟨gb488, 0, none⟩ = some (.bool false) := (blk_cell BK488.out 0).trans rfl
                        have hfs33 := blk_frozen BK488.out 0
                        have hns33_0 := NB465_488.out
                        have hns33_1 := NB480_488.out
                        have hms33_0 := NB488_465.out
                        have hms33_1 := NB488_480.out
                        have hs34 : w32.cell? ⟨gb488, 1, none⟩ = some (.int .i64 0) := (blk_cell BK488.out 1).trans rfl
                        have hfs34 := blk_frozen BK488.out 1
                        have hns34_0 := NB465_488.out
                        have hns34_1 := NB480_488.out
                        have hms34_0 := NB488_465.out
                        have hms34_1 := NB488_480.out
                        refine skip_ (w1 := ?_) (by rfl) rfl ?_ ?_
                        rotate_left
                        · go_simp
                          rfl
                        refine hK.out _ _ ⟨((cell_far (p := ⟨gb488, _, none⟩) NB465_488.out _).trans (((cell_far (p := ⟨gb488, _, none⟩) NB465_488.out _).trans (hHeld.1)))), ((cell_far (p := ⟨gb488, _, none⟩) NB465_488.out _).trans (((cell_far (p := ⟨gb488, _, none⟩) NB465_488.out _).trans (hHeld.2.1)))), ((cell_far (p := ⟨gb488, _, none⟩) (by first | exact Nat.ne_of_lt (Nat.lt_of_lt_of_le (by have := World.block_lt_of_cell? _ _ hw483_0; first | rwa [add_block] at this | exact this) GW488.out) | (rw [add_block]; exact Nat.ne_of_lt (Nat.lt_of_lt_of_le (by have := World.block_lt_of_cell? _ _ hw483_0; first | rwa [add_block] at this | exact this) GW488.out)) | (show (Addr.add _ _).block ≠ _; rw [add_block]; exact Nat.ne_of_lt (Nat.lt_of_lt_of_le (by have := World.block_lt_of_cell? _ _ hw483_0; first | rwa [add_block] at this | exact this) GW488.out)) | (dsimp only; exact Nat.ne_of_lt (Nat.lt_of_lt_of_le (by have := World.block_lt_of_cell? _ _ hw483_0; first | rwa [add_block] at this | exact this) GW488.out))) _).trans (((cell_far (p := ⟨gb488, _, none⟩) (by first | exact Nat.ne_of_lt (Nat.lt_of_lt_of_le (by have := World.block_lt_of_cell? _ _ hw483_0; first | rwa [add_block] at this | exact this) GW488.out) | (rw [add_block]; exact Nat.ne_of_lt (Nat.lt_of_lt_of_le (by have := World.block_lt_of_cell? _ _ hw483_0; first | rwa [add_block] at this | exact this) GW488.out)) | (show (Addr.add _ _).block ≠ _; rw [add_block]; exact Nat.ne_of_lt (Nat.lt_of_lt_of_le (by have := World.block_lt_of_cell? _ _ hw483_0; first | rwa [add_block] at this | exact this) GW488.out)) | (dsimp only; exact Nat.ne_of_lt (Nat.lt_of_lt_of_le (by have := World.block_lt_of_cell? _ _ hw483_0; first | rwa [add_block] at this | exact this) GW488.out))) _).trans (hHeld.2.2.1)))), ((cell_far (p := ⟨gb488, _, none⟩) (by first | exact Nat.ne_of_lt (Nat.lt_of_lt_of_le (by have := World.block_lt_of_cell? _ _ hw483_1; first | rwa [add_block] at this | exact this) GW488.out) | (rw [add_block]; exact Nat.ne_of_lt (Nat.lt_of_lt_of_le (by have := World.block_lt_of_cell? _ _ hw483_1; first | rwa [add_block] at this | exact this) GW488.out)) | (show (Addr.add _ _).block ≠ _; rw [add_block]; exact Nat.ne_of_lt (Nat.lt_of_lt_of_le (by have := World.block_lt_of_cell? _ _ hw483_1; first | rwa [add_block] at this | exact this) GW488.out)) | (dsimp only; exact Nat.ne_of_lt (Nat.lt_of_lt_of_le (by have := World.block_lt_of_cell? _ _ hw483_1; first | rwa [add_block] at this | exact this) GW488.out))) _).trans (((cell_far (p := ⟨gb488, _, none⟩) (by first | exact Nat.ne_of_lt (Nat.lt_of_lt_of_le (by have := World.block_lt_of_cell? _ _ hw483_1; first | rwa [add_block] at this | exact this) GW488.out) | (rw [add_block]; exact Nat.ne_of_lt (Nat.lt_of_lt_of_le (by have := World.block_lt_of_cell? _ _ hw483_1; first | rwa [add_block] at this | exact this) GW488.out)) | (show (Addr.add _ _).block ≠ _; rw [add_block]; exact Nat.ne_of_lt (Nat.lt_of_lt_of_le (by have := World.block_lt_of_cell? _ _ hw483_1; first | rwa [add_block] at this | exact this) GW488.out)) | (dsimp only; exact Nat.ne_of_lt (Nat.lt_of_lt_of_le (by have := World.block_lt_of_cell? _ _ hw483_1; first | rwa [add_block] at this | exact this) GW488.out))) _).trans (hHeld.2.2.2.1)))), ((cell_far (p := ⟨gb488, _, none⟩) (by first | exact Nat.ne_of_lt (Nat.lt_of_lt_of_le (by have := World.block_lt_of_cell? _ _ hw483_2; first | rwa [add_block] at this | exact this) GW488.out) | (rw [add_block]; exact Nat.ne_of_lt (Nat.lt_of_lt_of_le (by have := World.block_lt_of_cell? _ _ hw483_2; first | rwa [add_block] at this | exact this) GW488.out)) | (show (Addr.add _ _).block ≠ _; rw [add_block]; exact Nat.ne_of_lt (Nat.lt_of_lt_of_le (by have := World.block_lt_of_cell? _ _ hw483_2; first | rwa [add_block] at this | exact this) GW488.out)) | (dsimp only; exact Nat.ne_of_lt (Nat.lt_of_lt_of_le (by have := World.block_lt_of_cell? _ _ hw483_2; first | rwa [add_block] at this | exact this) GW488.out))) _).trans (((cell_far (p := ⟨gb488, _, none⟩) (by first | exact Nat.ne_of_lt (Nat.lt_of_lt_of_le (by have := World.block_lt_of_cell? _ _ hw483_2; first | rwa [add_block] at this | exact this) GW488.out) | (rw [add_block]; exact Nat.ne_of_lt (Nat.lt_of_lt_of_le (by have := World.block_lt_of_cell? _ _ hw483_2; first | rwa [add_block] at this | exact this) GW488.out)) | (show (Addr.add _ _).block ≠ _; rw [add_block]; exact Nat.ne_of_lt (Nat.lt_of_lt_of_le (by have := World.block_lt_of_cell? _ _ hw483_2; first | rwa [add_block] at this | exact this) GW488.out)) | (dsimp only; exact Nat.ne_of_lt (Nat.lt_of_lt_of_le (by have := World.block_lt_of_cell? _ _ hw483_2; first | rwa [add_block] at this | exact this) GW488.out))) _).trans (hHeld.2.2.2.2.1)))), ((cell_far (p := ⟨gb488, _, none⟩) (by first | exact Nat.ne_of_lt (Nat.lt_of_lt_of_le (by have := World.block_lt_of_cell? _ _ hw483_3; first | rwa [add_block] at this | exact this) GW488.out) | (rw [add_block]; exact Nat.ne_of_lt (Nat.lt_of_lt_of_le (by have := World.block_lt_of_cell? _ _ hw483_3; first | rwa [add_block] at this | exact this) GW488.out)) | (show (Addr.add _ _).block ≠ _; rw [add_block]; exact Nat.ne_of_lt (Nat.lt_of_lt_of_le (by have := World.block_lt_of_cell? _ _ hw483_3; first | rwa [add_block] at this | exact this) GW488.out)) | (dsimp only; exact Nat.ne_of_lt (Nat.lt_of_lt_of_le (by have := World.block_lt_of_cell? _ _ hw483_3; first | rwa [add_block] at this | exact this) GW488.out))) _).trans (((cell_far (p := ⟨gb488, _, none⟩) (by first | exact Nat.ne_of_lt (Nat.lt_of_lt_of_le (by have := World.block_lt_of_cell? _ _ hw483_3; first | rwa [add_block] at this | exact this) GW488.out) | (rw [add_block]; exact Nat.ne_of_lt (Nat.lt_of_lt_of_le (by have := World.block_lt_of_cell? _ _ hw483_3; first | rwa [add_block] at this | exact this) GW488.out)) | (show (Addr.add _ _).block ≠ _; rw [add_block]; exact Nat.ne_of_lt (Nat.lt_of_lt_of_le (by have := World.block_lt_of_cell? _ _ hw483_3; first | rwa [add_block] at this | exact this) GW488.out)) | (dsimp only; exact Nat.ne_of_lt (Nat.lt_of_lt_of_le (by have := World.block_lt_of_cell? _ _ hw483_3; first | rwa [add_block] at this | exact this) GW488.out))) _).trans (hHeld.2.2.2.2.2.1)))), ((cell_far (p := ⟨gb488, _, none⟩) (by first | exact Nat.ne_of_lt (Nat.lt_of_lt_of_le (by have := World.block_lt_of_cell? _ _ hw483_4; first | rwa [add_block] at this | exact this) GW488.out) | (rw [add_block]; exact Nat.ne_of_lt (Nat.lt_of_lt_of_le (by have := World.block_lt_of_cell? _ _ hw483_4; first | rwa [add_block] at this | exact this) GW488.out)) | (show (Addr.add _ _).block ≠ _; rw [add_block]; exact Nat.ne_of_lt (Nat.lt_of_lt_of_le (by have := World.block_lt_of_cell? _ _ hw483_4; first | rwa [add_block] at this | exact this) GW488.out)) | (dsimp only; exact Nat.ne_of_lt (Nat.lt_of_lt_of_le (by have := World.block_lt_of_cell? _ _ hw483_4; first | rwa [add_block] at this | exact this) GW488.out))) _).trans (((cell_far (p := ⟨gb488, _, none⟩) (by first | exact Nat.ne_of_lt (Nat.lt_of_lt_of_le (by have := World.block_lt_of_cell? _ _ hw483_4; first | rwa [add_block] at this | exact this) GW488.out) | (rw [add_block]; exact Nat.ne_of_lt (Nat.lt_of_lt_of_le (by have := World.block_lt_of_cell? _ _ hw483_4; first | rwa [add_block] at this | exact this) GW488.out)) | (show (Addr.add _ _).block ≠ _; rw [add_block]; exact Nat.ne_of_lt (Nat.lt_of_lt_of_le (by have := World.block_lt_of_cell? _ _ hw483_4; first | rwa [add_block] at this | exact this) GW488.out)) | (dsimp only; exact Nat.ne_of_lt (Nat.lt_of_lt_of_le (by have := World.block_lt_of_cell? _ _ hw483_4; first | rwa [add_block] at this | exact this) GW488.out))) _).trans (hHeld.2.2.2.2.2.2.1)))), ((cell_far (p := ⟨gb488, _, none⟩) (by first | exact Nat.ne_of_lt (Nat.lt_of_lt_of_le (by have := World.block_lt_of_cell? _ _ hw483_5; first | rwa [add_block] at this | exact this) GW488.out) | (rw [add_block]; exact Nat.ne_of_lt (Nat.lt_of_lt_of_le (by have := World.block_lt_of_cell? _ _ hw483_5; first | rwa [add_block] at this | exact this) GW488.out)) | (show (Addr.add _ _).block ≠ _; rw [add_block]; exact Nat.ne_of_lt (Nat.lt_of_lt_of_le (by have := World.block_lt_of_cell? _ _ hw483_5; first | rwa [add_block] at this | exact this) GW488.out)) | (dsimp only; exact Nat.ne_of_lt (Nat.lt_of_lt_of_le (by have := World.block_lt_of_cell? _ _ hw483_5; first | rwa [add_block] at this | exact this) GW488.out))) _).trans (((cell_far (p := ⟨gb488, _, none⟩) (by first | exact Nat.ne_of_lt (Nat.lt_of_lt_of_le (by have := World.block_lt_of_cell? _ _ hw483_5; first | rwa [add_block] at this | exact this) GW488.out) | (rw [add_block]; exact Nat.ne_of_lt (Nat.lt_of_lt_of_le (by have := World.block_lt_of_cell? _ _ hw483_5; first | rwa [add_block] at this | exact this) GW488.out)) | (show (Addr.add _ _).block ≠ _; rw [add_block]; exact Nat.ne_of_lt (Nat.lt_of_lt_of_le (by have := World.block_lt_of_cell? _ _ hw483_5; first | rwa [add_block] at this | exact this) GW488.out)) | (dsimp only; exact Nat.ne_of_lt (Nat.lt_of_lt_of_le (by have := World.block_lt_of_cell? _ _ hw483_5; first | rwa [add_block] at this | exact this) GW488.out))) _).trans (hHeld.2.2.2.2.2.2.2.1)))), ((cell_far (p := ⟨gb488, _, none⟩) (by first | exact Nat.ne_of_lt (Nat.lt_of_lt_of_le (by have := World.block_lt_of_cell? _ _ hw483_6; first | rwa [add_block] at this | exact this) GW488.out) | (rw [add_block]; exact Nat.ne_of_lt (Nat.lt_of_lt_of_le (by have := World.block_lt_of_cell? _ _ hw483_6; first | rwa [add_block] at this | exact this) GW488.out)) | (show (Addr.add _ _).block ≠ _; rw [add_block]; exact Nat.ne_of_lt (Nat.lt_of_lt_of_le (by have := World.block_lt_of_cell? _ _ hw483_6; first | rwa [add_block] at this | exact this) GW488.out)) | (dsimp only; exact Nat.ne_of_lt (Nat.lt_of_lt_of_le (by have := World.block_lt_of_cell? _ _ hw483_6; first | rwa [add_block] at this | exact this) GW488.out))) _).trans (((cell_far (p := ⟨gb488, _, none⟩) (by first | exact Nat.ne_of_lt (Nat.lt_of_lt_of_le (by have := World.block_lt_of_cell? _ _ hw483_6; first | rwa [add_block] at this | exact this) GW488.out) | (rw [add_block]; exact Nat.ne_of_lt (Nat.lt_of_lt_of_le (by have := World.block_lt_of_cell? _ _ hw483_6; first | rwa [add_block] at this | exact this) GW488.out)) | (show (Addr.add _ _).block ≠ _; rw [add_block]; exact Nat.ne_of_lt (Nat.lt_of_lt_of_le (by have := World.block_lt_of_cell? _ _ hw483_6; first | rwa [add_block] at this | exact this) GW488.out)) | (dsimp only; exact Nat.ne_of_lt (Nat.lt_of_lt_of_le (by have := World.block_lt_of_cell? _ _ hw483_6; first | rwa [add_block] at this | exact this) GW488.out))) _).trans (hHeld.2.2.2.2.2.2.2.2.1)))), ((cell_far (p := ⟨gb488, _, none⟩) (by first | exact Nat.ne_of_lt (Nat.lt_of_lt_of_le (by have := World.block_lt_of_cell? _ _ hw483_7; first | rwa [add_block] at this | exact this) GW488.out) | (rw [add_block]; exact Nat.ne_of_lt (Nat.lt_of_lt_of_le (by have := World.block_lt_of_cell? _ _ hw483_7; first | rwa [add_block] at this | exact this) GW488.out)) | (show (Addr.add _ _).block ≠ _; rw [add_block]; exact Nat.ne_of_lt (Nat.lt_of_lt_of_le (by have := World.block_lt_of_cell? _ _ hw483_7; first | rwa [add_block] at this | exact this) GW488.out)) | (dsimp only; exact Nat.ne_of_lt (Nat.lt_of_lt_of_le (by have := World.block_lt_of_cell? _ _ hw483_7; first | rwa [add_block] at this | exact this) GW488.out))) _).trans (((cell_far (p := ⟨gb488, _, none⟩) (by first | exact Nat.ne_of_lt (Nat.lt_of_lt_of_le (by have := World.block_lt_of_cell? _ _ hw483_7; first | rwa [add_block] at this | exact this) GW488.out) | (rw [add_block]; exact Nat.ne_of_lt (Nat.lt_of_lt_of_le (by have := World.block_lt_of_cell? _ _ hw483_7; first | rwa [add_block] at this | exact this) GW488.out)) | (show (Addr.add _ _).block ≠ _; rw [add_block]; exact Nat.ne_of_lt (Nat.lt_of_lt_of_le (by have := World.block_lt_of_cell? _ _ hw483_7; first | rwa [add_block] at this | exact this) GW488.out)) | (dsimp only; exact Nat.ne_of_lt (Nat.lt_of_lt_of_le (by have := World.block_lt_of_cell? _ _ hw483_7; first | rwa [add_block] at this | exact this) GW488.out))) _).trans (hHeld.2.2.2.2.2.2.2.2.2.1)))), ((cell_far (p := ⟨gb488, _, none⟩) (by first | exact Nat.ne_of_lt (Nat.lt_of_lt_of_le (by have := World.block_lt_of_cell? _ _ hw483_8; first | rwa [add_block] at this | exact this) GW488.out) | (rw [add_block]; exact Nat.ne_of_lt (Nat.lt_of_lt_of_le (by have := World.block_lt_of_cell? _ _ hw483_8; first | rwa [add_block] at this | exact this) GW488.out)) | (show (Addr.add _ _).block ≠ _; rw [add_block]; exact Nat.ne_of_lt (Nat.lt_of_lt_of_le (by have := World.block_lt_of_cell? _ _ hw483_8; first | rwa [add_block] at this | exact this) GW488.out)) | (dsimp only; exact Nat.ne_of_lt (Nat.lt_of_lt_of_le (by have := World.block_lt_of_cell? _ _ hw483_8; first | rwa [add_block] at this | exact this) GW488.out))) _).trans (((cell_far (p := ⟨gb488, _, none⟩) (by first | exact Nat.ne_of_lt (Nat.lt_of_lt_of_le (by have := World.block_lt_of_cell? _ _ hw483_8; first | rwa [add_block] at this | exact this) GW488.out) | (rw [add_block]; exact Nat.ne_of_lt (Nat.lt_of_lt_of_le (by have := World.block_lt_of_cell? _ _ hw483_8; first | rwa [add_block] at this | exact this) GW488.out)) | (show (Addr.add _ _).block ≠ _; rw [add_block]; exact Nat.ne_of_lt (Nat.lt_of_lt_of_le (by have := World.block_lt_of_cell? _ _ hw483_8; first | rwa [add_block] at this | exact this) GW488.out)) | (dsimp only; exact Nat.ne_of_lt (Nat.lt_of_lt_of_le (by have := World.block_lt_of_cell? _ _ hw483_8; first | rwa [add_block] at this | exact this) GW488.out))) _).trans (hHeld.2.2.2.2.2.2.2.2.2.2.1)))), ((cell_far (p := ⟨gb488, _, none⟩) (by first | exact Nat.ne_of_lt (Nat.lt_of_lt_of_le (by have := World.block_lt_of_cell? _ _ hw483_9; first | rwa [add_block] at this | exact this) GW488.out) | (rw [add_block]; exact Nat.ne_of_lt (Nat.lt_of_lt_of_le (by have := World.block_lt_of_cell? _ _ hw483_9; first | rwa [add_block] at this | exact this) GW488.out)) | (show (Addr.add _ _).block ≠ _; rw [add_block]; exact Nat.ne_of_lt (Nat.lt_of_lt_of_le (by have := World.block_lt_of_cell? _ _ hw483_9; first | rwa [add_block] at this | exact this) GW488.out)) | (dsimp only; exact Nat.ne_of_lt (Nat.lt_of_lt_of_le (by have := World.block_lt_of_cell? _ _ hw483_9; first | rwa [add_block] at this | exact this) GW488.out))) _).trans (((cell_far (p := ⟨gb488, _, none⟩) (by first | exact Nat.ne_of_lt (Nat.lt_of_lt_of_le (by have := World.block_lt_of_cell? _ _ hw483_9; first | rwa [add_block] at this | exact this) GW488.out) | (rw [add_block]; exact Nat.ne_of_lt (Nat.lt_of_lt_of_le (by have := World.block_lt_of_cell? _ _ hw483_9; first | rwa [add_block] at this | exact this) GW488.out)) | (show (Addr.add _ _).block ≠ _; rw [add_block]; exact Nat.ne_of_lt (Nat.lt_of_lt_of_le (by have := World.block_lt_of_cell? _ _ hw483_9; first | rwa [add_block] at this | exact this) GW488.out)) | (dsimp only; exact Nat.ne_of_lt (Nat.lt_of_lt_of_le (by have := World.block_lt_of_cell? _ _ hw483_9; first | rwa [add_block] at this | exact this) GW488.out))) _).trans (hHeld.2.2.2.2.2.2.2.2.2.2.2.1)))), ((cell_far (p := ⟨gb488, _, none⟩) (by first | exact Nat.ne_of_lt (Nat.lt_of_lt_of_le (by have := World.block_lt_of_cell? _ _ hw483_10; first | rwa [add_block] at this | exact this) GW488.out) | (rw [add_block]; exact Nat.ne_of_lt (Nat.lt_of_lt_of_le (by have := World.block_lt_of_cell? _ _ hw483_10; first | rwa [add_block] at this | exact this) GW488.out)) | (show (Addr.add _ _).block ≠ _; rw [add_block]; exact Nat.ne_of_lt (Nat.lt_of_lt_of_le (by have := World.block_lt_of_cell? _ _ hw483_10; first | rwa [add_block] at this | exact this) GW488.out)) | (dsimp only; exact Nat.ne_of_lt (Nat.lt_of_lt_of_le (by have := World.block_lt_of_cell? _ _ hw483_10; first | rwa [add_block] at this | exact this) GW488.out))) _).trans (((cell_far (p := ⟨gb488, _, none⟩) (by first | exact Nat.ne_of_lt (Nat.lt_of_lt_of_le (by have := World.block_lt_of_cell? _ _ hw483_10; first | rwa [add_block] at this | exact this) GW488.out) | (rw [add_block]; exact Nat.ne_of_lt (Nat.lt_of_lt_of_le (by have := World.block_lt_of_cell? _ _ hw483_10; first | rwa [add_block] at this | exact this) GW488.out)) | (show (Addr.add _ _).block ≠ _; rw [add_block]; exact Nat.ne_of_lt (Nat.lt_of_lt_of_le (by have := World.block_lt_of_cell? _ _ hw483_10; first | rwa [add_block] at this | exact this) GW488.out)) | (dsimp only; exact Nat.ne_of_lt (Nat.lt_of_lt_of_le (by have := World.block_lt_of_cell? _ _ hw483_10; first | rwa [add_block] at this | exact this) GW488.out))) _).trans (hHeld.2.2.2.2.2.2.2.2.2.2.2.2.1)))), ((cell_far (p := ⟨gb488, _, none⟩) (by first | exact Nat.ne_of_lt (Nat.lt_of_lt_of_le (by have := World.block_lt_of_cell? _ _ hw483_11; first | rwa [add_block] at this | exact this) GW488.out) | (rw [add_block]; exact Nat.ne_of_lt (Nat.lt_of_lt_of_le (by have := World.block_lt_of_cell? _ _ hw483_11; first | rwa [add_block] at this | exact this) GW488.out)) | (show (Addr.add _ _).block ≠ _; rw [add_block]; exact Nat.ne_of_lt (Nat.lt_of_lt_of_le (by have := World.block_lt_of_cell? _ _ hw483_11; first | rwa [add_block] at this | exact this) GW488.out)) | (dsimp only; exact Nat.ne_of_lt (Nat.lt_of_lt_of_le (by have := World.block_lt_of_cell? _ _ hw483_11; first | rwa [add_block] at this | exact this) GW488.out))) _).trans (((cell_far (p := ⟨gb488, _, none⟩) (by first | exact Nat.ne_of_lt (Nat.lt_of_lt_of_le (by have := World.block_lt_of_cell? _ _ hw483_11; first | rwa [add_block] at this | exact this) GW488.out) | (rw [add_block]; exact Nat.ne_of_lt (Nat.lt_of_lt_of_le (by have := World.block_lt_of_cell? _ _ hw483_11; first | rwa [add_block] at this | exact this) GW488.out)) | (show (Addr.add _ _).block ≠ _; rw [add_block]; exact Nat.ne_of_lt (Nat.lt_of_lt_of_le (by have := World.block_lt_of_cell? _ _ hw483_11; first | rwa [add_block] at this | exact this) GW488.out)) | (dsimp only; exact Nat.ne_of_lt (Nat.lt_of_lt_of_le (by have := World.block_lt_of_cell? _ _ hw483_11; first | rwa [add_block] at this | exact this) GW488.out))) _).trans (hHeld.2.2.2.2.2.2.2.2.2.2.2.2.2.1)))), ((cell_far (p := ⟨gb488, _, none⟩) (by first | exact Nat.ne_of_lt (Nat.lt_of_lt_of_le (by have := World.block_lt_of_cell? _ _ hw483_12; first | rwa [add_block] at this | exact this) GW488.out) | (rw [add_block]; exact Nat.ne_of_lt (Nat.lt_of_lt_of_le (by have := World.block_lt_of_cell? _ _ hw483_12; first | rwa [add_block] at this | exact this) GW488.out)) | (show (Addr.add _ _).block ≠ _; rw [add_block]; exact Nat.ne_of_lt (Nat.lt_of_lt_of_le (by have := World.block_lt_of_cell? _ _ hw483_12; first | rwa [add_block] at this | exact this) GW488.out)) | (dsimp only; exact Nat.ne_of_lt (Nat.lt_of_lt_of_le (by have := World.block_lt_of_cell? _ _ hw483_12; first | rwa [add_block] at this | exact this) GW488.out))) _).trans (((cell_far (p := ⟨gb488, _, none⟩) (by first | exact Nat.ne_of_lt (Nat.lt_of_lt_of_le (by have := World.block_lt_of_cell? _ _ hw483_12; first | rwa [add_block] at this | exact this) GW488.out) | (rw [add_block]; exact Nat.ne_of_lt (Nat.lt_of_lt_of_le (by have := World.block_lt_of_cell? _ _ hw483_12; first | rwa [add_block] at this | exact this) GW488.out)) | (show (Addr.add _ _).block ≠ _; rw [add_block]; exact Nat.ne_of_lt (Nat.lt_of_lt_of_le (by have := World.block_lt_of_cell? _ _ hw483_12; first | rwa [add_block] at this | exact this) GW488.out)) | (dsimp only; exact Nat.ne_of_lt (Nat.lt_of_lt_of_le (by have := World.block_lt_of_cell? _ _ hw483_12; first | rwa [add_block] at this | exact this) GW488.out))) _).trans (hHeld.2.2.2.2.2.2.2.2.2.2.2.2.2.2.1)))), ((cell_far (p := ⟨gb488, _, none⟩) (by first | exact Nat.ne_of_lt (Nat.lt_of_lt_of_le (by have := World.block_lt_of_cell? _ _ hw483_13; first | rwa [add_block] at this | exact this) GW488.out) | (rw [add_block]; exact Nat.ne_of_lt (Nat.lt_of_lt_of_le (by have := World.block_lt_of_cell? _ _ hw483_13; first | rwa [add_block] at this | exact this) GW488.out)) | (show (Addr.add _ _).block ≠ _; rw [add_block]; exact Nat.ne_of_lt (Nat.lt_of_lt_of_le (by have := World.block_lt_of_cell? _ _ hw483_13; first | rwa [add_block] at this | exact this) GW488.out)) | (dsimp only; exact Nat.ne_of_lt (Nat.lt_of_lt_of_le (by have := World.block_lt_of_cell? _ _ hw483_13; first | rwa [add_block] at this | exact this) GW488.out))) _).trans (((cell_far (p := ⟨gb488, _, none⟩) (by first | exact Nat.ne_of_lt (Nat.lt_of_lt_of_le (by have := World.block_lt_of_cell? _ _ hw483_13; first | rwa [add_block] at this | exact this) GW488.out) | (rw [add_block]; exact Nat.ne_of_lt (Nat.lt_of_lt_of_le (by have := World.block_lt_of_cell? _ _ hw483_13; first | rwa [add_block] at this | exact this) GW488.out)) | (show (Addr.add _ _).block ≠ _; rw [add_block]; exact Nat.ne_of_lt (Nat.lt_of_lt_of_le (by have := World.block_lt_of_cell? _ _ hw483_13; first | rwa [add_block] at this | exact this) GW488.out)) | (dsimp only; exact Nat.ne_of_lt (Nat.lt_of_lt_of_le (by have := World.block_lt_of_cell? _ _ hw483_13; first | rwa [add_block] at this | exact this) GW488.out))) _).trans (hHeld.2.2.2.2.2.2.2.2.2.2.2.2.2.2.2.1)))), ((cell_far (p := ⟨gb488, _, none⟩) (by first | exact Nat.ne_of_lt (Nat.lt_of_lt_of_le (by have := World.block_lt_of_cell? _ _ hw483_14; first | rwa [add_block] at this | exact this) GW488.out) | (rw [add_block]; exact Nat.ne_of_lt (Nat.lt_of_lt_of_le (by have := World.block_lt_of_cell? _ _ hw483_14; first | rwa [add_block] at this | exact this) GW488.out)) | (show (Addr.add _ _).block ≠ _; rw [add_block]; exact Nat.ne_of_lt (Nat.lt_of_lt_of_le (by have := World.block_lt_of_cell? _ _ hw483_14; first | rwa [add_block] at this | exact this) GW488.out)) | (dsimp only; exact Nat.ne_of_lt (Nat.lt_of_lt_of_le (by have := World.block_lt_of_cell? _ _ hw483_14; first | rwa [add_block] at this | exact this) GW488.out))) _).trans (((cell_far (p := ⟨gb488, _, none⟩) (by first | exact Nat.ne_of_lt (Nat.lt_of_lt_of_le (by have := World.block_lt_of_cell? _ _ hw483_14; first | rwa [add_block] at this | exact this) GW488.out) | (rw [add_block]; exact Nat.ne_of_lt (Nat.lt_of_lt_of_le (by have := World.block_lt_of_cell? _ _ hw483_14; first | rwa [add_block] at this | exact this) GW488.out)) | (show (Addr.add _ _).block ≠ _; rw [add_block]; exact Nat.ne_of_lt (Nat.lt_of_lt_of_le (by have := World.block_lt_of_cell? _ _ hw483_14; first | rwa [add_block] at this | exact this) GW488.out)) | (dsimp only; exact Nat.ne_of_lt (Nat.lt_of_lt_of_le (by have := World.block_lt_of_cell? _ _ hw483_14; first | rwa [add_block] at this | exact this) GW488.out))) _).trans (hHeld.2.2.2.2.2.2.2.2.2.2.2.2.2.2.2.2.1)))), ((cell_far (p := ⟨gb488, _, none⟩) (by first | exact Nat.ne_of_lt (Nat.lt_of_lt_of_le (by have := World.block_lt_of_cell? _ _ hw483_15; first | rwa [add_block] at this | exact this) GW488.out) | (rw [add_block]; exact Nat.ne_of_lt (Nat.lt_of_lt_of_le (by have := World.block_lt_of_cell? _ _ hw483_15; first | rwa [add_block] at this | exact this) GW488.out)) | (show (Addr.add _ _).block ≠ _; rw [add_block]; exact Nat.ne_of_lt (Nat.lt_of_lt_of_le (by have := World.block_lt_of_cell? _ _ hw483_15; first | rwa [add_block] at this | exact this) GW488.out)) | (dsimp only; exact Nat.ne_of_lt (Nat.lt_of_lt_of_le (by have := World.block_lt_of_cell? _ _ hw483_15; first | rwa [add_block] at this | exact this) GW488.out))) _).trans (((cell_far (p := ⟨gb488, _, none⟩) (by first | exact Nat.ne_of_lt (Nat.lt_of_lt_of_le (by have := World.block_lt_of_cell? _ _ hw483_15; first | rwa [add_block] at this | exact this) GW488.out) | (rw [add_block]; exact Nat.ne_of_lt (Nat.lt_of_lt_of_le (by have := World.block_lt_of_cell? _ _ hw483_15; first | rwa [add_block] at this | exact this) GW488.out)) | (show (Addr.add _ _).block ≠ _; rw [add_block]; exact Nat.ne_of_lt (Nat.lt_of_lt_of_le (by have := World.block_lt_of_cell? _ _ hw483_15; first | rwa [add_block] at this | exact this) GW488.out)) | (dsimp only; exact Nat.ne_of_lt (Nat.lt_of_lt_of_le (by have := World.block_lt_of_cell? _ _ hw483_15; first | rwa [add_block] at this | exact this) GW488.out))) _).trans (hHeld.2.2.2.2.2.2.2.2.2.2.2.2.2.2.2.2.2))))⟩ (fun hHeld => ?_)
                        clear hK K
                        refine pure_ (i := 12) (N := some 11) (v := ?_) (a' := ?_) #[true, true, true, true, true, true, true, true, true, true, true, true, true, false] rfl rfl (any_of HT_.out (by kernel_rfl)) (fun _ _ _ h => h) (Or.inl ⟨by rfl, ?_⟩) ?_ ?_
                        rotate_left
                        · intro w'
                          go_simp
                          with_reducible rfl
                        rotate_left
                        · simp only [Act.put, List.setIfInBounds_toArray, List.set_cons_zero, List.set_cons_succ, i64_w, i32_w]
                          rfl
                        refine pure_ (i := 13) (N := some 12) (v := ?_) (a' := ?_) #[true, true, true, true, true, true, true, true, true, true, true, true, true, true] rfl rfl (any_of HT_.out (by kernel_rfl)) (fun _ _ _ h => h) (Or.inl ⟨by rfl, ?_⟩) ?_ ?_
                        rotate_left
                        · intro w'
                          go_simp
                          with_reducible rfl
                        rotate_left
                        · simp only [Act.put, List.setIfInBounds_toArray, List.set_cons_zero, List.set_cons_succ, i64_w, i32_w]
                          rfl
                        refine done_ (done_of HT_.out (by kernel_rfl)) ?_
                        try go_wp2_with (first | ((with_reducible refine gate_builtin (b := .append) (xs := #[.tmp 53, .tmp 55]) rfl ?_); (try (refine gate_guard (by rfl) ?_; dsimp only)); at_builtin; refine Kd.R_append (Kd.int .i64) (w0 := w) w.heap.size rfl (.tmp 53) (.tmp 55) 38 3 (.int .i64 0) 8 rfl Try.underlying38 info3 rfl (by decide) (by omega) u5 x5_2 t486 [.int .i64 t486] (fun k_ => some k_ ≠ (v476 : Value).ownBlock) (fun _ => False) rfl (by first | (go_simp; done) | (go_simp; rfl)) ?aP (fun _ hk => hk.elim) ?aF ?aO ?aB ?aS ?aL ?_; (case aP => exact rfl); (case aB => exact (by repeat (first | (with_reducible first | exact HB.out | apply below_alloc | apply pw_below_drewN | apply below_drew1 | refine below_set ?_ GE465.out | refine below_set ?_ GE480.out | refine below_set ?_ GE488.out) | exact HB.out))); (case aF => exact (fun k_ hk => Kd.fresh' (Kd.R_lt (by (with_reducible repeat (first | apply Kd.R_alloc | apply Kd.R_drewN | apply Kd.R_drew)); exact (Kd.R_mono (Kd.R_far (p := ⟨gb488, 1, none⟩) (Kd.R_far (p := ⟨gb488, 0, none⟩) (Kd.R_types HO_7.out BK488.out (by decide)) (fun _ hk => hk.2) (.bool t484)) (fun _ hk => hk.2) (.int .i64 t485)) (fun _ h_ => h_.1)))) k_ hk)); (case aO => exact (by (with_reducible repeat (first | apply Kd.R_alloc | apply Kd.R_drewN | apply Kd.R_drew)); exact Kd.R_mono (Kd.R_far (p := ⟨gb488, 1, none⟩) (Kd.R_far (p := ⟨gb488, 0, none⟩) (Kd.R_types HO_5.out BK488.out (by decide)) (fun _ hk => hk.2) (.bool t484)) (fun _ hk => hk.2) (.int .i64 t485)) (fun _ hk => hk.1))); (case aS => exact (below_size (by repeat (first | (with_reducible first | exact HB.out | apply below_alloc | apply pw_below_drewN | apply below_drew1 | refine below_set ?_ GE465.out | refine below_set ?_ GE480.out | refine below_set ?_ GE488.out) | exact HB.out)))); (case aL => have := LMc28.out; omega); intro v490 w35 ho hb hg hat; rw [← Ny489.out] at ho; have n0_ := Aside0.mk (Kd.R_after (ok := (fun _ => True)) (by (with_reducible repeat (first | apply Kd.R_alloc | apply Kd.R_drewN | apply Kd.R_drew)); exact Kd.R_mono (Kd.R_far (p := ⟨gb488, 1, none⟩) (Kd.R_far (p := ⟨gb488, 0, none⟩) (Kd.R_types HO_7.out BK488.out (by decide)) (fun _ hk => hk.2) (.bool t484)) (fun _ hk => hk.2) (.int .i64 t485)) (fun _ hk => ⟨trivial, hk.1⟩)) hg hat); have n1_ := Aside0.mk (blk_grown (g := gb465) (o := .cells #[.bool x466000_2, .int .i64 x466001_2] 31 (0, 0)) (by (with_reducible repeat (first | refine blk_drewN ?_ _ | refine blk_drew ?_ | refine blk_alloc ?_ _)); refine blk_far ?_ NB465_488.out _; (with_reducible repeat (first | refine blk_drewN ?_ _ | refine blk_drew ?_ | refine blk_alloc ?_ _)); refine blk_far ?_ NB465_488.out _; (with_reducible repeat (first | refine blk_drewN ?_ _ | refine blk_drew ?_ | refine blk_alloc ?_ _)); exact BK465.out) hg (Kd.R_ne HO_5.out BK465.out (by decide))); have n2_ := Aside0.mk (blk_grown (g := gb480) (o := .cells #[.bool t478, .int .i64 t479] 31 (0, 0)) (by (with_reducible repeat (first | refine blk_drewN ?_ _ | refine blk_drew ?_ | refine blk_alloc ?_ _)); refine blk_far ?_ NB480_488.out _; (with_reducible repeat (first | refine blk_drewN ?_ _ | refine blk_drew ?_ | refine blk_alloc ?_ _)); refine blk_far ?_ NB480_488.out _; (with_reducible repeat (first | refine blk_drewN ?_ _ | refine blk_drew ?_ | refine blk_alloc ?_ _)); exact BK480.out) hg (Kd.R_ne HO_5.out BK480.out (by decide))); have n3_ := Aside0.mk (blk_grown (g := gb488) (o := .cells #[.bool t484, .int .i64 t485] 31 (0, 0)) (by (with_reducible repeat (first | refine blk_drewN ?_ _ | refine blk_drew ?_ | refine blk_alloc ?_ _)); refine blk_put (cs := #[.bool t484, .int .i64 0]) ?_ (1) _ rfl; (with_reducible repeat (first | refine blk_drewN ?_ _ | refine blk_drew ?_ | refine blk_alloc ?_ _)); refine blk_put (cs := #[.bool false, .int .i64 0]) ?_ (0) _ rfl; (with_reducible repeat (first | refine blk_drewN ?_ _ | refine blk_drew ?_ | refine blk_alloc ?_ _)); exact BK488.out) hg (Kd.R_ne HO_5.out BK488.out (by decide))); have n4_ := Aside0.mk (hb); have n5_ := Aside0.mk (ho); clear HO_7; clear BK465; clear BK480; clear BK488; clear HB; clear HO_5; have HO_7 := n0_; have BK465 := n1_; have BK480 := n2_; have BK488 := n3_; have HB := n4_; have HO491 := n5_; clear n0_ n1_ n2_ n3_ n4_ n5_; clear ho hb hg hat; have hnb36 := NB488_465.out; have hnc36 := NB465_488.out; have hnb37 := NB488_480.out; have hnc37 := NB480_488.out; have hcz38_0 : w35.cell? ⟨gb488, 0, none⟩ = some (.bool t484) := (blk_cell BK488.out 0).trans rfl; have hcz38_1 : w35.cell? ⟨gb488, 1, none⟩ = some (.int .i64 t485) := (blk_cell BK488.out 1).trans rfl; have hfz38_0 := blk_frozen BK488.out 0; have hfz38_1 := blk_frozen BK488.out 1; have hnb39 := NB465_480.out; have hnc39 := NB480_465.out; have hcz40_0 : w35.cell? ⟨gb465, 0, none⟩ = some (.bool x466000_2) := (blk_cell BK465.out 0).trans rfl; have hcz40_1 : w35.cell? ⟨gb465, 1, none⟩ = some (.int .i64 x466001_2) := (blk_cell BK465.out 1).trans rfl; have hfz40_0 := blk_frozen BK465.out 0; have hfz40_1 := blk_frozen BK465.out 1))
                        go_roundg k2
                        case measure => have := HJ2.out; have := HK2.out; omega
                        case rel => exact ⟨(y489), (wrap64 (x9_2 + 1)), (t484), (t485), (by first | rfl | (simp; done) | (simp [*]; done)), H', ⟨by have := HJ2.out; have := HK2.out; omega⟩, ⟨by (with_reducible repeat (first | apply Kd.R_alloc | apply Kd.R_drewN | apply Kd.R_drew)); exact Kd.R_mono (Kd.R_far (p := ⟨gb465, 1, none⟩) (Kd.R_far (p := ⟨gb465, 0, none⟩) (Kd.R_types HO491.out BK465.out (by decide)) (fun _ hk => hk.2) (.bool t484)) (fun _ hk => hk.2) (.int .i64 t485)) (fun _ hk => hk.1)⟩, ⟨by (with_reducible repeat (first | apply Kd.R_alloc | apply Kd.R_drewN | apply Kd.R_drew)); exact Kd.R_mono (Kd.R_far (p := ⟨gb465, 1, none⟩) (Kd.R_far (p := ⟨gb465, 0, none⟩) (Kd.R_types HO_7.out BK465.out (by decide)) (fun _ hk => hk.2) (.bool t484)) (fun _ hk => hk.2) (.int .i64 t485)) (fun _ hk => hk.1.2)⟩, ⟨by (with_reducible repeat (first | refine blk_drewN ?_ _ | refine blk_drew ?_ | refine blk_alloc ?_ _)); refine blk_put (cs := #[.bool t484, .int .i64 x466001_2]) ?_ (1) _ rfl; (with_reducible repeat (first | refine blk_drewN ?_ _ | refine blk_drew ?_ | refine blk_alloc ?_ _)); refine blk_put (cs := #[.bool x466000_2, .int .i64 x466001_2]) ?_ (0) _ rfl; (with_reducible repeat (first | refine blk_drewN ?_ _ | refine blk_drew ?_ | refine blk_alloc ?_ _)); exact BK465.out⟩, ⟨by (with_reducible repeat (first | refine blk_drewN ?_ _ | refine blk_drew ?_ | refine blk_alloc ?_ _)); refine blk_far ?_ NB480_465.out _; (with_reducible repeat (first | refine blk_drewN ?_ _ | refine blk_drew ?_ | refine blk_alloc ?_ _)); refine blk_far ?_ NB480_465.out _; (with_reducible repeat (first | refine blk_drewN ?_ _ | refine blk_drew ?_ | refine blk_alloc ?_ _)); exact BK480.out⟩, ⟨by repeat (first | (with_reducible first | exact HB.out | apply below_alloc | apply pw_below_drewN | apply below_drew1 | refine below_set ?_ GE465.out | refine below_set ?_ GE480.out | refine below_set ?_ GE488.out) | exact HB.out)⟩⟩
                      · rw [if_neg c28] at H
                        exact absurd H (by simp)
                    · replace c27 := Bool.eq_false_iff.mpr c27
                      subst c27
                      have H1 : (if t486 = 0 then (perilunelaw32_UplinkSteps.l0 k2 l1 x5_2 t475 (wrap64 (x9_2 + 1)) t484 t485 t478 t479) else (some false)) = some r := by rw [if_neg (show ¬ (false = true) by decide)] at H; exact H
                      clear H
                      have H := H1
                      clear H1
                      by_cases c41 : t486 = 0
                      · rw [if_pos c41] at H
                        have c41b0 : (t486 == 0) = true := beq_iff_eq.mpr c41
                        have c41b1 : (t486 != 0) = false := bne_eq_false_iff_eq.mpr c41
                        clear c41
                        have H' := Aside0.mk H
                        clear H
                        try go_wp2
                        have n0_ := Aside0.mk (Kd.R_drew HO_5.out)
                        have n1_ := Aside0.mk (Kd.R_drew HO_7.out)
                        have n2_ := Aside0.mk (blk_drew BK465.out)
                        have n3_ := Aside0.mk (blk_drew BK480.out)
                        have n4_ := Aside0.mk (below_drew1 HB.out)
                        clear HO_5
                        clear HO_7
                        clear BK465
                        clear BK480
                        clear HB
                        have HO_5 := n0_
                        have HO_7 := n1_
                        have BK465 := n2_
                        have BK480 := n3_
                        have HB := n4_
                        clear n0_ n1_ n2_ n3_ n4_
                        have p483 : 0 ≤ (x9_2 : Int) := of_decide_eq_true (by first | (with_reducible assumption) | assumption)
                        have q483 : x9_2 < (l1.length : Int) := of_decide_eq_true (by first | (with_reducible assumption) | assumption)
                        obtain ⟨ad483, e483, hx483_0, hx483_1, hx483_2, hx483_3, hx483_4, hx483_5, hx483_6, hx483_7, hx483_8, hx483_9, hx483_10, hx483_11, hx483_12, hx483_13, hx483_14, hx483_15⟩ := at_T22 HR1.out x9_2 p483 q483
                        have hw483_15 := hx483_15
                        have hw483_14 := hx483_14
                        have hw483_13 := hx483_13
                        have hw483_12 := hx483_12
                        have hw483_11 := hx483_11
                        have hw483_10 := hx483_10
                        have hw483_9 := hx483_9
                        have hw483_8 := hx483_8
                        have hw483_7 := hx483_7
                        have hw483_6 := hx483_6
                        have hw483_5 := hx483_5
                        have hw483_4 := hx483_4
                        have hw483_3 := hx483_3
                        have hw483_2 := hx483_2
                        have hw483_1 := hx483_1
                        have hw483_0 := hx483_0
                        cases e483
                        replace hx483_0 := (HB.out.cell (World.block_lt_of_cell? w _ hx483_0)).trans hx483_0
                        replace hx483_1 := (HB.out.cell (World.block_lt_of_cell? w _ hx483_1)).trans hx483_1
                        replace hx483_2 := (HB.out.cell (World.block_lt_of_cell? w _ hx483_2)).trans hx483_2
                        replace hx483_3 := (HB.out.cell (World.block_lt_of_cell? w _ hx483_3)).trans hx483_3
                        replace hx483_4 := (HB.out.cell (World.block_lt_of_cell? w _ hx483_4)).trans hx483_4
                        replace hx483_5 := (HB.out.cell (World.block_lt_of_cell? w _ hx483_5)).trans hx483_5
                        replace hx483_6 := (HB.out.cell (World.block_lt_of_cell? w _ hx483_6)).trans hx483_6
                        replace hx483_7 := (HB.out.cell (World.block_lt_of_cell? w _ hx483_7)).trans hx483_7
                        replace hx483_8 := (HB.out.cell (World.block_lt_of_cell? w _ hx483_8)).trans hx483_8
                        replace hx483_9 := (HB.out.cell (World.block_lt_of_cell? w _ hx483_9)).trans hx483_9
                        replace hx483_10 := (HB.out.cell (World.block_lt_of_cell? w _ hx483_10)).trans hx483_10
                        replace hx483_11 := (HB.out.cell (World.block_lt_of_cell? w _ hx483_11)).trans hx483_11
                        replace hx483_12 := (HB.out.cell (World.block_lt_of_cell? w _ hx483_12)).trans hx483_12
                        replace hx483_13 := (HB.out.cell (World.block_lt_of_cell? w _ hx483_13)).trans hx483_13
                        replace hx483_14 := (HB.out.cell (World.block_lt_of_cell? w _ hx483_14)).trans hx483_14
                        replace hx483_15 := (HB.out.cell (World.block_lt_of_cell? w _ hx483_15)).trans hx483_15
                        replace p483 := eq_true p483
                        replace q483 := eq_true q483
                        refine start_ (n := 14) (S := fun w' => w'.cell? ⟨gb465, 0, none⟩ = some (.bool x466000_2) ∧ w'.cell? ⟨gb465, 1, none⟩ = some (.int .i64 x466001_2) ∧ w'.cell? (ad483.add ((x9_2).toNat * 16)) = some (.int .u8 ((rd_T22 l1 x9_2).f0)) ∧ w'.cell? ⟨(ad483.add ((x9_2).toNat * 16)).block, (ad483.add ((x9_2).toNat * 16)).off + 1, none⟩ = some (.int .u8 ((rd_T22 l1 x9_2).f1)) ∧ w'.cell? ⟨(ad483.add ((x9_2).toNat * 16)).block, (ad483.add ((x9_2).toNat * 16)).off + 2, none⟩ = some (.int .u8 ((rd_T22 l1 x9_2).f2)) ∧ w'.cell? ⟨(ad483.add ((x9_2).toNat * 16)).block, (ad483.add ((x9_2).toNat * 16)).off + 3, none⟩ = some (.int .u8 ((rd_T22 l1 x9_2).f3)) ∧ w'.cell? ⟨(ad483.add ((x9_2).toNat * 16)).block, (ad483.add ((x9_2).toNat * 16)).off + 4, none⟩ = some (.int .u8 ((rd_T22 l1 x9_2).f4)) ∧ w'.cell? ⟨(ad483.add ((x9_2).toNat * 16)).block, (ad483.add ((x9_2).toNat * 16)).off + 5, none⟩ = some (.int .u8 ((rd_T22 l1 x9_2).f5)) ∧ w'.cell? ⟨(ad483.add ((x9_2).toNat * 16)).block, (ad483.add ((x9_2).toNat * 16)).off + 6, none⟩ = some (.int .u8 ((rd_T22 l1 x9_2).f6)) ∧ w'.cell? ⟨(ad483.add ((x9_2).toNat * 16)).block, (ad483.add ((x9_2).toNat * 16)).off + 7, none⟩ = some (.int .u8 ((rd_T22 l1 x9_2).f7)) ∧ w'.cell? ⟨(ad483.add ((x9_2).toNat * 16)).block, (ad483.add ((x9_2).toNat * 16)).off + 8, none⟩ = some (.int .u8 ((rd_T22 l1 x9_2).f8)) ∧ w'.cell? ⟨(ad483.add ((x9_2).toNat * 16)).block, (ad483.add ((x9_2).toNat * 16)).off + 9, none⟩ = some (.int .u8 ((rd_T22 l1 x9_2).f9)) ∧ w'.cell? ⟨(ad483.add ((x9_2).toNat * 16)).block, (ad483.add ((x9_2).toNat * 16)).off + 10, none⟩ = some (.int .u8 ((rd_T22 l1 x9_2).f10)) ∧ w'.cell? ⟨(ad483.add ((x9_2).toNat * 16)).block, (ad483.add ((x9_2).toNat * 16)).off + 11, none⟩ = some (.int .u8 ((rd_T22 l1 x9_2).f11)) ∧ w'.cell? ⟨(ad483.add ((x9_2).toNat * 16)).block, (ad483.add ((x9_2).toNat * 16)).off + 12, none⟩ = some (.int .u8 ((rd_T22 l1 x9_2).f12)) ∧ w'.cell? ⟨(ad483.add ((x9_2).toNat * 16)).block, (ad483.add ((x9_2).toNat * 16)).off + 13, none⟩ = some (.int .u8 ((rd_T22 l1 x9_2).f13)) ∧ w'.cell? ⟨(ad483.add ((x9_2).toNat * 16)).block, (ad483.add ((x9_2).toNat * 16)).off + 14, none⟩ = some (.int .u8 ((rd_T22 l1 x9_2).f14)) ∧ w'.cell? ⟨(ad483.add ((x9_2).toNat * 16)).block, (ad483.add ((x9_2).toNat * 16)).off + 15, none⟩ = some (.int .u8 ((rd_T22 l1 x9_2).f15))) (ds := []) #[false, false, false, false, false, false, false, false, false, false, false, false, false, false] (by kernel_rfl) rfl rfl ⟨(blk_cell BK465.out 0).trans rfl, (blk_cell BK465.out 1).trans rfl, ((HB.out.cell (World.block_lt_of_cell? w _ hw483_0)).trans hw483_0), ((HB.out.cell (World.block_lt_of_cell? w _ hw483_1)).trans hw483_1), ((HB.out.cell (World.block_lt_of_cell? w _ hw483_2)).trans hw483_2), ((HB.out.cell (World.block_lt_of_cell? w _ hw483_3)).trans hw483_3), ((HB.out.cell (World.block_lt_of_cell? w _ hw483_4)).trans hw483_4), ((HB.out.cell (World.block_lt_of_cell? w _ hw483_5)).trans hw483_5), ((HB.out.cell (World.block_lt_of_cell? w _ hw483_6)).trans hw483_6), ((HB.out.cell (World.block_lt_of_cell? w _ hw483_7)).trans hw483_7), ((HB.out.cell (World.block_lt_of_cell? w _ hw483_8)).trans hw483_8), ((HB.out.cell (World.block_lt_of_cell? w _ hw483_9)).trans hw483_9), ((HB.out.cell (World.block_lt_of_cell? w _ hw483_10)).trans hw483_10), ((HB.out.cell (World.block_lt_of_cell? w _ hw483_11)).trans hw483_11), ((HB.out.cell (World.block_lt_of_cell? w _ hw483_12)).trans hw483_12), ((HB.out.cell (World.block_lt_of_cell? w _ hw483_13)).trans hw483_13), ((HB.out.cell (World.block_lt_of_cell? w _ hw483_14)).trans hw483_14), ((HB.out.cell (World.block_lt_of_cell? w _ hw483_15)).trans hw483_15)⟩ (fun hHeld => ?_); refine with_tabW perilunelaw32_UplinkSteps.tab8 perilunelaw32_UplinkSteps.bits8 (fun HT_ HW_ => ?_)
                        generalize wr.drew = w42 at HO_5 HO_7 BK465 BK480 HB hx483_0 hx483_1 hx483_10 hx483_11 hx483_12 hx483_13 hx483_14 hx483_15 hx483_2 hx483_3 hx483_4 hx483_5 hx483_6 hx483_7 hx483_8 hx483_9 hHeld ⊢
                        refine pure_ (i := 1) (N := some 44) (v := ?_) (a' := ?_) #[false, true, false, false, false, false, false, false, false, false, false, false, false, false] rfl rfl (any_of HT_.out (by kernel_rfl)) (fun _ _ _ h => h) (Or.inl ⟨by rfl, ?_⟩) ?_ ?_
                        rotate_left
                        · intro w'
                          go_simp
                          with_reducible rfl
                        rotate_left
                        · simp only [Act.put, List.setIfInBounds_toArray, List.set_cons_zero, List.set_cons_succ, i64_w, i32_w]
                          rfl
                        refine pure_ (i := 2) (N := some 45) (v := ?_) (a' := ?_) #[false, true, true, false, false, false, false, false, false, false, false, false, false, false] rfl rfl (any_of HT_.out (by kernel_rfl)) (fun _ _ _ h => h) (Or.inl ⟨by rfl, ?_⟩) ?_ ?_
                        rotate_left
                        · intro w'
                          go_simp
                          with_reducible rfl
                        rotate_left
                        · simp only [Act.put, List.setIfInBounds_toArray, List.set_cons_zero, List.set_cons_succ, i64_w, i32_w]
                          rfl
                        refine pure_ (i := 3) (N := some 46) (v := ?_) (a' := ?_) #[false, true, true, true, false, false, false, false, false, false, false, false, false, false] rfl rfl (any_of HT_.out (by kernel_rfl)) (fun _ _ _ h => h) (Or.inl ⟨by rfl, ?_⟩) ?_ ?_
                        rotate_left
                        · intro w'
                          go_simp
                          with_reducible rfl
                        rotate_left
                        · simp only [Act.put, List.setIfInBounds_toArray, List.set_cons_zero, List.set_cons_succ, i64_w, i32_w]
                          rfl
                        refine take_ (i := 0) (N := some 43) (v := ?_) (a' := ?_) #[true, true, true, true, false, false, false, false, false, false, false, false, false, false] rfl rfl (take_ofW HT_.out HW_.out (by kernel_rfl)) (fun _ _ _ h => h) (Or.inl ⟨by rfl, ?_⟩) hHeld ?_ ?_
                        rotate_left
                        · rintro w' ⟨s0, s1, s2, s3, s4, s5, s6, s7, s8, s9, s10, s11, s12, s13, s14, s15, s16, s17⟩
                          go_simp
                          with_reducible rfl
                        rotate_left
                        · simp only [Act.put, List.setIfInBounds_toArray, List.set_cons_zero, List.set_cons_succ, i64_w, i32_w]
                          rfl
                        refine take_ (i := 4) (N := some 47) (v := ?_) (a' := ?_) #[true, true, true, true, true, false, false, false, false, false, false, false, false, false] rfl rfl (take_ofW HT_.out HW_.out (by kernel_rfl)) (fun _ _ _ h => h) (Or.inl ⟨by rfl, ?_⟩) hHeld ?_ ?_
                        rotate_left
                        · rintro w' ⟨s0, s1, s2, s3, s4, s5, s6, s7, s8, s9, s10, s11, s12, s13, s14, s15, s16, s17⟩
                          go_simp
                          with_reducible rfl
                        rotate_left
                        · simp only [Act.put, List.setIfInBounds_toArray, List.set_cons_zero, List.set_cons_succ, i64_w, i32_w]
                          rfl
                        refine join_ (σ := Nat) 3 #[true, true, true, true, true, true, true, true, true, true, true, false, false, false] (fun s_ => [(48, .tuple #[.agg #[.bool t484, .int .i64 t485], .int .i64 t486, .bool false]), (10, .pointer (some ⟨s_, 0, none⟩)), (42, .tuple #[.agg #[.bool t484, .int .i64 t485], .int .i64 t486, .bool false]), (49, .agg #[.bool t484, .int .i64 t485]), (50, .int .i64 t486), (51, .bool false)]) (fun s_ w' => (w'.cell? ⟨gb465, 0, none⟩ = some (.bool x466000_2) ∧ w'.cell? ⟨gb465, 1, none⟩ = some (.int .i64 x466001_2) ∧ w'.cell? (ad483.add ((x9_2).toNat * 16)) = some (.int .u8 ((rd_T22 l1 x9_2).f0)) ∧ w'.cell? ⟨(ad483.add ((x9_2).toNat * 16)).block, (ad483.add ((x9_2).toNat * 16)).off + 1, none⟩ = some (.int .u8 ((rd_T22 l1 x9_2).f1)) ∧ w'.cell? ⟨(ad483.add ((x9_2).toNat * 16)).block, (ad483.add ((x9_2).toNat * 16)).off + 2, none⟩ = some (.int .u8 ((rd_T22 l1 x9_2).f2)) ∧ w'.cell? ⟨(ad483.add ((x9_2).toNat * 16)).block, (ad483.add ((x9_2).toNat * 16)).off + 3, none⟩ = some (.int .u8 ((rd_T22 l1 x9_2).f3)) ∧ w'.cell? ⟨(ad483.add ((x9_2).toNat * 16)).block, (ad483.add ((x9_2).toNat * 16)).off + 4, none⟩ = some (.int .u8 ((rd_T22 l1 x9_2).f4)) ∧ w'.cell? ⟨(ad483.add ((x9_2).toNat * 16)).block, (ad483.add ((x9_2).toNat * 16)).off + 5, none⟩ = some (.int .u8 ((rd_T22 l1 x9_2).f5)) ∧ w'.cell? ⟨(ad483.add ((x9_2).toNat * 16)).block, (ad483.add ((x9_2).toNat * 16)).off + 6, none⟩ = some (.int .u8 ((rd_T22 l1 x9_2).f6)) ∧ w'.cell? ⟨(ad483.add ((x9_2).toNat * 16)).block, (ad483.add ((x9_2).toNat * 16)).off + 7, none⟩ = some (.int .u8 ((rd_T22 l1 x9_2).f7)) ∧ w'.cell? ⟨(ad483.add ((x9_2).toNat * 16)).block, (ad483.add ((x9_2).toNat * 16)).off + 8, none⟩ = some (.int .u8 ((rd_T22 l1 x9_2).f8)) ∧ w'.cell? ⟨(ad483.add ((x9_2).toNat * 16)).block, (ad483.add ((x9_2).toNat * 16)).off + 9, none⟩ = some (.int .u8 ((rd_T22 l1 x9_2).f9)) ∧ w'.cell? ⟨(ad483.add ((x9_2).toNat * 16)).block, (ad483.add ((x9_2).toNat * 16)).off + 10, none⟩ = some (.int .u8 ((rd_T22 l1 x9_2).f10)) ∧ w'.cell? ⟨(ad483.add ((x9_2).toNat * 16)).block, (ad483.add ((x9_2).toNat * 16)).off + 11, none⟩ = some (.int .u8 ((rd_T22 l1 x9_2).f11)) ∧ w'.cell? ⟨(ad483.add ((x9_2).toNat * 16)).block, (ad483.add ((x9_2).toNat * 16)).off + 12, none⟩ = some (.int .u8 ((rd_T22 l1 x9_2).f12)) ∧ w'.cell? ⟨(ad483.add ((x9_2).toNat * 16)).block, (ad483.add ((x9_2).toNat * 16)).off + 13, none⟩ = some (.int .u8 ((rd_T22 l1 x9_2).f13)) ∧ w'.cell? ⟨(ad483.add ((x9_2).toNat * 16)).block, (ad483.add ((x9_2).toNat * 16)).off + 14, none⟩ = some (.int .u8 ((rd_T22 l1 x9_2).f14)) ∧ w'.cell? ⟨(ad483.add ((x9_2).toNat * 16)).block, (ad483.add ((x9_2).toNat * 16)).off + 15, none⟩ = some (.int .u8 ((rd_T22 l1 x9_2).f15))) ∧ (Kd.R (Kd.int .i64) 3 w' w.heap.size (fun k_ => some k_ ≠ (v476 : Value).ownBlock) u5 x5_2) ∧ (Kd.R (Kd.int .i64) 3 w' w.heap.size (fun k_ => some k_ ≠ (u5 : Value).ownBlock) v476 t475) ∧ (w'.heap[gb465]? = some (.cells #[.bool x466000_2, .int .i64 x466001_2] 31 (0, 0))) ∧ (w'.heap[gb480]? = some (.cells #[.bool t478, .int .i64 t479] 31 (0, 0))) ∧ (w'.heap[s_]? = some (.cells #[.bool false, .int .i64 0] 31 (0, 0))) ∧ (w.heap.size ≤ s_) ∧ (w.heap.size ≤ s_) ∧ (gb465 ≠ s_) ∧ (s_ ≠ gb465) ∧ (gb480 ≠ s_) ∧ (s_ ≠ gb480) ∧ (Below w.heap.size w w')) ?_ ?_
                        rotate_left
                        · intro hCont
                          refine two_ (i := 5) (j := 10) (Ni := some 48) (Nj := some 10) #[true, true, true, true, true, true, false, false, false, false, false, false, false, false] #[true, true, true, true, true, false, false, false, false, false, true, false, false, false] rfl rfl rfl rfl (two_of HT_.out (by kernel_rfl)) (by decide) (by decide) (fun K hK => ?_) (fun K hK => ?_)
                          · skip
                            refine goes_ Try.func16 (by kernel_rfl) rfl #[.agg #[.bool x466000_2, .int .i64 x466001_2], .agg #[.int .u8 ((rd_T22 l1 x9_2).f0), .int .u8 ((rd_T22 l1 x9_2).f1), .int .u8 ((rd_T22 l1 x9_2).f2), .int .u8 ((rd_T22 l1 x9_2).f3), .int .u8 ((rd_T22 l1 x9_2).f4), .int .u8 ((rd_T22 l1 x9_2).f5), .int .u8 ((rd_T22 l1 x9_2).f6), .int .u8 ((rd_T22 l1 x9_2).f7), .int .u8 ((rd_T22 l1 x9_2).f8), .int .u8 ((rd_T22 l1 x9_2).f9), .int .u8 ((rd_T22 l1 x9_2).f10), .int .u8 ((rd_T22 l1 x9_2).f11), .int .u8 ((rd_T22 l1 x9_2).f12), .int .u8 ((rd_T22 l1 x9_2).f13), .int .u8 ((rd_T22 l1 x9_2).f14), .int .u8 ((rd_T22 l1 x9_2).f15)]] (by rfl) rfl rfl (by (try simp only [List.map_toArray, List.map_cons, List.map_nil]); first | done | rfl | (simp only [List.length_drop, List.length_take]; rfl)) ?_
                            with_reducible refine (uplink_Receive.calls k2 x466000_2 x466001_2 ((rd_T22 l1 x9_2).f0) ((rd_T22 l1 x9_2).f1) ((rd_T22 l1 x9_2).f2) ((rd_T22 l1 x9_2).f3) ((rd_T22 l1 x9_2).f4) ((rd_T22 l1 x9_2).f5) ((rd_T22 l1 x9_2).f6) ((rd_T22 l1 x9_2).f7) ((rd_T22 l1 x9_2).f8) ((rd_T22 l1 x9_2).f9) ((rd_T22 l1 x9_2).f10) ((rd_T22 l1 x9_2).f11) ((rd_T22 l1 x9_2).f12) ((rd_T22 l1 x9_2).f13) ((rd_T22 l1 x9_2).f14) ((rd_T22 l1 x9_2).f15) t484 t485 t486 false _ A26.out).mono ?_
                            rintro e w43 ⟨rfl, hb⟩
                            refine ⟨_, rfl, ?_⟩
                            have n0_ := Aside0.mk (Kd.R_below (by (with_reducible repeat (first | apply Kd.R_alloc | apply Kd.R_drewN | apply Kd.R_drew)); exact HO_5.out) hb)
                            have n1_ := Aside0.mk (Kd.R_below (by (with_reducible repeat (first | apply Kd.R_alloc | apply Kd.R_drewN | apply Kd.R_drew)); exact HO_7.out) hb)
                            have n2_ := Aside0.mk (blk_below (g := gb465) (o := .cells #[.bool x466000_2, .int .i64 x466001_2] 31 (0, 0)) (by (with_reducible repeat (first | refine blk_drewN ?_ _ | refine blk_drew ?_ | refine blk_alloc ?_ _)); exact BK465.out) hb)
                            have n3_ := Aside0.mk (blk_below (g := gb480) (o := .cells #[.bool t478, .int .i64 t479] 31 (0, 0)) (by (with_reducible repeat (first | refine blk_drewN ?_ _ | refine blk_drew ?_ | refine blk_alloc ?_ _)); exact BK480.out) hb)
                            have n4_ := Aside0.mk (below_step (by repeat (first | (with_reducible first | exact HB.out | apply below_alloc | apply pw_below_drewN | apply below_drew1 | refine below_set ?_ GE465.out | refine below_set ?_ GE480.out) | exact HB.out)) hb)
                            clear HO_5
                            clear HO_7
                            clear BK465
                            clear BK480
                            clear HB
                            have HO_5 := n0_
                            have HO_7 := n1_
                            have BK465 := n2_
                            have BK480 := n3_
                            have HB := n4_
                            clear n0_ n1_ n2_ n3_ n4_
                            (try clear hb)
                            (try clear hb2)
                            (try clear hk)
                            (try clear hi)
                            refine hK.out _ _ ⟨(blk_cell BK465.out 0).trans rfl, (blk_cell BK465.out 1).trans rfl, ((HB.out.cell (World.block_lt_of_cell? w _ hw483_0)).trans hw483_0), ((HB.out.cell (World.block_lt_of_cell? w _ hw483_1)).trans hw483_1), ((HB.out.cell (World.block_lt_of_cell? w _ hw483_2)).trans hw483_2), ((HB.out.cell (World.block_lt_of_cell? w _ hw483_3)).trans hw483_3), ((HB.out.cell (World.block_lt_of_cell? w _ hw483_4)).trans hw483_4), ((HB.out.cell (World.block_lt_of_cell? w _ hw483_5)).trans hw483_5), ((HB.out.cell (World.block_lt_of_cell? w _ hw483_6)).trans hw483_6), ((HB.out.cell (World.block_lt_of_cell? w _ hw483_7)).trans hw483_7), ((HB.out.cell (World.block_lt_of_cell? w _ hw483_8)).trans hw483_8), ((HB.out.cell (World.block_lt_of_cell? w _ hw483_9)).trans hw483_9), ((HB.out.cell (World.block_lt_of_cell? w _ hw483_10)).trans hw483_10), ((HB.out.cell (World.block_lt_of_cell? w _ hw483_11)).trans hw483_11), ((HB.out.cell (World.block_lt_of_cell? w _ hw483_12)).trans hw483_12), ((HB.out.cell (World.block_lt_of_cell? w _ hw483_13)).trans hw483_13), ((HB.out.cell (World.block_lt_of_cell? w _ hw483_14)).trans hw483_14), ((HB.out.cell (World.block_lt_of_cell? w _ hw483_15)).trans hw483_15)⟩ (fun hHeld => ?_)
                            clear hK K
                            refine norm_ (a' := ?_) ?_ ?_
                            rotate_left
                            · show Act.put _ (some 48) _ = _
                              simp only [Act.put, List.setIfInBounds_toArray, List.set_cons_zero, List.set_cons_succ, i64_w, i32_w]
                              rfl
                            refine pure_ (i := 6) (N := some 42) (v := ?_) (a' := ?_) #[true, true, true, true, true, true, true, false, false, false, false, false, false, false] rfl rfl (any_of HT_.out (by kernel_rfl)) (fun _ _ _ h => h) (Or.inl ⟨by rfl, ?_⟩) ?_ ?_
                            rotate_left
                            · intro w'
                              go_simp
                              with_reducible rfl
                            rotate_left
                            · simp only [Act.put, List.setIfInBounds_toArray, List.set_cons_zero, List.set_cons_succ, i64_w, i32_w]
                              rfl
                            refine pure_ (i := 7) (N := some 49) (v := ?_) (a' := ?_) #[true, true, true, true, true, true, true, true, false, false, false, false, false, false] rfl rfl (any_of HT_.out (by kernel_rfl)) (fun _ _ _ h => h) (Or.inl ⟨by rfl, ?_⟩) ?_ ?_
                            rotate_left
                            · intro w'
                              go_simp
                              with_reducible rfl
                            rotate_left
                            · simp only [Act.put, List.setIfInBounds_toArray, List.set_cons_zero, List.set_cons_succ, i64_w, i32_w]
                              rfl
                            refine pure_ (i := 8) (N := some 50) (v := ?_) (a' := ?_) #[true, true, true, true, true, true, true, true, true, false, false, false, false, false] rfl rfl (any_of HT_.out (by kernel_rfl)) (fun _ _ _ h => h) (Or.inl ⟨by rfl, ?_⟩) ?_ ?_
                            rotate_left
                            · intro w'
                              go_simp
                              with_reducible rfl
                            rotate_left
                            · simp only [Act.put, List.setIfInBounds_toArray, List.set_cons_zero, List.set_cons_succ, i64_w, i32_w]
                              rfl
                            refine pure_ (i := 9) (N := some 51) (v := ?_) (a' := ?_) #[true, true, true, true, true, true, true, true, true, true, false, false, false, false] rfl rfl (any_of HT_.out (by kernel_rfl)) (fun _ _ _ h => h) (Or.inl ⟨by rfl, ?_⟩) ?_ ?_
                            rotate_left
                            · intro w'
                              go_simp
                              with_reducible rfl
                            rotate_left
                            · simp only [Act.put, List.setIfInBounds_toArray, List.set_cons_zero, List.set_cons_succ, i64_w, i32_w]
                              rfl
                            refine one_ (i := 10) (N := some 10) #[true, true, true, true, true, true, true, true, true, true, true, false, false, false] rfl rfl (one_of HT_.out (by kernel_rfl)) (by decide) (fun K hK => ?_)
                            refine box_step ?hg (N := 10) ?hd (cs := #[.bool false, .int .i64 0]) (t := 31) ?hr ?_; (case hd => rfl); (case hg => rfl); (case hr => first | (go_simp; done) | (go_simp; rfl))
                            intro gb488 hg w44 hbox hb
                            have n0_ := Aside0.mk (Kd.R_below (by (with_reducible repeat (first | apply Kd.R_alloc | apply Kd.R_drewN | apply Kd.R_drew)); exact HO_5.out) hb)
                            have n1_ := Aside0.mk (Kd.R_below (by (with_reducible repeat (first | apply Kd.R_alloc | apply Kd.R_drewN | apply Kd.R_drew)); exact HO_7.out) hb)
                            have n2_ := Aside0.mk (blk_below (g := gb465) (o := .cells #[.bool x466000_2, .int .i64 x466001_2] 31 (0, 0)) (by (with_reducible repeat (first | refine blk_drewN ?_ _ | refine blk_drew ?_ | refine blk_alloc ?_ _)); exact BK465.out) hb)
                            have n3_ := Aside0.mk (blk_below (g := gb480) (o := .cells #[.bool t478, .int .i64 t479] 31 (0, 0)) (by (with_reducible repeat (first | refine blk_drewN ?_ _ | refine blk_drew ?_ | refine blk_alloc ?_ _)); exact BK480.out) hb)
                            have n4_ := Aside0.mk (below_step (by repeat (first | (with_reducible first | exact HB.out | apply below_alloc | apply pw_below_drewN | apply below_drew1 | refine below_set ?_ GE465.out | refine below_set ?_ GE480.out) | exact HB.out)) hb)
                            have n5_ := Aside0.mk (hbox)
                            have n6_ := Aside0.mk ((by rw [hg]; exact (below_size (by repeat (first | (with_reducible first | exact HB.out | apply below_alloc | apply pw_below_drewN | apply below_drew1 | refine below_set ?_ GE465.out | refine below_set ?_ GE480.out) | exact HB.out))) : w.heap.size ≤ gb488))
                            have n7_ := Aside0.mk ((by rw [hg]; exact (below_size (by repeat (first | (with_reducible first | exact HB.out | apply below_alloc | apply pw_below_drewN | apply below_drew1 | refine below_set ?_ GE465.out | refine below_set ?_ GE480.out) | exact HB.out))) : w.heap.size ≤ gb488))
                            have n8_ := Aside0.mk ((by rw [hg]; exact Nat.ne_of_lt (blk_lt (g := gb465) (o := .cells #[.bool x466000_2, .int .i64 x466001_2] 31 (0, 0)) (by (with_reducible repeat (first | refine blk_drewN ?_ _ | refine blk_drew ?_ | refine blk_alloc ?_ _)); exact BK465.out)) : gb465 ≠ gb488))
                            have n9_ := Aside0.mk ((by rw [hg]; exact Nat.ne_of_gt (blk_lt (g := gb465) (o := .cells #[.bool x466000_2, .int .i64 x466001_2] 31 (0, 0)) (by (with_reducible repeat (first | refine blk_drewN ?_ _ | refine blk_drew ?_ | refine blk_alloc ?_ _)); exact BK465.out)) : gb488 ≠ gb465))
                            have n10_ := Aside0.mk ((by rw [hg]; exact Nat.ne_of_lt (blk_lt (g := gb480) (o := .cells #[.bool t478, .int .i64 t479] 31 (0, 0)) (by (with_reducible repeat (first | refine blk_drewN ?_ _ | refine blk_drew ?_ | refine blk_alloc ?_ _)); exact BK480.out)) : gb480 ≠ gb488))
                            have n11_ := Aside0.mk ((by rw [hg]; exact Nat.ne_of_gt (blk_lt (g := gb480) (o := .cells #[.bool t478, .int .i64 t479] 31 (0, 0)) (by (with_reducible repeat (first | refine blk_drewN ?_ _ | refine blk_drew ?_ | refine blk_alloc ?_ _)); exact BK480.out)) : gb488 ≠ gb480))
                            clear HO_5
                            clear HO_7
                            clear BK465
                            clear BK480
                            clear HB
                            have HO_5 := n0_
                            have HO_7 := n1_
                            have BK465 := n2_
                            have BK480 := n3_
                            have HB := n4_
                            have BK488 := n5_
                            have GW488 := n6_
                            have GE488 := n7_
                            have NB465_488 := n8_
                            have NB488_465 := n9_
                            have NB480_488 := n10_
                            have NB488_480 := n11_
                            clear n0_ n1_ n2_ n3_ n4_ n5_ n6_ n7_ n8_ n9_ n10_ n11_
                            clear hb hbox hg
                            refine hK.out _ _ ⟨(blk_cell BK465.out 0).trans rfl, (blk_cell BK465.out 1).trans rfl, ((HB.out.cell (World.block_lt_of_cell? w _ hw483_0)).trans hw483_0), ((HB.out.cell (World.block_lt_of_cell? w _ hw483_1)).trans hw483_1), ((HB.out.cell (World.block_lt_of_cell? w _ hw483_2)).trans hw483_2), ((HB.out.cell (World.block_lt_of_cell? w _ hw483_3)).trans hw483_3), ((HB.out.cell (World.block_lt_of_cell? w _ hw483_4)).trans hw483_4), ((HB.out.cell (World.block_lt_of_cell? w _ hw483_5)).trans hw483_5), ((HB.out.cell (World.block_lt_of_cell? w _ hw483_6)).trans hw483_6), ((HB.out.cell (World.block_lt_of_cell? w _ hw483_7)).trans hw483_7), ((HB.out.cell (World.block_lt_of_cell? w _ hw483_8)).trans hw483_8), ((HB.out.cell (World.block_lt_of_cell? w _ hw483_9)).trans hw483_9), ((HB.out.cell (World.block_lt_of_cell? w _ hw483_10)).trans hw483_10), ((HB.out.cell (World.block_lt_of_cell? w _ hw483_11)).trans hw483_11), ((HB.out.cell (World.block_lt_of_cell? w _ hw483_12)).trans hw483_12), ((HB.out.cell (World.block_lt_of_cell? w _ hw483_13)).trans hw483_13), ((HB.out.cell (World.block_lt_of_cell? w _ hw483_14)).trans hw483_14), ((HB.out.cell (World.block_lt_of_cell? w _ hw483_15)).trans hw483_15)⟩ (fun hHeld => ?_)
                            clear hK K
                            refine norm_ (a' := ?_) ?_ ?_
                            rotate_left
                            · show Act.put _ (some 10) _ = _
                              simp only [Act.put, List.setIfInBounds_toArray, List.set_cons_zero, List.set_cons_succ, i64_w, i32_w]
                              rfl
                            exact norm_ (by simp only [putAll, Act.put, List.setIfInBounds_toArray, List.set_cons_zero, List.set_cons_succ]) (hCont (gb488) _ ⟨hHeld, (by (with_reducible repeat (first | apply Kd.R_alloc | apply Kd.R_drewN | apply Kd.R_drew)); exact HO_5.out), (by (with_reducible repeat (first | apply Kd.R_alloc | apply Kd.R_drewN | apply Kd.R_drew)); exact HO_7.out), (by (with_reducible repeat (first | refine blk_drewN ?_ _ | refine blk_drew ?_ | refine blk_alloc ?_ _)); exact BK465.out), (by (with_reducible repeat (first | refine blk_drewN ?_ _ | refine blk_drew ?_ | refine blk_alloc ?_ _)); exact BK480.out), (by (with_reducible repeat (first | refine blk_drewN ?_ _ | refine blk_drew ?_ | refine blk_alloc ?_ _)); exact BK488.out), GW488.out, GE488.out, NB465_488.out, NB488_465.out, NB480_488.out, NB488_480.out, (by repeat (first | (with_reducible first | exact HB.out | apply below_alloc | apply pw_below_drewN | apply below_drew1 | refine below_set ?_ GE465.out | refine below_set ?_ GE480.out | refine below_set ?_ GE488.out) | exact HB.out))⟩)
                          · skip
                            refine box_step ?hg (N := 10) ?hd (cs := #[.bool false, .int .i64 0]) (t := 31) ?hr ?_; (case hd => rfl); (case hg => rfl); (case hr => first | (go_simp; done) | (go_simp; rfl))
                            intro gb488 hg w43 hbox hb
                            have n0_ := Aside0.mk (Kd.R_below (by (with_reducible repeat (first | apply Kd.R_alloc | apply Kd.R_drewN | apply Kd.R_drew)); exact HO_5.out) hb)
                            have n1_ := Aside0.mk (Kd.R_below (by (with_reducible repeat (first | apply Kd.R_alloc | apply Kd.R_drewN | apply Kd.R_drew)); exact HO_7.out) hb)
                            have n2_ := Aside0.mk (blk_below (g := gb465) (o := .cells #[.bool x466000_2, .int .i64 x466001_2] 31 (0, 0)) (by (with_reducible repeat (first | refine blk_drewN ?_ _ | refine blk_drew ?_ | refine blk_alloc ?_ _)); exact BK465.out) hb)
                            have n3_ := Aside0.mk (blk_below (g := gb480) (o := .cells #[.bool t478, .int .i64 t479] 31 (0, 0)) (by (with_reducible repeat (first | refine blk_drewN ?_ _ | refine blk_drew ?_ | refine blk_alloc ?_ _)); exact BK480.out) hb)
                            have n4_ := Aside0.mk (below_step (by repeat (first | (with_reducible first | exact HB.out | apply below_alloc | apply pw_below_drewN | apply below_drew1 | refine below_set ?_ GE465.out | refine below_set ?_ GE480.out) | exact HB.out)) hb)
                            have n5_ := Aside0.mk (hbox)
                            have n6_ := Aside0.mk ((by rw [hg]; exact (below_size (by repeat (first | (with_reducible first | exact HB.out | apply below_alloc | apply pw_below_drewN | apply below_drew1 | refine below_set ?_ GE465.out | refine below_set ?_ GE480.out) | exact HB.out))) : w.heap.size ≤ gb488))
                            have n7_ := Aside0.mk ((by rw [hg]; exact (below_size (by repeat (first | (with_reducible first | exact HB.out | apply below_alloc | apply pw_below_drewN | apply below_drew1 | refine below_set ?_ GE465.out | refine below_set ?_ GE480.out) | exact HB.out))) : w.heap.size ≤ gb488))
                            have n8_ := Aside0.mk ((by rw [hg]; exact Nat.ne_of_lt (blk_lt (g := gb465) (o := .cells #[.bool x466000_2, .int .i64 x466001_2] 31 (0, 0)) (by (with_reducible repeat (first | refine blk_drewN ?_ _ | refine blk_drew ?_ | refine blk_alloc ?_ _)); exact BK465.out)) : gb465 ≠ gb488))
                            have n9_ := Aside0.mk ((by rw [hg]; exact Nat.ne_of_gt (blk_lt (g := gb465) (o := .cells #[.bool x466000_2, .int .i64 x466001_2] 31 (0, 0)) (by (with_reducible repeat (first | refine blk_drewN ?_ _ | refine blk_drew ?_ | refine blk_alloc ?_ _)); exact BK465.out)) : gb488 ≠ gb465))
                            have n10_ := Aside0.mk ((by rw [hg]; exact Nat.ne_of_lt (blk_lt (g := gb480) (o := .cells #[.bool t478, .int .i64 t479] 31 (0, 0)) (by (with_reducible repeat (first | refine blk_drewN ?_ _ | refine blk_drew ?_ | refine blk_alloc ?_ _)); exact BK480.out)) : gb480 ≠ gb488))
                            have n11_ := Aside0.mk ((by rw [hg]; exact Nat.ne_of_gt (blk_lt (g := gb480) (o := .cells #[.bool t478, .int .i64 t479] 31 (0, 0)) (by (with_reducible repeat (first | refine blk_drewN ?_ _ | refine blk_drew ?_ | refine blk_alloc ?_ _)); exact BK480.out)) : gb488 ≠ gb480))
                            clear HO_5
                            clear HO_7
                            clear BK465
                            clear BK480
                            clear HB
                            have HO_5 := n0_
                            have HO_7 := n1_
                            have BK465 := n2_
                            have BK480 := n3_
                            have HB := n4_
                            have BK488 := n5_
                            have GW488 := n6_
                            have GE488 := n7_
                            have NB465_488 := n8_
                            have NB488_465 := n9_
                            have NB480_488 := n10_
                            have NB488_480 := n11_
                            clear n0_ n1_ n2_ n3_ n4_ n5_ n6_ n7_ n8_ n9_ n10_ n11_
                            clear hb hbox hg
                            refine hK.out _ _ ⟨(blk_cell BK465.out 0).trans rfl, (blk_cell BK465.out 1).trans rfl, ((HB.out.cell (World.block_lt_of_cell? w _ hw483_0)).trans hw483_0), ((HB.out.cell (World.block_lt_of_cell? w _ hw483_1)).trans hw483_1), ((HB.out.cell (World.block_lt_of_cell? w _ hw483_2)).trans hw483_2), ((HB.out.cell (World.block_lt_of_cell? w _ hw483_3)).trans hw483_3), ((HB.out.cell (World.block_lt_of_cell? w _ hw483_4)).trans hw483_4), ((HB.out.cell (World.block_lt_of_cell? w _ hw483_5)).trans hw483_5), ((HB.out.cell (World.block_lt_of_cell? w _ hw483_6)).trans hw483_6), ((HB.out.cell (World.block_lt_of_cell? w _ hw483_7)).trans hw483_7), ((HB.out.cell (World.block_lt_of_cell? w _ hw483_8)).trans hw483_8), ((HB.out.cell (World.block_lt_of_cell? w _ hw483_9)).trans hw483_9), ((HB.out.cell (World.block_lt_of_cell? w _ hw483_10)).trans hw483_10), ((HB.out.cell (World.block_lt_of_cell? w _ hw483_11)).trans hw483_11), ((HB.out.cell (World.block_lt_of_cell? w _ hw483_12)).trans hw483_12), ((HB.out.cell (World.block_lt_of_cell? w _ hw483_13)).trans hw483_13), ((HB.out.cell (World.block_lt_of_cell? w _ hw483_14)).trans hw483_14), ((HB.out.cell (World.block_lt_of_cell? w _ hw483_15)).trans hw483_15)⟩ (fun hHeld => ?_)
                            clear hK K
                            refine norm_ (a' := ?_) ?_ ?_
                            rotate_left
                            · show Act.put _ (some 10) _ = _
                              simp only [Act.put, List.setIfInBounds_toArray, List.set_cons_zero, List.set_cons_succ, i64_w, i32_w]
                              rfl
                            refine one_ (i := 5) (N := some 48) #[true, true, true, true, true, true, false, false, false, false, true, false, false, false] rfl rfl (one_of HT_.out (by kernel_rfl)) (by decide) (fun K hK => ?_)
                            refine goes_ Try.func16 (by kernel_rfl) rfl #[.agg #[.bool x466000_2, .int .i64 x466001_2], .agg #[.int .u8 ((rd_T22 l1 x9_2).f0), .int .u8 ((rd_T22 l1 x9_2).f1), .int .u8 ((rd_T22 l1 x9_2).f2), .int .u8 ((rd_T22 l1 x9_2).f3), .int .u8 ((rd_T22 l1 x9_2).f4), .int .u8 ((rd_T22 l1 x9_2).f5), .int .u8 ((rd_T22 l1 x9_2).f6), .int .u8 ((rd_T22 l1 x9_2).f7), .int .u8 ((rd_T22 l1 x9_2).f8), .int .u8 ((rd_T22 l1 x9_2).f9), .int .u8 ((rd_T22 l1 x9_2).f10), .int .u8 ((rd_T22 l1 x9_2).f11), .int .u8 ((rd_T22 l1 x9_2).f12), .int .u8 ((rd_T22 l1 x9_2).f13), .int .u8 ((rd_T22 l1 x9_2).f14), .int .u8 ((rd_T22 l1 x9_2).f15)]] (by rfl) rfl rfl (by (try simp only [List.map_toArray, List.map_cons, List.map_nil]); first | done | rfl | (simp only [List.length_drop, List.length_take]; rfl)) ?_
                            with_reducible refine (uplink_Receive.calls k2 x466000_2 x466001_2 ((rd_T22 l1 x9_2).f0) ((rd_T22 l1 x9_2).f1) ((rd_T22 l1 x9_2).f2) ((rd_T22 l1 x9_2).f3) ((rd_T22 l1 x9_2).f4) ((rd_T22 l1 x9_2).f5) ((rd_T22 l1 x9_2).f6) ((rd_T22 l1 x9_2).f7) ((rd_T22 l1 x9_2).f8) ((rd_T22 l1 x9_2).f9) ((rd_T22 l1 x9_2).f10) ((rd_T22 l1 x9_2).f11) ((rd_T22 l1 x9_2).f12) ((rd_T22 l1 x9_2).f13) ((rd_T22 l1 x9_2).f14) ((rd_T22 l1 x9_2).f15) t484 t485 t486 false _ A26.out).mono ?_
                            rintro e w44 ⟨rfl, hb⟩
                            refine ⟨_, rfl, ?_⟩
                            have n0_ := Aside0.mk (Kd.R_below (by (with_reducible repeat (first | apply Kd.R_alloc | apply Kd.R_drewN | apply Kd.R_drew)); exact HO_5.out) hb)
                            have n1_ := Aside0.mk (Kd.R_below (by (with_reducible repeat (first | apply Kd.R_alloc | apply Kd.R_drewN | apply Kd.R_drew)); exact HO_7.out) hb)
                            have n2_ := Aside0.mk (blk_below (g := gb465) (o := .cells #[.bool x466000_2, .int .i64 x466001_2] 31 (0, 0)) (by (with_reducible repeat (first | refine blk_drewN ?_ _ | refine blk_drew ?_ | refine blk_alloc ?_ _)); exact BK465.out) hb)
                            have n3_ := Aside0.mk (blk_below (g := gb480) (o := .cells #[.bool t478, .int .i64 t479] 31 (0, 0)) (by (with_reducible repeat (first | refine blk_drewN ?_ _ | refine blk_drew ?_ | refine blk_alloc ?_ _)); exact BK480.out) hb)
                            have n4_ := Aside0.mk (blk_below (g := gb488) (o := .cells #[.bool false, .int .i64 0] 31 (0, 0)) (by (with_reducible repeat (first | refine blk_drewN ?_ _ | refine blk_drew ?_ | refine blk_alloc ?_ _)); exact BK488.out) hb)
                            have n5_ := Aside0.mk (below_step (by repeat (first | (with_reducible first | exact HB.out | apply below_alloc | apply pw_below_drewN | apply below_drew1 | refine below_set ?_ GE465.out | refine below_set ?_ GE480.out | refine below_set ?_ GE488.out) | exact HB.out)) hb)
                            clear HO_5
                            clear HO_7
                            clear BK465
                            clear BK480
                            clear BK488
                            clear HB
                            have HO_5 := n0_
                            have HO_7 := n1_
                            have BK465 := n2_
                            have BK480 := n3_
                            have BK488 := n4_
                            have HB := n5_
                            clear n0_ n1_ n2_ n3_ n4_ n5_
                            (try clear hb)
                            (try clear hb2)
                            (try clear hk)
                            (try clear hi)
                            refine hK.out _ _ ⟨(blk_cell BK465.out 0).trans rfl, (blk_cell BK465.out 1).trans rfl, ((HB.out.cell (World.block_lt_of_cell? w _ hw483_0)).trans hw483_0), ((HB.out.cell (World.block_lt_of_cell? w _ hw483_1)).trans hw483_1), ((HB.out.cell (World.block_lt_of_cell? w _ hw483_2)).trans hw483_2), ((HB.out.cell (World.block_lt_of_cell? w _ hw483_3)).trans hw483_3), ((HB.out.cell (World.block_lt_of_cell? w _ hw483_4)).trans hw483_4), ((HB.out.cell (World.block_lt_of_cell? w _ hw483_5)).trans hw483_5), ((HB.out.cell (World.block_lt_of_cell? w _ hw483_6)).trans hw483_6), ((HB.out.cell (World.block_lt_of_cell? w _ hw483_7)).trans hw483_7), ((HB.out.cell (World.block_lt_of_cell? w _ hw483_8)).trans hw483_8), ((HB.out.cell (World.block_lt_of_cell? w _ hw483_9)).trans hw483_9), ((HB.out.cell (World.block_lt_of_cell? w _ hw483_10)).trans hw483_10), ((HB.out.cell (World.block_lt_of_cell? w _ hw483_11)).trans hw483_11), ((HB.out.cell (World.block_lt_of_cell? w _ hw483_12)).trans hw483_12), ((HB.out.cell (World.block_lt_of_cell? w _ hw483_13)).trans hw483_13), ((HB.out.cell (World.block_lt_of_cell? w _ hw483_14)).trans hw483_14), ((HB.out.cell (World.block_lt_of_cell? w _ hw483_15)).trans hw483_15)⟩ (fun hHeld => ?_)
                            clear hK K
                            refine norm_ (a' := ?_) ?_ ?_
                            rotate_left
                            · show Act.put _ (some 48) _ = _
                              simp only [Act.put, List.setIfInBounds_toArray, List.set_cons_zero, List.set_cons_succ, i64_w, i32_w]
                              rfl
                            refine pure_ (i := 6) (N := some 42) (v := ?_) (a' := ?_) #[true, true, true, true, true, true, true, false, false, false, true, false, false, false] rfl rfl (any_of HT_.out (by kernel_rfl)) (fun _ _ _ h => h) (Or.inl ⟨by rfl, ?_⟩) ?_ ?_
                            rotate_left
                            · intro w'
                              go_simp
                              with_reducible rfl
                            rotate_left
                            · simp only [Act.put, List.setIfInBounds_toArray, List.set_cons_zero, List.set_cons_succ, i64_w, i32_w]
                              rfl
                            refine pure_ (i := 7) (N := some 49) (v := ?_) (a' := ?_) #[true, true, true, true, true, true, true, true, false, false, true, false, false, false] rfl rfl (any_of HT_.out (by kernel_rfl)) (fun _ _ _ h => h) (Or.inl ⟨by rfl, ?_⟩) ?_ ?_
                            rotate_left
                            · intro w'
                              go_simp
                              with_reducible rfl
                            rotate_left
                            · simp only [Act.put, List.setIfInBounds_toArray, List.set_cons_zero, List.set_cons_succ, i64_w, i32_w]
                              rfl
                            refine pure_ (i := 8) (N := some 50) (v := ?_) (a' := ?_) #[true, true, true, true, true, true, true, true, true, false, true, false, false, false] rfl rfl (any_of HT_.out (by kernel_rfl)) (fun _ _ _ h => h) (Or.inl ⟨by rfl, ?_⟩) ?_ ?_
                            rotate_left
                            · intro w'
                              go_simp
                              with_reducible rfl
                            rotate_left
                            · simp only [Act.put, List.setIfInBounds_toArray, List.set_cons_zero, List.set_cons_succ, i64_w, i32_w]
                              rfl
                            refine pure_ (i := 9) (N := some 51) (v := ?_) (a' := ?_) #[true, true, true, true, true, true, true, true, true, true, true, false, false, false] rfl rfl (any_of HT_.out (by kernel_rfl)) (fun _ _ _ h => h) (Or.inl ⟨by rfl, ?_⟩) ?_ ?_
                            rotate_left
                            · intro w'
                              go_simp
                              with_reducible rfl
                            rotate_left
                            · simp only [Act.put, List.setIfInBounds_toArray, List.set_cons_zero, List.set_cons_succ, i64_w, i32_w]
                              rfl
                            exact norm_ (by simp only [putAll, Act.put, List.setIfInBounds_toArray, List.set_cons_zero, List.set_cons_succ]) (hCont (gb488) _ ⟨hHeld, (by (with_reducible repeat (first | apply Kd.R_alloc | apply Kd.R_drewN | apply Kd.R_drew)); exact HO_5.out), (by (with_reducible repeat (first | apply Kd.R_alloc | apply Kd.R_drewN | apply Kd.R_drew)); exact HO_7.out), (by (with_reducible repeat (first | refine blk_drewN ?_ _ | refine blk_drew ?_ | refine blk_alloc ?_ _)); exact BK465.out), (by (with_reducible repeat (first | refine blk_drewN ?_ _ | refine blk_drew ?_ | refine blk_alloc ?_ _)); exact BK480.out), (by (with_reducible repeat (first | refine blk_drewN ?_ _ | refine blk_drew ?_ | refine blk_alloc ?_ _)); exact BK488.out), GW488.out, GE488.out, NB465_488.out, NB488_465.out, NB480_488.out, NB488_480.out, (by repeat (first | (with_reducible first | exact HB.out | apply below_alloc | apply pw_below_drewN | apply below_drew1 | refine below_set ?_ GE465.out | refine below_set ?_ GE480.out | refine below_set ?_ GE488.out) | exact HB.out))⟩)
                        rintro gb488 w45 ⟨hS_, h0_, h1_, h2_, h3_, h4_, h5_, h6_, h7_, h8_, h9_, h10_, h11_⟩
                        have n0_ : Aside0 (Kd.R (Kd.int .i64) 3 w45 w.heap.size (fun k_ => some k_ ≠ (v476 : Value).ownBlock) u5 x5_2) := ⟨h0_⟩
                        have n1_ : Aside0 (Kd.R (Kd.int .i64) 3 w45 w.heap.size (fun k_ => some k_ ≠ (u5 : Value).ownBlock) v476 t475) := ⟨h1_⟩
                        have n2_ : Aside0 (w45.heap[gb465]? = some (.cells #[.bool x466000_2, .int .i64 x466001_2] 31 (0, 0))) := ⟨h2_⟩
                        have n3_ : Aside0 (w45.heap[gb480]? = some (.cells #[.bool t478, .int .i64 t479] 31 (0, 0))) := ⟨h3_⟩
                        have n4_ : Aside0 (w45.heap[gb488]? = some (.cells #[.bool false, .int .i64 0] 31 (0, 0))) := ⟨h4_⟩
                        have n5_ : Aside0 (w.heap.size ≤ gb488) := ⟨h5_⟩
                        have n6_ : Aside0 (w.heap.size ≤ gb488) := ⟨h6_⟩
                        have n7_ : Aside0 (gb465 ≠ gb488) := ⟨h7_⟩
                        have n8_ : Aside0 (gb488 ≠ gb465) := ⟨h8_⟩
                        have n9_ : Aside0 (gb480 ≠ gb488) := ⟨h9_⟩
                        have n10_ : Aside0 (gb488 ≠ gb480) := ⟨h10_⟩
                        have n11_ : Aside0 (Below w.heap.size w w45) := ⟨h11_⟩
                        clear HO_5
                        clear HO_7
                        clear BK465
                        clear BK480
                        clear HB
                        clear h0_ h1_ h2_ h3_ h4_ h5_ h6_ h7_ h8_ h9_ h10_ h11_
                        have HO_5 := n0_
                        have HO_7 := n1_
                        have BK465 := n2_
                        have BK480 := n3_
                        have BK488 := n4_
                        have GW488 := n5_
                        have GE488 := n6_
                        have NB465_488 := n7_
                        have NB488_465 := n8_
                        have NB480_488 := n9_
                        have NB488_480 := n10_
                        have HB := n11_
                        clear n0_ n1_ n2_ n3_ n4_ n5_ n6_ n7_ n8_ n9_ n10_ n11_
                        have hHeld : w45.cell? ⟨gb465, 0, none⟩ = some (.bool x466000_2) ∧ w45.cell? ⟨gb465, 1, none⟩ = some (.int .i64 x466001_2) ∧ w45.cell? (ad483.add ((x9_2).toNat * 16)) = some (.int .u8 ((rd_T22 l1 x9_2).f0)) ∧ w45.cell? ⟨(ad483.add ((x9_2).toNat * 16)).block, (ad483.add ((x9_2).toNat * 16)).off + 1, none⟩ = some (.int .u8 ((rd_T22 l1 x9_2).f1)) ∧ w45.cell? ⟨(ad483.add ((x9_2).toNat * 16)).block, (ad483.add ((x9_2).toNat * 16)).off + 2, none⟩ = some (.int .u8 ((rd_T22 l1 x9_2).f2)) ∧ w45.cell? ⟨(ad483.add ((x9_2).toNat * 16)).block, (ad483.add ((x9_2).toNat * 16)).off + 3, none⟩ = some (.int .u8 ((rd_T22 l1 x9_2).f3)) ∧ w45.cell? ⟨(ad483.add ((x9_2).toNat * 16)).block, (ad483.add ((x9_2).toNat * 16)).off + 4, none⟩ = some (.int .u8 ((rd_T22 l1 x9_2).f4)) ∧ w45.cell? ⟨(ad483.add ((x9_2).toNat * 16)).block, (ad483.add ((x9_2).toNat * 16)).off + 5, none⟩ = some (.int .u8 ((rd_T22 l1 x9_2).f5)) ∧ w45.cell? ⟨(ad483.add ((x9_2).toNat * 16)).block, (ad483.add ((x9_2).toNat * 16)).off + 6, none⟩ = some (.int .u8 ((rd_T22 l1 x9_2).f6)) ∧ w45.cell? ⟨(ad483.add ((x9_2).toNat * 16)).block, (ad483.add ((x9_2).toNat * 16)).off + 7, none⟩ = some (.int .u8 ((rd_T22 l1 x9_2).f7)) ∧ w45.cell? ⟨(ad483.add ((x9_2).toNat * 16)).block, (ad483.add ((x9_2).toNat * 16)).off + 8, none⟩ = some (.int .u8 ((rd_T22 l1 x9_2).f8)) ∧ w45.cell? ⟨(ad483.add ((x9_2).toNat * 16)).block, (ad483.add ((x9_2).toNat * 16)).off + 9, none⟩ = some (.int .u8 ((rd_T22 l1 x9_2).f9)) ∧ w45.cell? ⟨(ad483.add ((x9_2).toNat * 16)).block, (ad483.add ((x9_2).toNat * 16)).off + 10, none⟩ = some (.int .u8 ((rd_T22 l1 x9_2).f10)) ∧ w45.cell? ⟨(ad483.add ((x9_2).toNat * 16)).block, (ad483.add ((x9_2).toNat * 16)).off + 11, none⟩ = some (.int .u8 ((rd_T22 l1 x9_2).f11)) ∧ w45.cell? ⟨(ad483.add ((x9_2).toNat * 16)).block, (ad483.add ((x9_2).toNat * 16)).off + 12, none⟩ = some (.int .u8 ((rd_T22 l1 x9_2).f12)) ∧ w45.cell? ⟨(ad483.add ((x9_2).toNat * 16)).block, (ad483.add ((x9_2).toNat * 16)).off + 13, none⟩ = some (.int .u8 ((rd_T22 l1 x9_2).f13)) ∧ w45.cell? ⟨(ad483.add ((x9_2).toNat * 16)).block, (ad483.add ((x9_2).toNat * 16)).off + 14, none⟩ = some (.int .u8 ((rd_T22 l1 x9_2).f14)) ∧ w45.cell? ⟨(ad483.add ((x9_2).toNat * 16)).block, (ad483.add ((x9_2).toNat * 16)).off + 15, none⟩ = some (.int .u8 ((rd_T22 l1 x9_2).f15)) := hS_
                        refine norm_ (a' := ?_) ?_ ?_
                        rotate_left
                        · simp only [putAll, Act.put, List.setIfInBounds_toArray, List.set_cons_zero, List.set_cons_succ]
                          rfl
                        refine one_ (i := 11) (N := none) #[true, true, true, true, true, true, true, true, true, true, true, true, false, false] rfl rfl (one_of HT_.out (by kernel_rfl)) (by decide) (fun K hK => ?_)
                        have hs46 : w45.cell? ⟨gb488, 0, none⟩ = some (.bool false) := (blk_cell BK488.out 0).trans rfl
                        have hfs46 := blk_frozen BK488.out 0
                        have hns46_0 := NB465_488.out
                        have hns46_1 := NB480_488.out
                        have hms46_0 := NB488_465.out
                        have hms46_1 := NB488_480.out
                        have hs47 : w45.cell? ⟨gb488, 1, none⟩ = some (.int .i64 0) := (blk_cell BK488.out 1).trans rfl
                        have hfs47 := blk_frozen BK488.out 1
                        have hns47_0 := NB465_488.out
                        have hns47_1 := NB480_488.out
                        have hms47_0 := NB488_465.out
                        have hms47_1 := NB488_480.out
                        refine skip_ (w1 := ?_) (by rfl) rfl ?_ ?_
                        rotate_left
                        · go_simp
                          rfl
                        refine hK.out _ _ ⟨((cell_far (p := ⟨gb488, _, none⟩) NB465_488.out _).trans (((cell_far (p := ⟨gb488, _, none⟩) NB465_488.out _).trans (hHeld.1)))), ((cell_far (p := ⟨gb488, _, none⟩) NB465_488.out _).trans (((cell_far (p := ⟨gb488, _, none⟩) NB465_488.out _).trans (hHeld.2.1)))), ((cell_far (p := ⟨gb488, _, none⟩) (by first | exact Nat.ne_of_lt (Nat.lt_of_lt_of_le (by have := World.block_lt_of_cell? _ _ hw483_0; first | rwa [add_block] at this | exact this) GW488.out) | (rw [add_block]; exact Nat.ne_of_lt (Nat.lt_of_lt_of_le (by have := World.block_lt_of_cell? _ _ hw483_0; first | rwa [add_block] at this | exact this) GW488.out)) | (show (Addr.add _ _).block ≠ _; rw [add_block]; exact Nat.ne_of_lt (Nat.lt_of_lt_of_le (by have := World.block_lt_of_cell? _ _ hw483_0; first | rwa [add_block] at this | exact this) GW488.out)) | (dsimp only; exact Nat.ne_of_lt (Nat.lt_of_lt_of_le (by have := World.block_lt_of_cell? _ _ hw483_0; first | rwa [add_block] at this | exact this) GW488.out))) _).trans (((cell_far (p := ⟨gb488, _, none⟩) (by first | exact Nat.ne_of_lt (Nat.lt_of_lt_of_le (by have := World.block_lt_of_cell? _ _ hw483_0; first | rwa [add_block] at this | exact this) GW488.out) | (rw [add_block]; exact Nat.ne_of_lt (Nat.lt_of_lt_of_le (by have := World.block_lt_of_cell? _ _ hw483_0; first | rwa [add_block] at this | exact this) GW488.out)) | (show (Addr.add _ _).block ≠ _; rw [add_block]; exact Nat.ne_of_lt (Nat.lt_of_lt_of_le (by have := World.block_lt_of_cell? _ _ hw483_0; first | rwa [add_block] at this | exact this) GW488.out)) | (dsimp only; exact Nat.ne_of_lt (Nat.lt_of_lt_of_le (by have := World.block_lt_of_cell? _ _ hw483_0; first | rwa [add_block] at this | exact this) GW488.out))) _).trans (hHeld.2.2.1)))), ((cell_far (p := ⟨gb488, _, none⟩) (by first | exact Nat.ne_of_lt (Nat.lt_of_lt_of_le (by have := World.block_lt_of_cell? _ _ hw483_1; first | rwa [add_block] at this | exact this) GW488.out) | (rw [add_block]; exact Nat.ne_of_lt (Nat.lt_of_lt_of_le (by have := World.block_lt_of_cell? _ _ hw483_1; first | rwa [add_block] at this | exact this) GW488.out)) | (show (Addr.add _ _).block ≠ _; rw [add_block]; exact Nat.ne_of_lt (Nat.lt_of_lt_of_le (by have := World.block_lt_of_cell? _ _ hw483_1; first | rwa [add_block] at this | exact this) GW488.out)) | (dsimp only; exact Nat.ne_of_lt (Nat.lt_of_lt_of_le (by have := World.block_lt_of_cell? _ _ hw483_1; first | rwa [add_block] at this | exact this) GW488.out))) _).trans (((cell_far (p := ⟨gb488, _, none⟩) (by first | exact Nat.ne_of_lt (Nat.lt_of_lt_of_le (by have := World.block_lt_of_cell? _ _ hw483_1; first | rwa [add_block] at this | exact this) GW488.out) | (rw [add_block]; exact Nat.ne_of_lt (Nat.lt_of_lt_of_le (by have := World.block_lt_of_cell? _ _ hw483_1; first | rwa [add_block] at this | exact this) GW488.out)) | (show (Addr.add _ _).block ≠ _; rw [add_block]; exact Nat.ne_of_lt (Nat.lt_of_lt_of_le (by have := World.block_lt_of_cell? _ _ hw483_1; first | rwa [add_block] at this | exact this) GW488.out)) | (dsimp only; exact Nat.ne_of_lt (Nat.lt_of_lt_of_le (by have := World.block_lt_of_cell? _ _ hw483_1; first | rwa [add_block] at this | exact this) GW488.out))) _).trans (hHeld.2.2.2.1)))), ((cell_far (p := ⟨gb488, _, none⟩) (by first | exact Nat.ne_of_lt (Nat.lt_of_lt_of_le (by have := World.block_lt_of_cell? _ _ hw483_2; first | rwa [add_block] at this | exact this) GW488.out) | (rw [add_block]; exact Nat.ne_of_lt (Nat.lt_of_lt_of_le (by have := World.block_lt_of_cell? _ _ hw483_2; first | rwa [add_block] at this | exact this) GW488.out)) | (show (Addr.add _ _).block ≠ _; rw [add_block]; exact Nat.ne_of_lt (Nat.lt_of_lt_of_le (by have := World.block_lt_of_cell? _ _ hw483_2; first | rwa [add_block] at this | exact this) GW488.out)) | (dsimp only; exact Nat.ne_of_lt (Nat.lt_of_lt_of_le (by have := World.block_lt_of_cell? _ _ hw483_2; first | rwa [add_block] at this | exact this) GW488.out))) _).trans (((cell_far (p := ⟨gb488, _, none⟩) (by first | exact Nat.ne_of_lt (Nat.lt_of_lt_of_le (by have := World.block_lt_of_cell? _ _ hw483_2; first | rwa [add_block] at this | exact this) GW488.out) | (rw [add_block]; exact Nat.ne_of_lt (Nat.lt_of_lt_of_le (by have := World.block_lt_of_cell? _ _ hw483_2; first | rwa [add_block] at this | exact this) GW488.out)) | (show (Addr.add _ _).block ≠ _; rw [add_block]; exact Nat.ne_of_lt (Nat.lt_of_lt_of_le (by have := World.block_lt_of_cell? _ _ hw483_2; first | rwa [add_block] at this | exact this) GW488.out)) | (dsimp only; exact Nat.ne_of_lt (Nat.lt_of_lt_of_le (by have := World.block_lt_of_cell? _ _ hw483_2; first | rwa [add_block] at this | exact this) GW488.out))) _).trans (hHeld.2.2.2.2.1)))), ((cell_far (p := ⟨gb488, _, none⟩) (by first | exact Nat.ne_of_lt (Nat.lt_of_lt_of_le (by have := World.block_lt_of_cell? _ _ hw483_3; first | rwa [add_block] at this | exact this) GW488.out) | (rw [add_block]; exact Nat.ne_of_lt (Nat.lt_of_lt_of_le (by have := World.block_lt_of_cell? _ _ hw483_3; first | rwa [add_block] at this | exact this) GW488.out)) | (show (Addr.add _ _).block ≠ _; rw [add_block]; exact Nat.ne_of_lt (Nat.lt_of_lt_of_le (by have := World.block_lt_of_cell? _ _ hw483_3; first | rwa [add_block] at this | exact this) GW488.out)) | (dsimp only; exact Nat.ne_of_lt (Nat.lt_of_lt_of_le (by have := World.block_lt_of_cell? _ _ hw483_3; first | rwa [add_block] at this | exact this) GW488.out))) _).trans (((cell_far (p := ⟨gb488, _, none⟩) (by first | exact Nat.ne_of_lt (Nat.lt_of_lt_of_le (by have := World.block_lt_of_cell? _ _ hw483_3; first | rwa [add_block] at this | exact this) GW488.out) | (rw [add_block]; exact Nat.ne_of_lt (Nat.lt_of_lt_of_le (by have := World.block_lt_of_cell? _ _ hw483_3; first | rwa [add_block] at this | exact this) GW488.out)) | (show (Addr.add _ _).block ≠ _; rw [add_block]; exact Nat.ne_of_lt (Nat.lt_of_lt_of_le (by have := World.block_lt_of_cell? _ _ hw483_3; first | rwa [add_block] at this | exact this) GW488.out)) | (dsimp only; exact Nat.ne_of_lt (Nat.lt_of_lt_of_le (by have := World.block_lt_of_cell? _ _ hw483_3; first | rwa [add_block] at this | exact this) GW488.out))) _).trans (hHeld.2.2.2.2.2.1)))), ((cell_far (p := ⟨gb488, _, none⟩) (by first | exact Nat.ne_of_lt (Nat.lt_of_lt_of_le (by have := World.block_lt_of_cell? _ _ hw483_4; first | rwa [add_block] at this | exact this) GW488.out) | (rw [add_block]; exact Nat.ne_of_lt (Nat.lt_of_lt_of_le (by have := World.block_lt_of_cell? _ _ hw483_4; first | rwa [add_block] at this | exact this) GW488.out)) | (show (Addr.add _ _).block ≠ _; rw [add_block]; exact Nat.ne_of_lt (Nat.lt_of_lt_of_le (by have := World.block_lt_of_cell? _ _ hw483_4; first | rwa [add_block] at this | exact this) GW488.out)) | (dsimp only; exact Nat.ne_of_lt (Nat.lt_of_lt_of_le (by have := World.block_lt_of_cell? _ _ hw483_4; first | rwa [add_block] at this | exact this) GW488.out))) _).trans (((cell_far (p := ⟨gb488, _, none⟩) (by first | exact Nat.ne_of_lt (Nat.lt_of_lt_of_le (by have := World.block_lt_of_cell? _ _ hw483_4; first | rwa [add_block] at this | exact this) GW488.out) | (rw [add_block]; exact Nat.ne_of_lt (Nat.lt_of_lt_of_le (by have := World.block_lt_of_cell? _ _ hw483_4; first | rwa [add_block] at this | exact this) GW488.out)) | (show (Addr.add _ _).block ≠ _; rw [add_block]; exact Nat.ne_of_lt (Nat.lt_of_lt_of_le (by have := World.block_lt_of_cell? _ _ hw483_4; first | rwa [add_block] at this | exact this) GW488.out)) | (dsimp only; exact Nat.ne_of_lt (Nat.lt_of_lt_of_le (by have := World.block_lt_of_cell? _ _ hw483_4; first | rwa [add_block] at this | exact this) GW488.out))) _).trans (hHeld.2.2.2.2.2.2.1)))), ((cell_far (p := ⟨gb488, _, none⟩) (by first | exact Nat.ne_of_lt (Nat.lt_of_lt_of_le (by have := World.block_lt_of_cell? _ _ hw483_5; first | rwa [add_block] at this | exact this) GW488.out) | (rw [add_block]; exact Nat.ne_of_lt (Nat.lt_of_lt_of_le (by have := World.block_lt_of_cell? _ _ hw483_5; first | rwa [add_block] at this | exact this) GW488.out)) | (show (Addr.add _ _).block ≠ _; rw [add_block]; exact Nat.ne_of_lt (Nat.lt_of_lt_of_le (by have := World.block_lt_of_cell? _ _ hw483_5; first | rwa [add_block] at this | exact this) GW488.out)) | (dsimp only; exact Nat.ne_of_lt (Nat.lt_of_lt_of_le (by have := World.block_lt_of_cell? _ _ hw483_5; first | rwa [add_block] at this | exact this) GW488.out))) _).trans (((cell_far (p := ⟨gb488, _, none⟩) (by first | exact Nat.ne_of_lt (Nat.lt_of_lt_of_le (by have := World.block_lt_of_cell? _ _ hw483_5; first | rwa [add_block] at this | exact this) GW488.out) | (rw [add_block]; exact Nat.ne_of_lt (Nat.lt_of_lt_of_le (by have := World.block_lt_of_cell? _ _ hw483_5; first | rwa [add_block] at this | exact this) GW488.out)) | (show (Addr.add _ _).block ≠ _; rw [add_block]; exact Nat.ne_of_lt (Nat.lt_of_lt_of_le (by have := World.block_lt_of_cell? _ _ hw483_5; first | rwa [add_block] at this | exact this) GW488.out)) | (dsimp only; exact Nat.ne_of_lt (Nat.lt_of_lt_of_le (by have := World.block_lt_of_cell? _ _ hw483_5; first | rwa [add_block] at this | exact this) GW488.out))) _).trans (hHeld.2.2.2.2.2.2.2.1)))), ((cell_far (p := ⟨gb488, _, none⟩) (by first | exact Nat.ne_of_lt (Nat.lt_of_lt_of_le (by have := World.block_lt_of_cell? _ _ hw483_6; first | rwa [add_block] at this | exact this) GW488.out) | (rw [add_block]; exact Nat.ne_of_lt (Nat.lt_of_lt_of_le (by have := World.block_lt_of_cell? _ _ hw483_6; first | rwa [add_block] at this | exact this) GW488.out)) | (show (Addr.add _ _).block ≠ _; rw [add_block]; exact Nat.ne_of_lt (Nat.lt_of_lt_of_le (by have := World.block_lt_of_cell? _ _ hw483_6; first | rwa [add_block] at this | exact this) GW488.out)) | (dsimp only; exact Nat.ne_of_lt (Nat.lt_of_lt_of_le (by have := World.block_lt_of_cell? _ _ hw483_6; first | rwa [add_block] at this | exact this) GW488.out))) _).trans (((cell_far (p := ⟨gb488, _, none⟩) (by first | exact Nat.ne_of_lt (Nat.lt_of_lt_of_le (by have := World.block_lt_of_cell? _ _ hw483_6; first | rwa [add_block] at this | exact this) GW488.out) | (rw [add_block]; exact Nat.ne_of_lt (Nat.lt_of_lt_of_le (by have := World.block_lt_of_cell? _ _ hw483_6; first | rwa [add_block] at this | exact this) GW488.out)) | (show (Addr.add _ _).block ≠ _; rw [add_block]; exact Nat.ne_of_lt (Nat.lt_of_lt_of_le (by have := World.block_lt_of_cell? _ _ hw483_6; first | rwa [add_block] at this | exact this) GW488.out)) | (dsimp only; exact Nat.ne_of_lt (Nat.lt_of_lt_of_le (by have := World.block_lt_of_cell? _ _ hw483_6; first | rwa [add_block] at this | exact this) GW488.out))) _).trans (hHeld.2.2.2.2.2.2.2.2.1)))), ((cell_far (p := ⟨gb488, _, none⟩) (by first | exact Nat.ne_of_lt (Nat.lt_of_lt_of_le (by have := World.block_lt_of_cell? _ _ hw483_7; first | rwa [add_block] at this | exact this) GW488.out) | (rw [add_block]; exact Nat.ne_of_lt (Nat.lt_of_lt_of_le (by have := World.block_lt_of_cell? _ _ hw483_7; first | rwa [add_block] at this | exact this) GW488.out)) | (show (Addr.add _ _).block ≠ _; rw [add_block]; exact Nat.ne_of_lt (Nat.lt_of_lt_of_le (by have := World.block_lt_of_cell? _ _ hw483_7; first | rwa [add_block] at this | exact this) GW488.out)) | (dsimp only; exact Nat.ne_of_lt (Nat.lt_of_lt_of_le (by have := World.block_lt_of_cell? _ _ hw483_7; first | rwa [add_block] at this | exact this) GW488.out))) _).trans (((cell_far (p := ⟨gb488, _, none⟩) (by first | exact Nat.ne_of_lt (Nat.lt_of_lt_of_le (by have := World.block_lt_of_cell? _ _ hw483_7; first | rwa [add_block] at this | exact this) GW488.out) | (rw [add_block]; exact Nat.ne_of_lt (Nat.lt_of_lt_of_le (by have := World.block_lt_of_cell? _ _ hw483_7; first | rwa [add_block] at this | exact this) GW488.out)) | (show (Addr.add _ _).block ≠ _; rw [add_block]; exact Nat.ne_of_lt (Nat.lt_of_lt_of_le (by have := World.block_lt_of_cell? _ _ hw483_7; first | rwa [add_block] at this | exact this) GW488.out)) | (dsimp only; exact Nat.ne_of_lt (Nat.lt_of_lt_of_le (by have := World.block_lt_of_cell? _ _ hw483_7; first | rwa [add_block] at this | exact this) GW488.out))) _).trans (hHeld.2.2.2.2.2.2.2.2.2.1)))), ((cell_far (p := ⟨gb488, _, none⟩) (by first | exact Nat.ne_of_lt (Nat.lt_of_lt_of_le (by have := World.block_lt_of_cell? _ _ hw483_8; first | rwa [add_block] at this | exact this) GW488.out) | (rw [add_block]; exact Nat.ne_of_lt (Nat.lt_of_lt_of_le (by have := World.block_lt_of_cell? _ _ hw483_8; first | rwa [add_block] at this | exact this) GW488.out)) | (show (Addr.add _ _).block ≠ _; rw [add_block]; exact Nat.ne_of_lt (Nat.lt_of_lt_of_le (by have := World.block_lt_of_cell? _ _ hw483_8; first | rwa [add_block] at this | exact this) GW488.out)) | (dsimp only; exact Nat.ne_of_lt (Nat.lt_of_lt_of_le (by have := World.block_lt_of_cell? _ _ hw483_8; first | rwa [add_block] at this | exact this) GW488.out))) _).trans (((cell_far (p := ⟨gb488, _, none⟩) (by first | exact Nat.ne_of_lt (Nat.lt_of_lt_of_le (by have := World.block_lt_of_cell? _ _ hw483_8; first | rwa [add_block] at this | exact this) GW488.out) | (rw [add_block]; exact Nat.ne_of_lt (Nat.lt_of_lt_of_le (by have := World.block_lt_of_cell? _ _ hw483_8; first | rwa [add_block] at this | exact this) GW488.out)) | (show (Addr.add _ _).block ≠ _; rw [add_block]; exact Nat.ne_of_lt (Nat.lt_of_lt_of_le (by have := World.block_lt_of_cell? _ _ hw483_8; first | rwa [add_block] at this | exact this) GW488.out)) | (dsimp only; exact Nat.ne_of_lt (Nat.lt_of_lt_of_le (by have := World.block_lt_of_cell? _ _ hw483_8; first | rwa [add_block] at this | exact this) GW488.out))) _).trans (hHeld.2.2.2.2.2.2.2.2.2.2.1)))), ((cell_far (p := ⟨gb488, _, none⟩) (by first | exact Nat.ne_of_lt (Nat.lt_of_lt_of_le (by have := World.block_lt_of_cell? _ _ hw483_9; first | rwa [add_block] at this | exact this) GW488.out) | (rw [add_block]; exact Nat.ne_of_lt (Nat.lt_of_lt_of_le (by have := World.block_lt_of_cell? _ _ hw483_9; first | rwa [add_block] at this | exact this) GW488.out)) | (show (Addr.add _ _).block ≠ _; rw [add_block]; exact Nat.ne_of_lt (Nat.lt_of_lt_of_le (by have := World.block_lt_of_cell? _ _ hw483_9; first | rwa [add_block] at this | exact this) GW488.out)) | (dsimp only; exact Nat.ne_of_lt (Nat.lt_of_lt_of_le (by have := World.block_lt_of_cell? _ _ hw483_9; first | rwa [add_block] at this | exact this) GW488.out))) _).trans (((cell_far (p := ⟨gb488, _, none⟩) (by first | exact Nat.ne_of_lt (Nat.lt_of_lt_of_le (by have := World.block_lt_of_cell? _ _ hw483_9; first | rwa [add_block] at this | exact this) GW488.out) | (rw [add_block]; exact Nat.ne_of_lt (Nat.lt_of_lt_of_le (by have := World.block_lt_of_cell? _ _ hw483_9; first | rwa [add_block] at this | exact this) GW488.out)) | (show (Addr.add _ _).block ≠ _; rw [add_block]; exact Nat.ne_of_lt (Nat.lt_of_lt_of_le (by have := World.block_lt_of_cell? _ _ hw483_9; first | rwa [add_block] at this | exact this) GW488.out)) | (dsimp only; exact Nat.ne_of_lt (Nat.lt_of_lt_of_le (by have := World.block_lt_of_cell? _ _ hw483_9; first | rwa [add_block] at this | exact this) GW488.out))) _).trans (hHeld.2.2.2.2.2.2.2.2.2.2.2.1)))), ((cell_far (p := ⟨gb488, _, none⟩) (by first | exact Nat.ne_of_lt (Nat.lt_of_lt_of_le (by have := World.block_lt_of_cell? _ _ hw483_10; first | rwa [add_block] at this | exact this) GW488.out) | (rw [add_block]; exact Nat.ne_of_lt (Nat.lt_of_lt_of_le (by have := World.block_lt_of_cell? _ _ hw483_10; first | rwa [add_block] at this | exact this) GW488.out)) | (show (Addr.add _ _).block ≠ _; rw [add_block]; exact Nat.ne_of_lt (Nat.lt_of_lt_of_le (by have := World.block_lt_of_cell? _ _ hw483_10; first | rwa [add_block] at this | exact this) GW488.out)) | (dsimp only; exact Nat.ne_of_lt (Nat.lt_of_lt_of_le (by have := World.block_lt_of_cell? _ _ hw483_10; first | rwa [add_block] at this | exact this) GW488.out))) _).trans (((cell_far (p := ⟨gb488, _, none⟩) (by first | exact Nat.ne_of_lt (Nat.lt_of_lt_of_le (by have := World.block_lt_of_cell? _ _ hw483_10; first | rwa [add_block] at this | exact this) GW488.out) | (rw [add_block]; exact Nat.ne_of_lt (Nat.lt_of_lt_of_le (by have := World.block_lt_of_cell? _ _ hw483_10; first | rwa [add_block] at this | exact this) GW488.out)) | (show (Addr.add _ _).block ≠ _; rw [add_block]; exact Nat.ne_of_lt (Nat.lt_of_lt_of_le (by have := World.block_lt_of_cell? _ _ hw483_10; first | rwa [add_block] at this | exact this) GW488.out)) | (dsimp only; exact Nat.ne_of_lt (Nat.lt_of_lt_of_le (by have := World.block_lt_of_cell? _ _ hw483_10; first | rwa [add_block] at this | exact this) GW488.out))) _).trans (hHeld.2.2.2.2.2.2.2.2.2.2.2.2.1)))), ((cell_far (p := ⟨gb488, _, none⟩) (by first | exact Nat.ne_of_lt (Nat.lt_of_lt_of_le (by have := World.block_lt_of_cell? _ _ hw483_11; first | rwa [add_block] at this | exact this) GW488.out) | (rw [add_block]; exact Nat.ne_of_lt (Nat.lt_of_lt_of_le (by have := World.block_lt_of_cell? _ _ hw483_11; first | rwa [add_block] at this | exact this) GW488.out)) | (show (Addr.add _ _).block ≠ _; rw [add_block]; exact Nat.ne_of_lt (Nat.lt_of_lt_of_le (by have := World.block_lt_of_cell? _ _ hw483_11; first | rwa [add_block] at this | exact this) GW488.out)) | (dsimp only; exact Nat.ne_of_lt (Nat.lt_of_lt_of_le (by have := World.block_lt_of_cell? _ _ hw483_11; first | rwa [add_block] at this | exact this) GW488.out))) _).trans (((cell_far (p := ⟨gb488, _, none⟩) (by first | exact Nat.ne_of_lt (Nat.lt_of_lt_of_le (by have := World.block_lt_of_cell? _ _ hw483_11; first | rwa [add_block] at this | exact this) GW488.out) | (rw [add_block]; exact Nat.ne_of_lt (Nat.lt_of_lt_of_le (by have := World.block_lt_of_cell? _ _ hw483_11; first | rwa [add_block] at this | exact this) GW488.out)) | (show (Addr.add _ _).block ≠ _; rw [add_block]; exact Nat.ne_of_lt (Nat.lt_of_lt_of_le (by have := World.block_lt_of_cell? _ _ hw483_11; first | rwa [add_block] at this | exact this) GW488.out)) | (dsimp only; exact Nat.ne_of_lt (Nat.lt_of_lt_of_le (by have := World.block_lt_of_cell? _ _ hw483_11; first | rwa [add_block] at this | exact this) GW488.out))) _).trans (hHeld.2.2.2.2.2.2.2.2.2.2.2.2.2.1)))), ((cell_far (p := ⟨gb488, _, none⟩) (by first | exact Nat.ne_of_lt (Nat.lt_of_lt_of_le (by have := World.block_lt_of_cell? _ _ hw483_12; first | rwa [add_block] at this | exact this) GW488.out) | (rw [add_block]; exact Nat.ne_of_lt (Nat.lt_of_lt_of_le (by have := World.block_lt_of_cell? _ _ hw483_12; first | rwa [add_block] at this | exact this) GW488.out)) | (show (Addr.add _ _).block ≠ _; rw [add_block]; exact Nat.ne_of_lt (Nat.lt_of_lt_of_le (by have := World.block_lt_of_cell? _ _ hw483_12; first | rwa [add_block] at this | exact this) GW488.out)) | (dsimp only; exact Nat.ne_of_lt (Nat.lt_of_lt_of_le (by have := World.block_lt_of_cell? _ _ hw483_12; first | rwa [add_block] at this | exact this) GW488.out))) _).trans (((cell_far (p := ⟨gb488, _, none⟩) (by first | exact Nat.ne_of_lt (Nat.lt_of_lt_of_le (by have := World.block_lt_of_cell? _ _ hw483_12; first | rwa [add_block] at this | exact this) GW488.out) | (rw [add_block]; exact Nat.ne_of_lt (Nat.lt_of_lt_of_le (by have := World.block_lt_of_cell? _ _ hw483_12; first | rwa [add_block] at this | exact this) GW488.out)) | (show (Addr.add _ _).block ≠ _; rw [add_block]; exact Nat.ne_of_lt (Nat.lt_of_lt_of_le (by have := World.block_lt_of_cell? _ _ hw483_12; first | rwa [add_block] at this | exact this) GW488.out)) | (dsimp only; exact Nat.ne_of_lt (Nat.lt_of_lt_of_le (by have := World.block_lt_of_cell? _ _ hw483_12; first | rwa [add_block] at this | exact this) GW488.out))) _).trans (hHeld.2.2.2.2.2.2.2.2.2.2.2.2.2.2.1)))), ((cell_far (p := ⟨gb488, _, none⟩) (by first | exact Nat.ne_of_lt (Nat.lt_of_lt_of_le (by have := World.block_lt_of_cell? _ _ hw483_13; first | rwa [add_block] at this | exact this) GW488.out) | (rw [add_block]; exact Nat.ne_of_lt (Nat.lt_of_lt_of_le (by have := World.block_lt_of_cell? _ _ hw483_13; first | rwa [add_block] at this | exact this) GW488.out)) | (show (Addr.add _ _).block ≠ _; rw [add_block]; exact Nat.ne_of_lt (Nat.lt_of_lt_of_le (by have := World.block_lt_of_cell? _ _ hw483_13; first | rwa [add_block] at this | exact this) GW488.out)) | (dsimp only; exact Nat.ne_of_lt (Nat.lt_of_lt_of_le (by have := World.block_lt_of_cell? _ _ hw483_13; first | rwa [add_block] at this | exact this) GW488.out))) _).trans (((cell_far (p := ⟨gb488, _, none⟩) (by first | exact Nat.ne_of_lt (Nat.lt_of_lt_of_le (by have := World.block_lt_of_cell? _ _ hw483_13; first | rwa [add_block] at this | exact this) GW488.out) | (rw [add_block]; exact Nat.ne_of_lt (Nat.lt_of_lt_of_le (by have := World.block_lt_of_cell? _ _ hw483_13; first | rwa [add_block] at this | exact this) GW488.out)) | (show (Addr.add _ _).block ≠ _; rw [add_block]; exact Nat.ne_of_lt (Nat.lt_of_lt_of_le (by have := World.block_lt_of_cell? _ _ hw483_13; first | rwa [add_block] at this | exact this) GW488.out)) | (dsimp only; exact Nat.ne_of_lt (Nat.lt_of_lt_of_le (by have := World.block_lt_of_cell? _ _ hw483_13; first | rwa [add_block] at this | exact this) GW488.out))) _).trans (hHeld.2.2.2.2.2.2.2.2.2.2.2.2.2.2.2.1)))), ((cell_far (p := ⟨gb488, _, none⟩) (by first | exact Nat.ne_of_lt (Nat.lt_of_lt_of_le (by have := World.block_lt_of_cell? _ _ hw483_14; first | rwa [add_block] at this | exact this) GW488.out) | (rw [add_block]; exact Nat.ne_of_lt (Nat.lt_of_lt_of_le (by have := World.block_lt_of_cell? _ _ hw483_14; first | rwa [add_block] at this | exact this) GW488.out)) | (show (Addr.add _ _).block ≠ _; rw [add_block]; exact Nat.ne_of_lt (Nat.lt_of_lt_of_le (by have := World.block_lt_of_cell? _ _ hw483_14; first | rwa [add_block] at this | exact this) GW488.out)) | (dsimp only; exact Nat.ne_of_lt (Nat.lt_of_lt_of_le (by have := World.block_lt_of_cell? _ _ hw483_14; first | rwa [add_block] at this | exact this) GW488.out))) _).trans (((cell_far (p := ⟨gb488, _, none⟩) (by first | exact Nat.ne_of_lt (Nat.lt_of_lt_of_le (by have := World.block_lt_of_cell? _ _ hw483_14; first | rwa [add_block] at this | exact this) GW488.out) | (rw [add_block]; exact Nat.ne_of_lt (Nat.lt_of_lt_of_le (by have := World.block_lt_of_cell? _ _ hw483_14; first | rwa [add_block] at this | exact this) GW488.out)) | (show (Addr.add _ _).block ≠ _; rw [add_block]; exact Nat.ne_of_lt (Nat.lt_of_lt_of_le (by have := World.block_lt_of_cell? _ _ hw483_14; first | rwa [add_block] at this | exact this) GW488.out)) | (dsimp only; exact Nat.ne_of_lt (Nat.lt_of_lt_of_le (by have := World.block_lt_of_cell? _ _ hw483_14; first | rwa [add_block] at this | exact this) GW488.out))) _).trans (hHeld.2.2.2.2.2.2.2.2.2.2.2.2.2.2.2.2.1)))), ((cell_far (p := ⟨gb488, _, none⟩) (by first | exact Nat.ne_of_lt (Nat.lt_of_lt_of_le (by have := World.block_lt_of_cell? _ _ hw483_15; first | rwa [add_block] at this | exact this) GW488.out) | (rw [add_block]; exact Nat.ne_of_lt (Nat.lt_of_lt_of_le (by have := World.block_lt_of_cell? _ _ hw483_15; first | rwa [add_block] at this | exact this) GW488.out)) | (show (Addr.add _ _).block ≠ _; rw [add_block]; exact Nat.ne_of_lt (Nat.lt_of_lt_of_le (by have := World.block_lt_of_cell? _ _ hw483_15; first | rwa [add_block] at this | exact this) GW488.out)) | (dsimp only; exact Nat.ne_of_lt (Nat.lt_of_lt_of_le (by have := World.block_lt_of_cell? _ _ hw483_15; first | rwa [add_block] at this | exact this) GW488.out))) _).trans (((cell_far (p := ⟨gb488, _, none⟩) (by first | exact Nat.ne_of_lt (Nat.lt_of_lt_of_le (by have := World.block_lt_of_cell? _ _ hw483_15; first | rwa [add_block] at this | exact this) GW488.out) | (rw [add_block]; exact Nat.ne_of_lt (Nat.lt_of_lt_of_le (by have := World.block_lt_of_cell? _ _ hw483_15; first | rwa [add_block] at this | exact this) GW488.out)) | (show (Addr.add _ _).block ≠ _; rw [add_block]; exact Nat.ne_of_lt (Nat.lt_of_lt_of_le (by have := World.block_lt_of_cell? _ _ hw483_15; first | rwa [add_block] at this | exact this) GW488.out)) | (dsimp only; exact Nat.ne_of_lt (Nat.lt_of_lt_of_le (by have := World.block_lt_of_cell? _ _ hw483_15; first | rwa [add_block] at this | exact this) GW488.out))) _).trans (hHeld.2.2.2.2.2.2.2.2.2.2.2.2.2.2.2.2.2))))⟩ (fun hHeld => ?_)
                        clear hK K
                        refine pure_ (i := 12) (N := some 11) (v := ?_) (a' := ?_) #[true, true, true, true, true, true, true, true, true, true, true, true, true, false] rfl rfl (any_of HT_.out (by kernel_rfl)) (fun _ _ _ h => h) (Or.inl ⟨by rfl, ?_⟩) ?_ ?_
                        rotate_left
                        · intro w'
                          go_simp
                          with_reducible rfl
                        rotate_left
                        · simp only [Act.put, List.setIfInBounds_toArray, List.set_cons_zero, List.set_cons_succ, i64_w, i32_w]
                          rfl
                        refine pure_ (i := 13) (N := some 12) (v := ?_) (a' := ?_) #[true, true, true, true, true, true, true, true, true, true, true, true, true, true] rfl rfl (any_of HT_.out (by kernel_rfl)) (fun _ _ _ h => h) (Or.inl ⟨by rfl, ?_⟩) ?_ ?_
                        rotate_left
                        · intro w'
                          go_simp
                          with_reducible rfl
                        rotate_left
                        · simp only [Act.put, List.setIfInBounds_toArray, List.set_cons_zero, List.set_cons_succ, i64_w, i32_w]
                          rfl
                        refine done_ (done_of HT_.out (by kernel_rfl)) ?_
                        have hnb48 := NB488_465.out
                        have hnc48 := NB465_488.out
                        have hnb49 := NB488_480.out
                        have hnc49 := NB480_488.out
                        have hcz50_0 : w45.cell? ⟨gb488, 0, none⟩ = some (.bool false) := (blk_cell BK488.out 0).trans rfl
                        have hcz50_1 : w45.cell? ⟨gb488, 1, none⟩ = some (.int .i64 0) := (blk_cell BK488.out 1).trans rfl
                        have hfz50_0 := blk_frozen BK488.out 0
                        have hfz50_1 := blk_frozen BK488.out 1
                        have hnb51 := NB465_480.out
                        have hnc51 := NB480_465.out
                        have hcz52_0 : w45.cell? ⟨gb465, 0, none⟩ = some (.bool x466000_2) := (blk_cell BK465.out 0).trans rfl
                        have hcz52_1 : w45.cell? ⟨gb465, 1, none⟩ = some (.int .i64 x466001_2) := (blk_cell BK465.out 1).trans rfl
                        have hfz52_0 := blk_frozen BK465.out 0
                        have hfz52_1 := blk_frozen BK465.out 1
                        try go_wp2
                        go_roundg k2
                        case measure => have := HJ2.out; have := HK2.out; omega
                        case rel => exact ⟨(x5_2), (wrap64 (x9_2 + 1)), (t484), (t485), (by first | rfl | (simp; done) | (simp [*]; done)), H', ⟨by have := HJ2.out; have := HK2.out; omega⟩, ⟨by (with_reducible repeat (first | apply Kd.R_alloc | apply Kd.R_drewN | apply Kd.R_drew)); exact Kd.R_mono (Kd.R_far (p := ⟨gb465, 1, none⟩) (Kd.R_far (p := ⟨gb465, 0, none⟩) (Kd.R_far (p := ⟨gb488, 1, none⟩) (Kd.R_far (p := ⟨gb488, 0, none⟩) (Kd.R_types (Kd.R_types HO_5.out BK488.out (by decide)) BK465.out (by decide)) (fun _ hk => hk.1.2) (.bool t484)) (fun _ hk => hk.1.2) (.int .i64 t485)) (fun _ hk => hk.2) (.bool t484)) (fun _ hk => hk.2) (.int .i64 t485)) (fun _ hk => hk.1.1)⟩, ⟨by (with_reducible repeat (first | apply Kd.R_alloc | apply Kd.R_drewN | apply Kd.R_drew)); exact Kd.R_mono (Kd.R_far (p := ⟨gb465, 1, none⟩) (Kd.R_far (p := ⟨gb465, 0, none⟩) (Kd.R_far (p := ⟨gb488, 1, none⟩) (Kd.R_far (p := ⟨gb488, 0, none⟩) (Kd.R_types (Kd.R_types HO_7.out BK488.out (by decide)) BK465.out (by decide)) (fun _ hk => hk.1.2) (.bool t484)) (fun _ hk => hk.1.2) (.int .i64 t485)) (fun _ hk => hk.2) (.bool t484)) (fun _ hk => hk.2) (.int .i64 t485)) (fun _ hk => hk.1.1)⟩, ⟨by (with_reducible repeat (first | refine blk_drewN ?_ _ | refine blk_drew ?_ | refine blk_alloc ?_ _)); refine blk_put (cs := #[.bool t484, .int .i64 x466001_2]) ?_ (1) _ rfl; (with_reducible repeat (first | refine blk_drewN ?_ _ | refine blk_drew ?_ | refine blk_alloc ?_ _)); refine blk_put (cs := #[.bool x466000_2, .int .i64 x466001_2]) ?_ (0) _ rfl; (with_reducible repeat (first | refine blk_drewN ?_ _ | refine blk_drew ?_ | refine blk_alloc ?_ _)); refine blk_far ?_ NB465_488.out _; (with_reducible repeat (first | refine blk_drewN ?_ _ | refine blk_drew ?_ | refine blk_alloc ?_ _)); refine blk_far ?_ NB465_488.out _; (with_reducible repeat (first | refine blk_drewN ?_ _ | refine blk_drew ?_ | refine blk_alloc ?_ _)); exact BK465.out⟩, ⟨by (with_reducible repeat (first | refine blk_drewN ?_ _ | refine blk_drew ?_ | refine blk_alloc ?_ _)); refine blk_far ?_ NB480_465.out _; (with_reducible repeat (first | refine blk_drewN ?_ _ | refine blk_drew ?_ | refine blk_alloc ?_ _)); refine blk_far ?_ NB480_465.out _; (with_reducible repeat (first | refine blk_drewN ?_ _ | refine blk_drew ?_ | refine blk_alloc ?_ _)); refine blk_far ?_ NB480_488.out _; (with_reducible repeat (first | refine blk_drewN ?_ _ | refine blk_drew ?_ | refine blk_alloc ?_ _)); refine blk_far ?_ NB480_488.out _; (with_reducible repeat (first | refine blk_drewN ?_ _ | refine blk_drew ?_ | refine blk_alloc ?_ _)); exact BK480.out⟩, ⟨by repeat (first | (with_reducible first | exact HB.out | apply below_alloc | apply pw_below_drewN | apply below_drew1 | refine below_set ?_ GE465.out | refine below_set ?_ GE480.out | refine below_set ?_ GE488.out) | exact HB.out)⟩⟩
                      · rw [if_neg c41] at H
                        have c41b0 : (t486 == 0) = false := beq_eq_false_iff_ne.mpr c41
                        have c41b1 : (t486 != 0) = true := bne_iff_ne.mpr c41
                        exact absurd (Option.some.inj H) (by rw [hT_.out]; decide)
                  · rw [if_neg c25] at H
                    exact absurd H (by simp)
                · rw [if_neg c24] at H
                  have c24b0 : decide (x9_2 < (l1.length : Int)) = false := decide_eq_false c24
                  clear c24
                  replace H := Option.bind_eq_some_iff.mp H
                  obtain ⟨t481, A530, H⟩ := H
                  replace H : (if t481 = true then (if (x466000_2 == t478 && (x466001_2 == t479)) = true then ((perilunelaw32_awake.f k2).bind fun t482 => (some t482)) else (some false)) else (some false)) = some r := H
                  have A53 := Aside0.mk A530
                  clear A530
                  by_cases c54 : t481 = true
                  · subst c54
                    have H1 : (if (x466000_2 == t478 && (x466001_2 == t479)) = true then ((perilunelaw32_awake.f k2).bind fun t482 => (some t482)) else (some false)) = some r := by rw [if_pos rfl] at H; exact H
                    clear H
                    have H := H1
                    clear H1
                    by_cases c55 : (x466000_2 == t478 && (x466001_2 == t479)) = true
                    · rw [if_pos c55] at H
                      have c55b0 : (x466000_2 == t478 && (x466001_2 == t479)) = true := c55
                      (try (have c55b1 : decide (x466000_2 = t478 && (x466001_2 == t479)) = true := by simpa using c55))
                      (try (have c55b2 : (x466000_2 == t478 && (x466001_2 == t479)) = true := by simpa using c55))
                      clear c55
                      replace H := Option.bind_eq_some_iff.mp H
                      obtain ⟨t482, A560, H⟩ := H
                      replace H : (some t482) = some r := H
                      have A56 := Aside0.mk A560
                      clear A560
                      obtain rfl := Option.some.inj H
                      obtain ⟨Ao57, co57, eo57⟩ := Kd.R_slice HO_5.out
                      subst eo57
                      obtain ⟨Ao58, co58, eo58⟩ := Kd.R_slice HO_7.out
                      subst eo58
                      go_wp2_with (first | ((with_reducible refine gate_callee (f := 20) rfl ?_); refine goesL_ (some 62) rfl rfl Try.func20 (by kernel_rfl) rfl #[.slice Ao57 x5_2.length co57, .slice Ao58 t475.length co58] rfl (by (try simp only [List.map_toArray, List.map_cons, List.map_nil]); first | done | rfl | (simp only [List.length_drop, List.length_take]; rfl)) ?_; (with_reducible refine (periluneref32_Same.calls k2 _ _ x5_2 _ _ t475 true _ ?side1 ?side2 ?side3 ?side4 A53.out).mono ?_); (case side1 => repeat (first | exact (Kd.R_reads' HO_5.out).2.2 | (with_reducible refine Kd.C_alloc ?_ _) | (with_reducible refine Kd.C_drewN ?_ _) | (with_reducible refine Kd.C_drew ?_))); (case side2 => exact (Kd.R_reads' HO_5.out).2.1); (case side3 => repeat (first | exact (Kd.R_reads' HO_7.out).2.2 | (with_reducible refine Kd.C_alloc ?_ _) | (with_reducible refine Kd.C_drewN ?_ _) | (with_reducible refine Kd.C_drew ?_))); (case side4 => exact (Kd.R_reads' HO_7.out).2.1); rintro e w' ⟨rfl, ⟨nd, rfl⟩⟩; refine ⟨_, rfl, ?_⟩; have hnb59 := NB465_480.out; have hnc59 := NB480_465.out; have hcz60_0 : wr.cell? ⟨gb465, 0, none⟩ = some (.bool x466000_2) := (blk_cell BK465.out 0).trans rfl; have hcz60_1 : wr.cell? ⟨gb465, 1, none⟩ = some (.int .i64 x466001_2) := (blk_cell BK465.out 1).trans rfl; have hfz60_0 := blk_frozen BK465.out 0; have hfz60_1 := blk_frozen BK465.out 1; have hcz61_0 : wr.cell? ⟨gb480, 0, none⟩ = some (.bool t478) := (blk_cell BK480.out 0).trans rfl; have hcz61_1 : wr.cell? ⟨gb480, 1, none⟩ = some (.int .i64 t479) := (blk_cell BK480.out 1).trans rfl; have hfz61_0 := blk_frozen BK480.out 0; have hfz61_1 := blk_frozen BK480.out 1) | (go_at_call 15; (with_reducible refine (perilunelaw32_awake.calls k2  t482 _ A56.out).mono ?_); rintro e w62 ⟨rfl, hb⟩; have n0_ := Aside0.mk (Kd.R_below (by (with_reducible repeat (first | apply Kd.R_alloc | apply Kd.R_drewN | apply Kd.R_drew)); exact HO_5.out) hb); have n1_ := Aside0.mk (Kd.R_below (by (with_reducible repeat (first | apply Kd.R_alloc | apply Kd.R_drewN | apply Kd.R_drew)); exact HO_7.out) hb); have n2_ := Aside0.mk (blk_below (g := gb465) (o := .cells #[.bool x466000_2, .int .i64 x466001_2] 31 (0, 0)) (by (with_reducible repeat (first | refine blk_drewN ?_ _ | refine blk_drew ?_ | refine blk_alloc ?_ _)); exact BK465.out) hb); have n3_ := Aside0.mk (blk_below (g := gb480) (o := .cells #[.bool t478, .int .i64 t479] 31 (0, 0)) (by (with_reducible repeat (first | refine blk_drewN ?_ _ | refine blk_drew ?_ | refine blk_alloc ?_ _)); exact BK480.out) hb); have n4_ := Aside0.mk (below_step (by repeat (first | (with_reducible first | exact HB.out | apply below_alloc | apply pw_below_drewN | apply below_drew1 | refine below_set ?_ GE465.out | refine below_set ?_ GE480.out) | exact HB.out)) hb); clear HO_5; clear HO_7; clear BK465; clear BK480; clear HB; have HO_5 := n0_; have HO_7 := n1_; have BK465 := n2_; have BK480 := n3_; have HB := n4_; clear n0_ n1_ n2_ n3_ n4_; (try clear hb); (try clear hb2); (try clear hk); (try clear hi)))
                      go_ret
                      exact ⟨by first | rfl | (simp [errW_none, errW_some] <;> rfl) | (simp [*, errW_none, errW_some] <;> rfl), by repeat (first | (with_reducible first | exact HB.out | apply below_alloc | apply pw_below_drewN | apply below_drew1 | refine below_set ?_ GE465.out | refine below_set ?_ GE480.out) | exact HB.out)⟩
                    · rw [if_neg c55] at H
                      have c55b0 : (x466000_2 == t478 && (x466001_2 == t479)) = false := by simpa using c55
                      (try (have c55b1 : decide (x466000_2 = t478 && (x466001_2 == t479)) = false := by simpa using c55))
                      (try (have c55b2 : (x466000_2 == t478 && (x466001_2 == t479)) = false := by simpa using c55))
                      (try (have c55b3 : ¬ (x466000_2 = t478 && (x466001_2 == t479)) := by simpa using c55))
                      clear c55
                      exact absurd (Option.some.inj H) (by rw [hT_.out]; decide)
                  · replace c54 := Bool.eq_false_iff.mpr c54
                    subst c54
                    have H1 : (some false) = some r := by rw [if_neg (show ¬ (false = true) by decide)] at H; exact H
                    clear H
                    have H := H1
                    clear H1
                    exact absurd (Option.some.inj H) (by rw [hT_.out]; decide)
          · rw [if_neg c10] at H
            exact absurd H (by simp)
        · rw [if_neg c9] at H
          exact absurd H (by simp)

end Go.Proofs.Ytdncfnlhkacpaaa.P
