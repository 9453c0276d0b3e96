-- Printed by a session's own program (wip/turnprint.py, wip/myprint.sh) over the translation's print.
import Derived.Test.YtndcaaklcacnoaaPx0
import Derived.Test.YtndcaaklcacnoaaPx2
import Derived.Test.YtndcaaklcacnoaaPx3
import Derived.Test.YtndcaaklcacnoaaPx4
namespace Go.Proofs.Ytndcaaklcacnoaa.P
open Go.RowKit Go.Proofs.YtndcaaklcacnoaaW.PrintWords Go.Proofs.YtndcaaklcacnoaaW.PrintLast Go.Proofs.YtndcaaklcacnoaaW.PrintMore
attribute [local go_sem] max2_int min2_int max_two min_two max_three min_three max_four min_four   -- for this text's walks alone
set_option linter.unusedVariables false
set_option linter.unusedSimpArgs false

/-! ### perilunelaw25_PhaseDamage: function 6 -/
mutual
def perilunelaw25_PhaseDamage.j0 : Nat → Int → Bool → Int → List (S42) → Int → Bool → Option (Bool)
  | 0, _, _, _, _, _, _ => none
  | k + 1, x0, x2, x3, x9, x10, x26 => if x26 = true then (if x10 = 3 then ((perilunelaw25_live.f k).bind fun t221 => (some t221)) else (some false)) else (if x2 = true then (perilunelaw25_PhaseDamage.j1 k x0 x3 x9 1) else (perilunelaw25_PhaseDamage.j1 k x0 x3 x9 0))
def perilunelaw25_PhaseDamage.j1 : Nat → Int → Int → List (S42) → Int → Option (Bool)
  | 0, _, _, _, _ => none
  | k + 1, x0, x3, x9, x11 => if 0 ≤ x11 then (if x11 < (x9.length : Int) then (if (Int.tmod x3 32768) = ((rd_T42 x9 x11).f1) then ((perilunelaw25_live.f k).bind fun t223 => (some t223)) else (if 2012 ≤ 140737488355328 then ((periluneref25_Write.f k (List.replicate 2012 0) (x9.set (x11 : Int).toNat (⟨(rd_T42 x9 x11).f0, x3⟩ : S42))).bind fun t228 => ((phase_Get.f k t228 x0).bind fun bt231 => (if bt231.1 = 0 then (if bt231.2 = 10 then ((perilunelaw25_live.f k).bind fun t233 => (some t233)) else (some false)) else (some false)))) else (none))) else (none)) else (none)
end
def perilunelaw25_PhaseDamage.f (k : Nat) (a0 : Int) (a1 : Int) (a2 : Bool) (a3 : Int) : Option (Bool) := (phase_Set.f k a0 a1).bind fun bt217 => (if bt217.2 = 0 then (perilunelaw25_PhaseDamage.j0 k a0 a2 a3 bt217.1 bt217.2 ((bt217.1.length : Int) != 2)) else (perilunelaw25_PhaseDamage.j0 k a0 a2 a3 bt217.1 bt217.2 true))
theorem perilunelaw25_PhaseDamage.mono_l : ∀ k, (∀ y0 y1 y2 y3 y4 y5, LeO (perilunelaw25_PhaseDamage.j0 k y0 y1 y2 y3 y4 y5) (perilunelaw25_PhaseDamage.j0 (k + 1) y0 y1 y2 y3 y4 y5)) ∧ (∀ y0 y1 y2 y3, LeO (perilunelaw25_PhaseDamage.j1 k y0 y1 y2 y3) (perilunelaw25_PhaseDamage.j1 (k + 1) y0 y1 y2 y3))
  | 0 => ⟨fun _ _ _ _ _ _ r h => by simp [perilunelaw25_PhaseDamage.j0] at h, fun _ _ _ _ r h => by simp [perilunelaw25_PhaseDamage.j1] at h⟩
  | k + 1 => by
    obtain ⟨ih0, ih1⟩ := perilunelaw25_PhaseDamage.mono_l k
    refine ⟨?_, ?_⟩
    · intro y0 y1 y2 y3 y4 y5
      unfold perilunelaw25_PhaseDamage.j0
      repeat' first
      | (with_reducible exact ih0 _ _ _ _ _ _)
      | (with_reducible exact ih1 _ _ _ _)
      | (with_reducible exact perilunelaw25_live.mono _)
      | (with_reducible exact periluneref25_Write.mono _ _ _)
      | (with_reducible exact phase_Get.mono _ _ _)
      | (with_reducible exact phase_Set.mono _ _ _)
      | (with_reducible exact LeO.refl _)
      | (with_reducible exact LeO.none _)
      | (with_reducible refine LeO.ite ?_ ?_)
      | (with_reducible refine LeO.bind ?_ (fun _ => ?_))
      | exact ih0 _ _ _ _ _ _
      | exact ih1 _ _ _ _
      | exact perilunelaw25_live.mono _
      | exact periluneref25_Write.mono _ _ _
      | exact phase_Get.mono _ _ _
      | exact phase_Set.mono _ _ _
      | exact LeO.none _
      | refine LeO.ite ?_ ?_
      | refine LeO.bind ?_ (fun _ => ?_)
    · intro y0 y1 y2 y3
      unfold perilunelaw25_PhaseDamage.j1
      repeat' first
      | (with_reducible exact ih0 _ _ _ _ _ _)
      | (with_reducible exact ih1 _ _ _ _)
      | (with_reducible exact perilunelaw25_live.mono _)
      | (with_reducible exact periluneref25_Write.mono _ _ _)
      | (with_reducible exact phase_Get.mono _ _ _)
      | (with_reducible exact phase_Set.mono _ _ _)
      | (with_reducible exact LeO.refl _)
      | (with_reducible exact LeO.none _)
      | (with_reducible refine LeO.ite ?_ ?_)
      | (with_reducible refine LeO.bind ?_ (fun _ => ?_))
      | exact ih0 _ _ _ _ _ _
      | exact ih1 _ _ _ _
      | exact perilunelaw25_live.mono _
      | exact periluneref25_Write.mono _ _ _
      | exact phase_Get.mono _ _ _
      | exact phase_Set.mono _ _ _
      | exact LeO.none _
      | refine LeO.ite ?_ ?_
      | refine LeO.bind ?_ (fun _ => ?_)
theorem perilunelaw25_PhaseDamage.mono : ∀ a0 a1 a2 a3 k, LeO (perilunelaw25_PhaseDamage.f k a0 a1 a2 a3) (perilunelaw25_PhaseDamage.f (k + 1) a0 a1 a2 a3) := by
  intro a0 a1 a2 a3 k
  obtain ⟨ih0, ih1⟩ := perilunelaw25_PhaseDamage.mono_l k
  unfold perilunelaw25_PhaseDamage.f
  repeat' first
      | (with_reducible exact ih0 _ _ _ _ _ _)
      | (with_reducible exact ih1 _ _ _ _)
      | (with_reducible exact perilunelaw25_live.mono _)
      | (with_reducible exact periluneref25_Write.mono _ _ _)
      | (with_reducible exact phase_Get.mono _ _ _)
      | (with_reducible exact phase_Set.mono _ _ _)
      | (with_reducible exact LeO.refl _)
      | (with_reducible exact LeO.none _)
      | (with_reducible refine LeO.ite ?_ ?_)
      | (with_reducible refine LeO.bind ?_ (fun _ => ?_))
      | exact ih0 _ _ _ _ _ _
      | exact ih1 _ _ _ _
      | exact perilunelaw25_live.mono _
      | exact periluneref25_Write.mono _ _ _
      | exact phase_Get.mono _ _ _
      | exact phase_Set.mono _ _ _
      | exact LeO.none _
      | refine LeO.ite ?_ ?_
      | refine LeO.bind ?_ (fun _ => ?_)
set_option maxHeartbeats 8000000 in
set_option maxRecDepth 100000 in
theorem perilunelaw25_PhaseDamage.calls (k : Nat) (a0 : Int) (a1 : Int) (a2 : Bool) (a3 : Int) (r : Bool) (w : World) (h : perilunelaw25_PhaseDamage.f k a0 a1 a2 a3 = some r) :
    Calls Try.prog 6 #[.int .i64 a0, .int .i64 a1, .bool a2, .int .u16 a3] w fun e w' => e = .returned (.bool r) ∧ Below w.heap.size w w' := by
  have HB := Aside0.mk (Below.refl w.heap.size w)
  have H : ((phase_Set.f k a0 a1).bind fun bt217 => (if bt217.2 = 0 then (perilunelaw25_PhaseDamage.j0 k a0 a2 a3 bt217.1 bt217.2 ((bt217.1.length : Int) != 2)) else (perilunelaw25_PhaseDamage.j0 k a0 a2 a3 bt217.1 bt217.2 true))) = some r := h
  clear h
  replace H := Option.bind_eq_some_iff.mp H
  obtain ⟨⟨t217, t218⟩, A50, H⟩ := H
  replace H : (if t218 = 0 then (perilunelaw25_PhaseDamage.j0 k a0 a2 a3 t217 t218 ((t217.length : Int) != 2)) else (perilunelaw25_PhaseDamage.j0 k a0 a2 a3 t217 t218 true)) = some r := H
  have A5 := Aside0.mk A50
  clear A50
  have HC6 := Aside0.mk H
  clear H
  go_enter Try.func6, Try.ntmps6
  go_upto_region 2 with (first | ((with_reducible refine gate_callee (f := 10) rfl ?_); refine goesL_ (some 17) rfl rfl Try.func10 (by kernel_rfl) rfl #[.int .i64 a0, .int .i64 a1] rfl (by (try simp only [List.map_toArray, List.map_cons, List.map_nil]); first | done | rfl | (simp only [List.length_drop, List.length_take]; rfl)) ?_; (with_reducible refine (phase_Set.calls k a0 a1 t217 t218 _ A5.out).mono ?_); rintro e w7 ⟨v219, rfl, ho0, hb⟩; refine ⟨_, rfl, ?_⟩; have n0_ := Aside0.mk (Kd.R_lower ho0 (below_size (by repeat (first | (with_reducible first | exact HB.out | apply below_alloc | apply pw_below_drewN | apply below_drew1) | exact HB.out)))); have n1_ := Aside0.mk (below_step (by repeat (first | (with_reducible first | exact HB.out | apply below_alloc | apply pw_below_drewN | apply below_drew1) | exact HB.out)) hb); clear HB; have HO220 := n0_; have HB := n1_; clear n0_ n1_; (try clear hb); (try clear hb2); (try clear hk); (try clear hi); (try clear ho0)))
  (try simp only [Act.put, List.setIfInBounds_toArray, List.set_cons_zero, List.set_cons_succ])
  go_cut [26] (fun v26 wc => ∃ (kq : Nat) (x26_5 : Bool), v26 = .bool x26_5 ∧ Aside0 (perilunelaw25_PhaseDamage.j0 kq a0 a2 a3 t217 t218 x26_5 = some r) ∧ Aside0 (kq ≤ k) ∧ Aside0 (Kd.R k42 42 wc w.heap.size (fun _ => True) v219 t217) ∧ Aside0 (Below w.heap.size w wc))
  case first =>
    have H := HC6.out
    clear HC6
    by_cases c8 : t218 = 0
    · rw [if_pos c8] at H
      have c8b0 : (t218 == 0) = true := beq_iff_eq.mpr c8
      have c8b1 : (t218 != 0) = false := bne_eq_false_iff_eq.mpr c8
      clear c8
      (first | rw [c8b0] | (simp only [i64_w, i32_w]; rw [c8b0]) | rw [c8b1] | skip)
      have H' := Aside0.mk H
      clear H
      obtain ⟨Ao9, co9, eo9⟩ := Kd.R_slice HO220.out
      subst eo9
      go_wp2
      go_meet
      case rel => exact ⟨_, (((t217.length : Int) != 2)), (by first | rfl | (simp; done) | (simp [*]; done)), H', ⟨by first | omega | exact Nat.le_refl _⟩, ⟨by (with_reducible repeat (first | apply Kd.R_alloc | apply Kd.R_drewN | apply Kd.R_drew)); exact HO220.out⟩, ⟨by repeat (first | (with_reducible first | exact HB.out | apply below_alloc | apply pw_below_drewN | apply below_drew1) | exact HB.out)⟩⟩
    · rw [if_neg c8] at H
      have c8b0 : (t218 == 0) = false := beq_eq_false_iff_ne.mpr c8
      have c8b1 : (t218 != 0) = true := bne_iff_ne.mpr c8
      (first | rw [c8b0] | (simp only [i64_w, i32_w]; rw [c8b0]) | rw [c8b1] | skip)
      have H' := Aside0.mk H
      clear H
      go_wp2
      go_meet
      case rel => exact ⟨_, (true), (by first | rfl | (simp; done) | (simp [*]; done)), H', ⟨by first | omega | exact Nat.le_refl _⟩, ⟨by (with_reducible repeat (first | apply Kd.R_alloc | apply Kd.R_drewN | apply Kd.R_drew)); exact HO220.out⟩, ⟨by repeat (first | (with_reducible first | exact HB.out | apply below_alloc | apply pw_below_drewN | apply below_drew1) | exact HB.out)⟩⟩
  case rest =>
    clear HC6
    try clear c1
    try clear p2
    try clear c6
    try clear c8
    try clear c8b0
    try clear c8b1
    obtain ⟨kq, x26_5, rfl, HA, HJ5, HO_9, HB⟩ := hcut
    cases kq with
    | zero => exact absurd HA.out (by simp [perilunelaw25_PhaseDamage.j0])
    | succ kj5 =>
      have H := HA.out
      clear HA
      simp only [perilunelaw25_PhaseDamage.j0] at H
      by_cases c10 : x26_5 = true
      · subst c10
        have H1 : (if t218 = 3 then ((perilunelaw25_live.f kj5).bind fun t221 => (some t221)) else (some false)) = some r := by rw [if_pos rfl] at H; exact H
        clear H
        have H := H1
        clear H1
        by_cases c11 : t218 = 3
        · rw [if_pos c11] at H
          have c11b0 : (t218 == 3) = true := beq_iff_eq.mpr c11
          have c11b1 : (t218 != 3) = false := bne_eq_false_iff_eq.mpr c11
          clear c11
          replace H := Option.bind_eq_some_iff.mp H
          obtain ⟨t221, A120, H⟩ := H
          replace H : (some t221) = some r := H
          have A12 := Aside0.mk A120
          clear A120
          obtain rfl := Option.some.inj H
          go_wp2_with (first | (go_at_call 15; (with_reducible refine (perilunelaw25_live.calls kj5  t221 _ A12.out).mono ?_); rintro e w13 ⟨rfl, hb⟩; have n0_ := Aside0.mk (Kd.R_below (by (with_reducible repeat (first | apply Kd.R_alloc | apply Kd.R_drewN | apply Kd.R_drew)); exact HO_9.out) hb); have n1_ := Aside0.mk (below_step (by repeat (first | (with_reducible first | exact HB.out | apply below_alloc | apply pw_below_drewN | apply below_drew1) | exact HB.out)) hb); clear HO_9; clear HB; have HO_9 := n0_; have HB := n1_; clear n0_ n1_; (try clear hb); (try clear hb2); (try clear hk); (try clear hi)))
          go_ret
          exact ⟨by first | rfl | (simp [errW_none, errW_some] <;> rfl) | (simp [*, errW_none, errW_some] <;> rfl), by repeat (first | (with_reducible first | exact HB.out | apply below_alloc | apply pw_below_drewN | apply below_drew1) | exact HB.out)⟩
        · rw [if_neg c11] at H
          have c11b0 : (t218 == 3) = false := beq_eq_false_iff_ne.mpr c11
          have c11b1 : (t218 != 3) = true := bne_iff_ne.mpr c11
          obtain rfl := Option.some.inj H
          go_wp2
          go_ret
          exact ⟨by first | rfl | (simp [errW_none, errW_some] <;> rfl) | (simp [*, errW_none, errW_some] <;> rfl), by repeat (first | (with_reducible first | exact HB.out | apply below_alloc | apply pw_below_drewN | apply below_drew1) | exact HB.out)⟩
      · replace c10 := Bool.eq_false_iff.mpr c10
        subst c10
        have H1 : (if a2 = true then (perilunelaw25_PhaseDamage.j1 kj5 a0 a3 t217 1) else (perilunelaw25_PhaseDamage.j1 kj5 a0 a3 t217 0)) = some r := by rw [if_neg (show ¬ (false = true) by decide)] at H; exact H
        clear H
        have H := H1
        clear H1
        have HC14 := Aside0.mk H
        clear H
        go_upto_if 32 with (fail)
        go_cut [11] (fun v11 wc => ∃ (kq : Nat) (x11_13 : Int), v11 = .int .i64 x11_13 ∧ Aside0 (perilunelaw25_PhaseDamage.j1 kq a0 a3 t217 x11_13 = some r) ∧ Aside0 (kq ≤ kj5) ∧ Aside0 (Kd.R k42 42 wc w.heap.size (fun _ => True) v219 t217) ∧ Aside0 (Below w.heap.size w wc))
        case first =>
          have H := HC14.out
          clear HC14
          by_cases c15 : a2 = true
          · subst c15
            have H1 : (perilunelaw25_PhaseDamage.j1 kj5 a0 a3 t217 1) = some r := by rw [if_pos rfl] at H; exact H
            clear H
            have H := H1
            clear H1
            have H' := Aside0.mk H
            clear H
            go_wp2
            go_meet
            case rel => exact ⟨_, (1), (by first | rfl | (simp; done) | (simp [*]; done)), H', ⟨by have := HJ5.out; first | omega | exact Nat.le_refl _⟩, ⟨by (with_reducible repeat (first | apply Kd.R_alloc | apply Kd.R_drewN | apply Kd.R_drew)); exact HO_9.out⟩, ⟨by repeat (first | (with_reducible first | exact HB.out | apply below_alloc | apply pw_below_drewN | apply below_drew1) | exact HB.out)⟩⟩
          · replace c15 := Bool.eq_false_iff.mpr c15
            subst c15
            have H1 : (perilunelaw25_PhaseDamage.j1 kj5 a0 a3 t217 0) = some r := by rw [if_neg (show ¬ (false = true) by decide)] at H; exact H
            clear H
            have H := H1
            clear H1
            have H' := Aside0.mk H
            clear H
            go_wp2
            go_meet
            case rel => exact ⟨_, (0), (by first | rfl | (simp; done) | (simp [*]; done)), H', ⟨by have := HJ5.out; first | omega | exact Nat.le_refl _⟩, ⟨by (with_reducible repeat (first | apply Kd.R_alloc | apply Kd.R_drewN | apply Kd.R_drew)); exact HO_9.out⟩, ⟨by repeat (first | (with_reducible first | exact HB.out | apply below_alloc | apply pw_below_drewN | apply below_drew1) | exact HB.out)⟩⟩
        case rest =>
          clear HC14
          try clear c1
          try clear p2
          try clear c6
          try clear c8
          try clear c8b0
          try clear c8b1
          try clear c10
          try clear c11
          try clear c11b0
          try clear c11b1
          try clear c15
          try clear p2
          obtain ⟨kq, x11_13, rfl, HA, HJ13, HO_9, HB⟩ := hcut
          cases kq with
          | zero => exact absurd HA.out (by simp [perilunelaw25_PhaseDamage.j1])
          | succ kj13 =>
            have H := HA.out
            clear HA
            simp only [perilunelaw25_PhaseDamage.j1] at H
            by_cases c16 : 0 ≤ x11_13
            · rw [if_pos c16] at H
              have c16b0 : decide (0 ≤ x11_13) = true := decide_eq_true c16
              clear c16
              by_cases c17 : x11_13 < (t217.length : Int)
              · rw [if_pos c17] at H
                have c17b0 : decide (x11_13 < (t217.length : Int)) = true := decide_eq_true c17
                clear c17
                by_cases c18 : (Int.tmod a3 32768) = ((rd_T42 t217 x11_13).f1)
                · rw [if_pos c18] at H
                  have c18b0 : ((Int.tmod a3 32768) == ((rd_T42 t217 x11_13).f1)) = true := beq_iff_eq.mpr c18
                  have c18b1 : ((Int.tmod a3 32768) != ((rd_T42 t217 x11_13).f1)) = false := bne_eq_false_iff_eq.mpr c18
                  clear c18
                  replace H := Option.bind_eq_some_iff.mp H
                  obtain ⟨t223, A190, H⟩ := H
                  replace H : (some t223) = some r := H
                  have A19 := Aside0.mk A190
                  clear A190
                  obtain rfl := Option.some.inj H
                  obtain ⟨Ao20, co20, eo20⟩ := Kd.R_slice HO_9.out
                  subst eo20
                  have p222 : 0 ≤ (x11_13 : Int) := of_decide_eq_true (by first | (with_reducible assumption) | assumption)
                  have q222 : x11_13 < (t217.length : Int) := of_decide_eq_true (by first | (with_reducible assumption) | assumption)
                  obtain ⟨ad222, e222, hx222_0, hx222_1⟩ := at_T42 (Kd.R_reads' HO_9.out).2.2 x11_13 p222 q222
                  cases e222
                  replace p222 := eq_true p222
                  replace q222 := eq_true q222
                  go_wp2_with (first | ((with_reducible refine gate_callee (f := 15) rfl ?_); refine goesL_ (some 41) rfl rfl Try.func15 (by kernel_rfl) rfl #[] rfl (by (try simp only [List.map_toArray, List.map_cons, List.map_nil]); first | done | rfl | (simp only [List.length_drop, List.length_take]; rfl)) ?_; (with_reducible refine (perilunelaw25_live.calls kj13  t223 _ A19.out).mono ?_); rintro e w21 ⟨rfl, hb⟩; refine ⟨_, rfl, ?_⟩; have n0_ := Aside0.mk (Kd.R_below (by (with_reducible repeat (first | apply Kd.R_alloc | apply Kd.R_drewN | apply Kd.R_drew)); exact HO_9.out) hb); have n1_ := Aside0.mk (below_step (by repeat (first | (with_reducible first | exact HB.out | apply below_alloc | apply pw_below_drewN | apply below_drew1) | exact HB.out)) hb); clear HO_9; clear HB; have HO_9 := n0_; have HB := n1_; clear n0_ n1_; (try clear hb); (try clear hb2); (try clear hk); (try clear hi)))
                  go_ret
                  exact ⟨by first | rfl | (simp [errW_none, errW_some] <;> rfl) | (simp [*, errW_none, errW_some] <;> rfl), by repeat (first | (with_reducible first | exact HB.out | apply below_alloc | apply pw_below_drewN | apply below_drew1) | exact HB.out)⟩
                · rw [if_neg c18] at H
                  have c18b0 : ((Int.tmod a3 32768) == ((rd_T42 t217 x11_13).f1)) = false := beq_eq_false_iff_ne.mpr c18
                  have c18b1 : ((Int.tmod a3 32768) != ((rd_T42 t217 x11_13).f1)) = true := bne_iff_ne.mpr c18
                  obtain ⟨y224, hy224⟩ : ∃ y_ : List (S42), y_ = (t217.set (x11_13 : Int).toNat (⟨(rd_T42 t217 x11_13).f0, a3⟩ : S42)) := ⟨_, rfl⟩
                  replace H : (if 2012 ≤ 140737488355328 then ((periluneref25_Write.f kj13 (List.replicate 2012 0) y224).bind fun t228 => ((phase_Get.f kj13 t228 a0).bind fun bt231 => (if bt231.1 = 0 then (if bt231.2 = 10 then ((perilunelaw25_live.f kj13).bind fun t233 => (some t233)) else (some false)) else (some false)))) else (none)) = some r := by first | (rw [hy224]; with_reducible exact H) | (have H2_ := (Option.bind_some _ _).symm.trans H; rw [hy224]; with_reducible exact H2_) | (have H2_ := (Option.bind_some _ _).symm.trans H; with_reducible exact H2_) | with_reducible exact H | (rw [hy224]; exact H) | exact H
                  have Ny224 := Aside0.mk hy224
                  clear hy224
                  by_cases c23 : 2012 ≤ 140737488355328
                  · rw [if_pos c23] at H
                    have c23b0 := eq_true c23
                    have c23b1 : decide (2012 ≤ 140737488355328) = true := decide_eq_true c23
                    clear c23
                    obtain ⟨y225, hy225⟩ : ∃ y_ : List Int, y_ = (List.replicate 2012 0) := ⟨_, rfl⟩
                    replace H : ((periluneref25_Write.f kj13 y225 y224).bind fun t228 => ((phase_Get.f kj13 t228 a0).bind fun bt231 => (if bt231.1 = 0 then (if bt231.2 = 10 then ((perilunelaw25_live.f kj13).bind fun t233 => (some t233)) else (some false)) else (some false)))) = some r := by first | (rw [hy225]; with_reducible exact H) | (have H2_ := (Option.bind_some _ _).symm.trans H; rw [hy225]; with_reducible exact H2_) | (have H2_ := (Option.bind_some _ _).symm.trans H; with_reducible exact H2_) | with_reducible exact H | (rw [hy225]; exact H) | exact H
                    have Ny225 := Aside0.mk hy225
                    clear hy225
                    replace H := Option.bind_eq_some_iff.mp H
                    obtain ⟨t228, A240, H⟩ := H
                    replace H : ((phase_Get.f kj13 t228 a0).bind fun bt231 => (if bt231.1 = 0 then (if bt231.2 = 10 then ((perilunelaw25_live.f kj13).bind fun t233 => (some t233)) else (some false)) else (some false))) = some r := H
                    have A24 := Aside0.mk A240
                    clear A240
                    replace H := Option.bind_eq_some_iff.mp H
                    obtain ⟨⟨t231, t232⟩, A250, H⟩ := H
                    replace H : (if t231 = 0 then (if t232 = 10 then ((perilunelaw25_live.f kj13).bind fun t233 => (some t233)) else (some false)) else (some false)) = some r := H
                    have A25 := Aside0.mk A250
                    clear A250
                    by_cases c26 : t231 = 0
                    · rw [if_pos c26] at H
                      have c26b0 : (t231 == 0) = true := beq_iff_eq.mpr c26
                      have c26b1 : (t231 != 0) = false := bne_eq_false_iff_eq.mpr c26
                      clear c26
                      by_cases c27 : t232 = 10
                      · rw [if_pos c27] at H
                        have c27b0 : (t232 == 10) = true := beq_iff_eq.mpr c27
                        have c27b1 : (t232 != 10) = false := bne_eq_false_iff_eq.mpr c27
                        clear c27
                        replace H := Option.bind_eq_some_iff.mp H
                        obtain ⟨t233, A280, H⟩ := H
                        replace H : (some t233) = some r := H
                        have A28 := Aside0.mk A280
                        clear A280
                        obtain rfl := Option.some.inj H
                        obtain ⟨Ao29, co29, eo29⟩ := Kd.R_slice HO_9.out
                        subst eo29
                        have p222 : 0 ≤ (x11_13 : Int) := of_decide_eq_true (by first | (with_reducible assumption) | assumption)
                        have q222 : x11_13 < (t217.length : Int) := of_decide_eq_true (by first | (with_reducible assumption) | assumption)
                        obtain ⟨ad222, e222, hx222_0, hx222_1⟩ := at_T42 (Kd.R_reads' HO_9.out).2.2 x11_13 p222 q222
                        cases e222
                        replace p222 := eq_true p222
                        replace q222 := eq_true q222
                        have p22 : 0 ≤ (x11_13 : Int) := of_decide_eq_true (by first | (with_reducible assumption) | assumption)
                        have q22 : (x11_13 : Int) < ((t217.length : Int) : Int) := of_decide_eq_true (by first | (with_reducible assumption) | assumption)
                        obtain ⟨go22, co22, eo22, gb22, gl22, cl22, HG22⟩ := Kd.R_form HO_9.out (by omega)
                        (first | cases eo22 | (injection eo22 with ea_ en_ ec_; (first | subst ea_ | (injection ea_ with ea_; subst ea_)); subst ec_; clear en_))
                        have GB22 := Aside0.mk gb22
                        have GG22 := Aside0.mk HG22
                        clear gb22 gl22 HG22
                        (first | simp only [add_plain] at hx222_0 | skip)
                        (first | simp only [add_plain] at hx222_1 | skip)
                        obtain ⟨ce22, hcl22, hM22, hcc22, hfr22⟩ := Kd.R_elem HO_9.out z42 (x11_13 : Int) p22 q22
                        obtain rfl := k42_openM hM22
                        have hx22_0 : wc.cell? ⟨go22, (x11_13 : Int).toNat * 2, none⟩ = some (.int .i64 ((rd_T42 t217 x11_13).f0)) := hcc22 0 _ rfl
                        have hx22_1 : wc.cell? ⟨go22, (x11_13 : Int).toNat * 2 + 1, none⟩ = some (.int .u16 ((rd_T42 t217 x11_13).f1)) := hcc22 1 _ rfl
                        have hf22_0 : wc.frozen? ⟨go22, (x11_13 : Int).toNat * 2, none⟩ = false := hfr22 0
                        have hf22_1 : wc.frozen? ⟨go22, (x11_13 : Int).toNat * 2 + 1, none⟩ = false := hfr22 1
                        clear hcl22 hcc22 hfr22 hM22
                        replace p22 := eq_true p22
                        replace q22 := eq_true q22
                        have HX30 := Aside0.mk (show Kd.R k42 42 wc w.heap.size (fun _ => True) (.slice (some ⟨go22, 0, none⟩) t217.length co29) t217 from (by (with_reducible repeat (first | apply Kd.R_alloc | apply Kd.R_drewN | apply Kd.R_drew)); exact HO_9.out))
                        obtain ⟨ce30, hcl30, hM30, hcc30, hfr30⟩ := Kd.R_elem HX30.out z42 (x11_13 : Int) (of_decide_eq_true (by first | (with_reducible assumption) | assumption)) (by have h_ : (x11_13 : Int) < ((t217.length : Int) : Int) := of_decide_eq_true (by first | (with_reducible assumption) | assumption); first | exact h_ | (have e_ := (Kd.R_reads' HO_9.out).1; omega) | simpa using h_)
                        obtain rfl := k42_openM hM30
                        have HP30 := Kd.R_seg HX30.out (x11_13 : Int) (of_decide_eq_true (by first | (with_reducible assumption) | assumption)) (by have h_ : (x11_13 : Int) < ((t217.length : Int) : Int) := of_decide_eq_true (by first | (with_reducible assumption) | assumption); first | exact h_ | (have e_ := (Kd.R_reads' HO_9.out).1; omega) | simpa using h_) (seg := [.int .u16 a3]) (j := 1) hcl30 hcc30 (show 2 ≤ 2 from by decide) (x' := (⟨(rd_T42 t217 x11_13).f0, a3⟩ : S42)) (k42_mkM _ _ _ (⟨(rd_T42 t217 x11_13).f0, a3⟩ : S42) ) (fun _ hk => hk)
                        have hx30_1 := hcc30 1 _ rfl
                        (try simp only [show (k42).sz = 2 from rfl, Nat.mul_one, Nat.add_zero] at hx30_1)
                        have hf30_1 := hfr30 1
                        (try simp only [show (k42).sz = 2 from rfl, Nat.mul_one, Nat.add_zero] at hf30_1)
                        clear hcl30 hcc30 hfr30 hM30
                        go_wp2_with (first | ((with_reducible refine gate_store (t := 37) (p := 46) rfl ?_); refine store_event (t := 37) (p := 46) (v := ?vo_w31) (w1 := (wc.setCell ⟨go22, (x11_13 : Int).toNat * 2 + 1, none⟩ (.int .u16 a3))) ?hg ?ho ?hn ?hr ?_; (case ho => rfl); (case hg => rfl); (case hn => rfl); (case hr => first | (go_simp; done) | (go_simp; rfl)); intro w31 hw; have hg : wc.grownBy w31 (some go22) := (by rw [hw]; exact HP30.2); have hp_ : Kd.R k42 42 w31 w.heap.size (fun _ => True) (.slice (some ⟨go22, 0, none⟩) t217.length co29) y224 := (by rw [hw, Ny224.out]; exact HP30.1); clear HP30; have n0_ := Aside0.mk (hp_); have n1_ := Aside0.mk ((by rw [hw]; exact below_set (HB.out) GB22.out : Below w.heap.size w w31)); clear HO_9; clear HB; have HO_9 := n0_; have HB := n1_; clear n0_ n1_; clear hg hw hp_) | ((with_reducible refine gate_dst (N := 48) rfl ?_); (try (refine gate_guard (by rfl) ?_; dsimp only)); refine Kd.R_make (Kd.int .u16) _ 37 rfl (N := 48) rfl 30 _ _ rfl 2012 rfl rfl Try.underlying30 (.int .u16 0) 2 info37 rfl (by decide) (by omega) 0 (ok := fun _ => True) (okp := fun _ => True) rfl (fun _ hk => hk) trivial (by omega) (by omega) (Below.refl _ _) (Nat.le_refl _) ?_; intro v226 w32 ho33 hb hg_ hnew_; clear hg_ hnew_; (first | rw [← Ny225.out] at ho33 | (simp only [Int.reduceToNat] at ho33; rw [← Ny225.out] at ho33)); have n0_ := Aside0.mk (Kd.R_below (by (with_reducible repeat (first | apply Kd.R_alloc | apply Kd.R_drewN | apply Kd.R_drew)); exact HO_9.out) hb); have n1_ := Aside0.mk (Kd.R_lower ho33 (below_size (by repeat (first | (with_reducible first | exact HB.out | apply below_alloc | apply pw_below_drewN | apply below_drew1) | exact HB.out)))); have n2_ := Aside0.mk (below_step (by repeat (first | (with_reducible first | exact HB.out | apply below_alloc | apply pw_below_drewN | apply below_drew1) | exact HB.out)) hb); clear HO_9; clear HB; have HO_9 := n0_; have HO227 := n1_; have HB := n2_; clear n0_ n1_ n2_; clear hb ho33; obtain ⟨Ao34, co34, eo34⟩ := Kd.R_slice HO227.out; subst eo34) | ((with_reducible refine gate_callee (f := 19) rfl ?_); refine goesL_ (some 50) rfl rfl Try.func19 (by kernel_rfl) rfl #[.slice Ao34 y225.length co34, .slice (some ⟨go22, 0, none⟩) y224.length co29] rfl (by (try simp only [List.map_toArray, List.map_cons, List.map_nil]); first | done | (rw [show y224.length = t217.length from (Kd.R_reads' HO_9.out).1.symm] <;> rfl) | rfl | (simp only [List.length_drop, List.length_take]; rfl)) ?_; (with_reducible refine (periluneref25_Write.calls kj13 _ _ y225 _ _ y224 t228 _ ?side1 ?side2 ?side3 ?side4 A24.out).mono ?_); (case side1 => repeat (first | exact (Kd.R_reads' HO227.out).2.2 | (with_reducible refine Kd.C_alloc ?_ _) | (with_reducible refine Kd.C_drewN ?_ _) | (with_reducible refine Kd.C_drew ?_))); (case side2 => exact (Kd.R_reads' HO227.out).2.1); (case side3 => repeat (first | exact (Kd.R_reads' HO_9.out).2.2 | (with_reducible refine Kd.C_alloc ?_ _) | (with_reducible refine Kd.C_drewN ?_ _) | (with_reducible refine Kd.C_drew ?_))); (case side4 => rw [show y224.length = t217.length from (Kd.R_reads' HO_9.out).1.symm]; exact (Kd.R_reads' HO_9.out).2.1); rintro e w35 ⟨v229, rfl, ho0, hb⟩; refine ⟨_, rfl, ?_⟩; have n0_ := Aside0.mk (Kd.R_below (by (with_reducible repeat (first | apply Kd.R_alloc | apply Kd.R_drewN | apply Kd.R_drew)); exact HO_9.out) hb); have n1_ := Aside0.mk (Kd.R_elder' (by (with_reducible repeat (first | apply Kd.R_alloc | apply Kd.R_drewN | apply Kd.R_drew)); exact HO227.out) (Kd.R_base ho0) hb); have n2_ := Aside0.mk (Kd.R_lower (Kd.R_new' ho0 (Kd.R_lt (by (with_reducible repeat (first | apply Kd.R_alloc | apply Kd.R_drewN | apply Kd.R_drew)); exact HO227.out))) (below_size (by repeat (first | (with_reducible first | exact HB.out | apply below_alloc | apply pw_below_drewN | apply below_drew1) | exact HB.out)))); have n3_ := Aside0.mk (below_step (by repeat (first | (with_reducible first | exact HB.out | apply below_alloc | apply pw_below_drewN | apply below_drew1) | exact HB.out)) hb); clear HO_9; clear HO227; clear HB; have HO_9 := n0_; have HO227 := n1_; have HO230 := n2_; have HB := n3_; clear n0_ n1_ n2_ n3_; (try clear hb); (try clear hb2); (try clear hk); (try clear hi); (try clear ho0); obtain ⟨Ao36, co36, eo36⟩ := Kd.R_slice HO230.out; subst eo36) | ((with_reducible refine gate_callee (f := 17) rfl ?_); refine goesL_ (some 52) rfl rfl Try.func17 (by kernel_rfl) rfl #[.slice Ao36 t228.length co36, .int .i64 a0] rfl (by (try simp only [List.map_toArray, List.map_cons, List.map_nil]); first | done | rfl | (simp only [List.length_drop, List.length_take]; rfl)) ?_; (with_reducible refine (phase_Get.calls kj13 _ _ t228 a0 t231 t232 _ ?side1 ?side2 A25.out).mono ?_); (case side1 => repeat (first | exact (Kd.R_reads' HO230.out).2.2 | (with_reducible refine Kd.C_alloc ?_ _) | (with_reducible refine Kd.C_drewN ?_ _) | (with_reducible refine Kd.C_drew ?_))); (case side2 => exact (Kd.R_reads' HO230.out).2.1); rintro e w' ⟨rfl, ⟨nd, rfl⟩⟩; refine ⟨_, rfl, ?_⟩) | (go_at_call 15; (with_reducible refine (perilunelaw25_live.calls kj13  t233 _ A28.out).mono ?_); rintro e w37 ⟨rfl, hb⟩; have n0_ := Aside0.mk (Kd.R_below (by (with_reducible repeat (first | apply Kd.R_alloc | apply Kd.R_drewN | apply Kd.R_drew)); exact HO_9.out) hb); have n1_ := Aside0.mk (Kd.R_below (by (with_reducible repeat (first | apply Kd.R_alloc | apply Kd.R_drewN | apply Kd.R_drew)); exact HO227.out) hb); have n2_ := Aside0.mk (Kd.R_below (by (with_reducible repeat (first | apply Kd.R_alloc | apply Kd.R_drewN | apply Kd.R_drew)); exact HO230.out) hb); have n3_ := Aside0.mk (below_step (by repeat (first | (with_reducible first | exact HB.out | apply below_alloc | apply pw_below_drewN | apply below_drew1) | exact HB.out)) hb); clear HO_9; clear HO227; clear HO230; clear HB; have HO_9 := n0_; have HO227 := n1_; have HO230 := n2_; have HB := n3_; clear n0_ n1_ n2_ n3_; (try clear hb); (try clear hb2); (try clear hk); (try clear hi)))
                        go_ret
                        exact ⟨by first | rfl | (simp [errW_none, errW_some] <;> rfl) | (simp [*, errW_none, errW_some] <;> rfl), by repeat (first | (with_reducible first | exact HB.out | apply below_alloc | apply pw_below_drewN | apply below_drew1) | exact HB.out)⟩
                      · rw [if_neg c27] at H
                        have c27b0 : (t232 == 10) = false := beq_eq_false_iff_ne.mpr c27
                        have c27b1 : (t232 != 10) = true := bne_iff_ne.mpr c27
                        obtain rfl := Option.some.inj H
                        obtain ⟨Ao38, co38, eo38⟩ := Kd.R_slice HO_9.out
                        subst eo38
                        have p222 : 0 ≤ (x11_13 : Int) := of_decide_eq_true (by first | (with_reducible assumption) | assumption)
                        have q222 : x11_13 < (t217.length : Int) := of_decide_eq_true (by first | (with_reducible assumption) | assumption)
                        obtain ⟨ad222, e222, hx222_0, hx222_1⟩ := at_T42 (Kd.R_reads' HO_9.out).2.2 x11_13 p222 q222
                        cases e222
                        replace p222 := eq_true p222
                        replace q222 := eq_true q222
                        have p22 : 0 ≤ (x11_13 : Int) := of_decide_eq_true (by first | (with_reducible assumption) | assumption)
                        have q22 : (x11_13 : Int) < ((t217.length : Int) : Int) := of_decide_eq_true (by first | (with_reducible assumption) | assumption)
                        obtain ⟨go22, co22, eo22, gb22, gl22, cl22, HG22⟩ := Kd.R_form HO_9.out (by omega)
                        (first | cases eo22 | (injection eo22 with ea_ en_ ec_; (first | subst ea_ | (injection ea_ with ea_; subst ea_)); subst ec_; clear en_))
                        have GB22 := Aside0.mk gb22
                        have GG22 := Aside0.mk HG22
                        clear gb22 gl22 HG22
                        (first | simp only [add_plain] at hx222_0 | skip)
                        (first | simp only [add_plain] at hx222_1 | skip)
                        obtain ⟨ce22, hcl22, hM22, hcc22, hfr22⟩ := Kd.R_elem HO_9.out z42 (x11_13 : Int) p22 q22
                        obtain rfl := k42_openM hM22
                        have hx22_0 : wc.cell? ⟨go22, (x11_13 : Int).toNat * 2, none⟩ = some (.int .i64 ((rd_T42 t217 x11_13).f0)) := hcc22 0 _ rfl
                        have hx22_1 : wc.cell? ⟨go22, (x11_13 : Int).toNat * 2 + 1, none⟩ = some (.int .u16 ((rd_T42 t217 x11_13).f1)) := hcc22 1 _ rfl
                        have hf22_0 : wc.frozen? ⟨go22, (x11_13 : Int).toNat * 2, none⟩ = false := hfr22 0
                        have hf22_1 : wc.frozen? ⟨go22, (x11_13 : Int).toNat * 2 + 1, none⟩ = false := hfr22 1
                        clear hcl22 hcc22 hfr22 hM22
                        replace p22 := eq_true p22
                        replace q22 := eq_true q22
                        have HX39 := Aside0.mk (show Kd.R k42 42 wc w.heap.size (fun _ => True) (.slice (some ⟨go22, 0, none⟩) t217.length co38) t217 from (by (with_reducible repeat (first | apply Kd.R_alloc | apply Kd.R_drewN | apply Kd.R_drew)); exact HO_9.out))
                        obtain ⟨ce39, hcl39, hM39, hcc39, hfr39⟩ := Kd.R_elem HX39.out z42 (x11_13 : Int) (of_decide_eq_true (by first | (with_reducible assumption) | assumption)) (by have h_ : (x11_13 : Int) < ((t217.length : Int) : Int) := of_decide_eq_true (by first | (with_reducible assumption) | assumption); first | exact h_ | (have e_ := (Kd.R_reads' HO_9.out).1; omega) | simpa using h_)
                        obtain rfl := k42_openM hM39
                        have HP39 := Kd.R_seg HX39.out (x11_13 : Int) (of_decide_eq_true (by first | (with_reducible assumption) | assumption)) (by have h_ : (x11_13 : Int) < ((t217.length : Int) : Int) := of_decide_eq_true (by first | (with_reducible assumption) | assumption); first | exact h_ | (have e_ := (Kd.R_reads' HO_9.out).1; omega) | simpa using h_) (seg := [.int .u16 a3]) (j := 1) hcl39 hcc39 (show 2 ≤ 2 from by decide) (x' := (⟨(rd_T42 t217 x11_13).f0, a3⟩ : S42)) (k42_mkM _ _ _ (⟨(rd_T42 t217 x11_13).f0, a3⟩ : S42) ) (fun _ hk => hk)
                        have hx39_1 := hcc39 1 _ rfl
                        (try simp only [show (k42).sz = 2 from rfl, Nat.mul_one, Nat.add_zero] at hx39_1)
                        have hf39_1 := hfr39 1
                        (try simp only [show (k42).sz = 2 from rfl, Nat.mul_one, Nat.add_zero] at hf39_1)
                        clear hcl39 hcc39 hfr39 hM39
                        go_wp2_with (first | ((with_reducible refine gate_store (t := 37) (p := 46) rfl ?_); refine store_event (t := 37) (p := 46) (v := ?vo_w40) (w1 := (wc.setCell ⟨go22, (x11_13 : Int).toNat * 2 + 1, none⟩ (.int .u16 a3))) ?hg ?ho ?hn ?hr ?_; (case ho => rfl); (case hg => rfl); (case hn => rfl); (case hr => first | (go_simp; done) | (go_simp; rfl)); intro w40 hw; have hg : wc.grownBy w40 (some go22) := (by rw [hw]; exact HP39.2); have hp_ : Kd.R k42 42 w40 w.heap.size (fun _ => True) (.slice (some ⟨go22, 0, none⟩) t217.length co38) y224 := (by rw [hw, Ny224.out]; exact HP39.1); clear HP39; have n0_ := Aside0.mk (hp_); have n1_ := Aside0.mk ((by rw [hw]; exact below_set (HB.out) GB22.out : Below w.heap.size w w40)); clear HO_9; clear HB; have HO_9 := n0_; have HB := n1_; clear n0_ n1_; clear hg hw hp_) | ((with_reducible refine gate_dst (N := 48) rfl ?_); (try (refine gate_guard (by rfl) ?_; dsimp only)); refine Kd.R_make (Kd.int .u16) _ 37 rfl (N := 48) rfl 30 _ _ rfl 2012 rfl rfl Try.underlying30 (.int .u16 0) 2 info37 rfl (by decide) (by omega) 0 (ok := fun _ => True) (okp := fun _ => True) rfl (fun _ hk => hk) trivial (by omega) (by omega) (Below.refl _ _) (Nat.le_refl _) ?_; intro v226 w41 ho42 hb hg_ hnew_; clear hg_ hnew_; (first | rw [← Ny225.out] at ho42 | (simp only [Int.reduceToNat] at ho42; rw [← Ny225.out] at ho42)); have n0_ := Aside0.mk (Kd.R_below (by (with_reducible repeat (first | apply Kd.R_alloc | apply Kd.R_drewN | apply Kd.R_drew)); exact HO_9.out) hb); have n1_ := Aside0.mk (Kd.R_lower ho42 (below_size (by repeat (first | (with_reducible first | exact HB.out | apply below_alloc | apply pw_below_drewN | apply below_drew1) | exact HB.out)))); have n2_ := Aside0.mk (below_step (by repeat (first | (with_reducible first | exact HB.out | apply below_alloc | apply pw_below_drewN | apply below_drew1) | exact HB.out)) hb); clear HO_9; clear HB; have HO_9 := n0_; have HO227 := n1_; have HB := n2_; clear n0_ n1_ n2_; clear hb ho42; obtain ⟨Ao43, co43, eo43⟩ := Kd.R_slice HO227.out; subst eo43) | ((with_reducible refine gate_callee (f := 19) rfl ?_); refine goesL_ (some 50) rfl rfl Try.func19 (by kernel_rfl) rfl #[.slice Ao43 y225.length co43, .slice (some ⟨go22, 0, none⟩) y224.length co38] rfl (by (try simp only [List.map_toArray, List.map_cons, List.map_nil]); first | done | (rw [show y224.length = t217.length from (Kd.R_reads' HO_9.out).1.symm] <;> rfl) | rfl | (simp only [List.length_drop, List.length_take]; rfl)) ?_; (with_reducible refine (periluneref25_Write.calls kj13 _ _ y225 _ _ y224 t228 _ ?side1 ?side2 ?side3 ?side4 A24.out).mono ?_); (case side1 => repeat (first | exact (Kd.R_reads' HO227.out).2.2 | (with_reducible refine Kd.C_alloc ?_ _) | (with_reducible refine Kd.C_drewN ?_ _) | (with_reducible refine Kd.C_drew ?_))); (case side2 => exact (Kd.R_reads' HO227.out).2.1); (case side3 => repeat (first | exact (Kd.R_reads' HO_9.out).2.2 | (with_reducible refine Kd.C_alloc ?_ _) | (with_reducible refine Kd.C_drewN ?_ _) | (with_reducible refine Kd.C_drew ?_))); (case side4 => rw [show y224.length = t217.length from (Kd.R_reads' HO_9.out).1.symm]; exact (Kd.R_reads' HO_9.out).2.1); rintro e w44 ⟨v229, rfl, ho0, hb⟩; refine ⟨_, rfl, ?_⟩; have n0_ := Aside0.mk (Kd.R_below (by (with_reducible repeat (first | apply Kd.R_alloc | apply Kd.R_drewN | apply Kd.R_drew)); exact HO_9.out) hb); have n1_ := Aside0.mk (Kd.R_elder' (by (with_reducible repeat (first | apply Kd.R_alloc | apply Kd.R_drewN | apply Kd.R_drew)); exact HO227.out) (Kd.R_base ho0) hb); have n2_ := Aside0.mk (Kd.R_lower (Kd.R_new' ho0 (Kd.R_lt (by (with_reducible repeat (first | apply Kd.R_alloc | apply Kd.R_drewN | apply Kd.R_drew)); exact HO227.out))) (below_size (by repeat (first | (with_reducible first | exact HB.out | apply below_alloc | apply pw_below_drewN | apply below_drew1) | exact HB.out)))); have n3_ := Aside0.mk (below_step (by repeat (first | (with_reducible first | exact HB.out | apply below_alloc | apply pw_below_drewN | apply below_drew1) | exact HB.out)) hb); clear HO_9; clear HO227; clear HB; have HO_9 := n0_; have HO227 := n1_; have HO230 := n2_; have HB := n3_; clear n0_ n1_ n2_ n3_; (try clear hb); (try clear hb2); (try clear hk); (try clear hi); (try clear ho0); obtain ⟨Ao45, co45, eo45⟩ := Kd.R_slice HO230.out; subst eo45) | ((with_reducible refine gate_callee (f := 17) rfl ?_); refine goesL_ (some 52) rfl rfl Try.func17 (by kernel_rfl) rfl #[.slice Ao45 t228.length co45, .int .i64 a0] rfl (by (try simp only [List.map_toArray, List.map_cons, List.map_nil]); first | done | rfl | (simp only [List.length_drop, List.length_take]; rfl)) ?_; (with_reducible refine (phase_Get.calls kj13 _ _ t228 a0 t231 t232 _ ?side1 ?side2 A25.out).mono ?_); (case side1 => repeat (first | exact (Kd.R_reads' HO230.out).2.2 | (with_reducible refine Kd.C_alloc ?_ _) | (with_reducible refine Kd.C_drewN ?_ _) | (with_reducible refine Kd.C_drew ?_))); (case side2 => exact (Kd.R_reads' HO230.out).2.1); rintro e w' ⟨rfl, ⟨nd, rfl⟩⟩; refine ⟨_, rfl, ?_⟩))
                        go_ret
                        exact ⟨by first | rfl | (simp [errW_none, errW_some] <;> rfl) | (simp [*, errW_none, errW_some] <;> rfl), by repeat (first | (with_reducible first | exact HB.out | apply below_alloc | apply pw_below_drewN | apply below_drew1) | exact HB.out)⟩
                    · rw [if_neg c26] at H
                      have c26b0 : (t231 == 0) = false := beq_eq_false_iff_ne.mpr c26
                      have c26b1 : (t231 != 0) = true := bne_iff_ne.mpr c26
                      obtain rfl := Option.some.inj H
                      obtain ⟨Ao46, co46, eo46⟩ := Kd.R_slice HO_9.out
                      subst eo46
                      have p222 : 0 ≤ (x11_13 : Int) := of_decide_eq_true (by first | (with_reducible assumption) | assumption)
                      have q222 : x11_13 < (t217.length : Int) := of_decide_eq_true (by first | (with_reducible assumption) | assumption)
                      obtain ⟨ad222, e222, hx222_0, hx222_1⟩ := at_T42 (Kd.R_reads' HO_9.out).2.2 x11_13 p222 q222
                      cases e222
                      replace p222 := eq_true p222
                      replace q222 := eq_true q222
                      have p22 : 0 ≤ (x11_13 : Int) := of_decide_eq_true (by first | (with_reducible assumption) | assumption)
                      have q22 : (x11_13 : Int) < ((t217.length : Int) : Int) := of_decide_eq_true (by first | (with_reducible assumption) | assumption)
                      obtain ⟨go22, co22, eo22, gb22, gl22, cl22, HG22⟩ := Kd.R_form HO_9.out (by omega)
                      (first | cases eo22 | (injection eo22 with ea_ en_ ec_; (first | subst ea_ | (injection ea_ with ea_; subst ea_)); subst ec_; clear en_))
                      have GB22 := Aside0.mk gb22
                      have GG22 := Aside0.mk HG22
                      clear gb22 gl22 HG22
                      (first | simp only [add_plain] at hx222_0 | skip)
                      (first | simp only [add_plain] at hx222_1 | skip)
                      obtain ⟨ce22, hcl22, hM22, hcc22, hfr22⟩ := Kd.R_elem HO_9.out z42 (x11_13 : Int) p22 q22
                      obtain rfl := k42_openM hM22
                      have hx22_0 : wc.cell? ⟨go22, (x11_13 : Int).toNat * 2, none⟩ = some (.int .i64 ((rd_T42 t217 x11_13).f0)) := hcc22 0 _ rfl
                      have hx22_1 : wc.cell? ⟨go22, (x11_13 : Int).toNat * 2 + 1, none⟩ = some (.int .u16 ((rd_T42 t217 x11_13).f1)) := hcc22 1 _ rfl
                      have hf22_0 : wc.frozen? ⟨go22, (x11_13 : Int).toNat * 2, none⟩ = false := hfr22 0
                      have hf22_1 : wc.frozen? ⟨go22, (x11_13 : Int).toNat * 2 + 1, none⟩ = false := hfr22 1
                      clear hcl22 hcc22 hfr22 hM22
                      replace p22 := eq_true p22
                      replace q22 := eq_true q22
                      have HX47 := Aside0.mk (show Kd.R k42 42 wc w.heap.size (fun _ => True) (.slice (some ⟨go22, 0, none⟩) t217.length co46) t217 from (by (with_reducible repeat (first | apply Kd.R_alloc | apply Kd.R_drewN | apply Kd.R_drew)); exact HO_9.out))
                      obtain ⟨ce47, hcl47, hM47, hcc47, hfr47⟩ := Kd.R_elem HX47.out z42 (x11_13 : Int) (of_decide_eq_true (by first | (with_reducible assumption) | assumption)) (by have h_ : (x11_13 : Int) < ((t217.length : Int) : Int) := of_decide_eq_true (by first | (with_reducible assumption) | assumption); first | exact h_ | (have e_ := (Kd.R_reads' HO_9.out).1; omega) | simpa using h_)
                      obtain rfl := k42_openM hM47
                      have HP47 := Kd.R_seg HX47.out (x11_13 : Int) (of_decide_eq_true (by first | (with_reducible assumption) | assumption)) (by have h_ : (x11_13 : Int) < ((t217.length : Int) : Int) := of_decide_eq_true (by first | (with_reducible assumption) | assumption); first | exact h_ | (have e_ := (Kd.R_reads' HO_9.out).1; omega) | simpa using h_) (seg := [.int .u16 a3]) (j := 1) hcl47 hcc47 (show 2 ≤ 2 from by decide) (x' := (⟨(rd_T42 t217 x11_13).f0, a3⟩ : S42)) (k42_mkM _ _ _ (⟨(rd_T42 t217 x11_13).f0, a3⟩ : S42) ) (fun _ hk => hk)
                      have hx47_1 := hcc47 1 _ rfl
                      (try simp only [show (k42).sz = 2 from rfl, Nat.mul_one, Nat.add_zero] at hx47_1)
                      have hf47_1 := hfr47 1
                      (try simp only [show (k42).sz = 2 from rfl, Nat.mul_one, Nat.add_zero] at hf47_1)
                      clear hcl47 hcc47 hfr47 hM47
                      go_wp2_with (first | ((with_reducible refine gate_store (t := 37) (p := 46) rfl ?_); refine store_event (t := 37) (p := 46) (v := ?vo_w48) (w1 := (wc.setCell ⟨go22, (x11_13 : Int).toNat * 2 + 1, none⟩ (.int .u16 a3))) ?hg ?ho ?hn ?hr ?_; (case ho => rfl); (case hg => rfl); (case hn => rfl); (case hr => first | (go_simp; done) | (go_simp; rfl)); intro w48 hw; have hg : wc.grownBy w48 (some go22) := (by rw [hw]; exact HP47.2); have hp_ : Kd.R k42 42 w48 w.heap.size (fun _ => True) (.slice (some ⟨go22, 0, none⟩) t217.length co46) y224 := (by rw [hw, Ny224.out]; exact HP47.1); clear HP47; have n0_ := Aside0.mk (hp_); have n1_ := Aside0.mk ((by rw [hw]; exact below_set (HB.out) GB22.out : Below w.heap.size w w48)); clear HO_9; clear HB; have HO_9 := n0_; have HB := n1_; clear n0_ n1_; clear hg hw hp_) | ((with_reducible refine gate_dst (N := 48) rfl ?_); (try (refine gate_guard (by rfl) ?_; dsimp only)); refine Kd.R_make (Kd.int .u16) _ 37 rfl (N := 48) rfl 30 _ _ rfl 2012 rfl rfl Try.underlying30 (.int .u16 0) 2 info37 rfl (by decide) (by omega) 0 (ok := fun _ => True) (okp := fun _ => True) rfl (fun _ hk => hk) trivial (by omega) (by omega) (Below.refl _ _) (Nat.le_refl _) ?_; intro v226 w49 ho50 hb hg_ hnew_; clear hg_ hnew_; (first | rw [← Ny225.out] at ho50 | (simp only [Int.reduceToNat] at ho50; rw [← Ny225.out] at ho50)); have n0_ := Aside0.mk (Kd.R_below (by (with_reducible repeat (first | apply Kd.R_alloc | apply Kd.R_drewN | apply Kd.R_drew)); exact HO_9.out) hb); have n1_ := Aside0.mk (Kd.R_lower ho50 (below_size (by repeat (first | (with_reducible first | exact HB.out | apply below_alloc | apply pw_below_drewN | apply below_drew1) | exact HB.out)))); have n2_ := Aside0.mk (below_step (by repeat (first | (with_reducible first | exact HB.out | apply below_alloc | apply pw_below_drewN | apply below_drew1) | exact HB.out)) hb); clear HO_9; clear HB; have HO_9 := n0_; have HO227 := n1_; have HB := n2_; clear n0_ n1_ n2_; clear hb ho50; obtain ⟨Ao51, co51, eo51⟩ := Kd.R_slice HO227.out; subst eo51) | ((with_reducible refine gate_callee (f := 19) rfl ?_); refine goesL_ (some 50) rfl rfl Try.func19 (by kernel_rfl) rfl #[.slice Ao51 y225.length co51, .slice (some ⟨go22, 0, none⟩) y224.length co46] rfl (by (try simp only [List.map_toArray, List.map_cons, List.map_nil]); first | done | (rw [show y224.length = t217.length from (Kd.R_reads' HO_9.out).1.symm] <;> rfl) | rfl | (simp only [List.length_drop, List.length_take]; rfl)) ?_; (with_reducible refine (periluneref25_Write.calls kj13 _ _ y225 _ _ y224 t228 _ ?side1 ?side2 ?side3 ?side4 A24.out).mono ?_); (case side1 => repeat (first | exact (Kd.R_reads' HO227.out).2.2 | (with_reducible refine Kd.C_alloc ?_ _) | (with_reducible refine Kd.C_drewN ?_ _) | (with_reducible refine Kd.C_drew ?_))); (case side2 => exact (Kd.R_reads' HO227.out).2.1); (case side3 => repeat (first | exact (Kd.R_reads' HO_9.out).2.2 | (with_reducible refine Kd.C_alloc ?_ _) | (with_reducible refine Kd.C_drewN ?_ _) | (with_reducible refine Kd.C_drew ?_))); (case side4 => rw [show y224.length = t217.length from (Kd.R_reads' HO_9.out).1.symm]; exact (Kd.R_reads' HO_9.out).2.1); rintro e w52 ⟨v229, rfl, ho0, hb⟩; refine ⟨_, rfl, ?_⟩; have n0_ := Aside0.mk (Kd.R_below (by (with_reducible repeat (first | apply Kd.R_alloc | apply Kd.R_drewN | apply Kd.R_drew)); exact HO_9.out) hb); have n1_ := Aside0.mk (Kd.R_elder' (by (with_reducible repeat (first | apply Kd.R_alloc | apply Kd.R_drewN | apply Kd.R_drew)); exact HO227.out) (Kd.R_base ho0) hb); have n2_ := Aside0.mk (Kd.R_lower (Kd.R_new' ho0 (Kd.R_lt (by (with_reducible repeat (first | apply Kd.R_alloc | apply Kd.R_drewN | apply Kd.R_drew)); exact HO227.out))) (below_size (by repeat (first | (with_reducible first | exact HB.out | apply below_alloc | apply pw_below_drewN | apply below_drew1) | exact HB.out)))); have n3_ := Aside0.mk (below_step (by repeat (first | (with_reducible first | exact HB.out | apply below_alloc | apply pw_below_drewN | apply below_drew1) | exact HB.out)) hb); clear HO_9; clear HO227; clear HB; have HO_9 := n0_; have HO227 := n1_; have HO230 := n2_; have HB := n3_; clear n0_ n1_ n2_ n3_; (try clear hb); (try clear hb2); (try clear hk); (try clear hi); (try clear ho0); obtain ⟨Ao53, co53, eo53⟩ := Kd.R_slice HO230.out; subst eo53) | ((with_reducible refine gate_callee (f := 17) rfl ?_); refine goesL_ (some 52) rfl rfl Try.func17 (by kernel_rfl) rfl #[.slice Ao53 t228.length co53, .int .i64 a0] rfl (by (try simp only [List.map_toArray, List.map_cons, List.map_nil]); first | done | rfl | (simp only [List.length_drop, List.length_take]; rfl)) ?_; (with_reducible refine (phase_Get.calls kj13 _ _ t228 a0 t231 t232 _ ?side1 ?side2 A25.out).mono ?_); (case side1 => repeat (first | exact (Kd.R_reads' HO230.out).2.2 | (with_reducible refine Kd.C_alloc ?_ _) | (with_reducible refine Kd.C_drewN ?_ _) | (with_reducible refine Kd.C_drew ?_))); (case side2 => exact (Kd.R_reads' HO230.out).2.1); rintro e w' ⟨rfl, ⟨nd, rfl⟩⟩; refine ⟨_, rfl, ?_⟩))
                      go_ret
                      exact ⟨by first | rfl | (simp [errW_none, errW_some] <;> rfl) | (simp [*, errW_none, errW_some] <;> rfl), by repeat (first | (with_reducible first | exact HB.out | apply below_alloc | apply pw_below_drewN | apply below_drew1) | exact HB.out)⟩
                  · rw [if_neg c23] at H
                    exact absurd H (by simp)
              · rw [if_neg c17] at H
                exact absurd H (by simp)
            · rw [if_neg c16] at H
              exact absurd H (by simp)

/-- THE ONE PURE STATEMENT of perilunelaw25_PhaseDamage: yours. -/
def perilunelaw25_PhaseDamage.Pure : Prop := ∀ (a0 : Int) (a1 : Int) (a2 : Bool) (a3 : Int), (Lit.int .i64 a0).wf = true → (Lit.int .i64 a1).wf = true → (Lit.int .u16 a3).wf = true → ∃ k, perilunelaw25_PhaseDamage.f k a0 a1 a2 a3 = some true
theorem perilunelaw25_PhaseDamage.walk (P : perilunelaw25_PhaseDamage.Pure) (a0 : Int) (a1 : Int) (a2 : Bool) (a3 : Int) (w : World) (w0 : (Lit.int .i64 a0).wf = true) (w1 : (Lit.int .i64 a1).wf = true) (w3 : (Lit.int .u16 a3).wf = true) :
    Calls Try.prog 6 #[.int .i64 a0, .int .i64 a1, .bool a2, .int .u16 a3] w fun e w' => e = .returned (.bool true) ∧ Below w.heap.size w w' := by
  obtain ⟨k, h⟩ := P a0 a1 a2 a3 w0 w1 w3
  refine (perilunelaw25_PhaseDamage.calls k a0 a1 a2 a3 true w h).mono ?_
  rintro e w' ⟨rfl, hd⟩
  exact ⟨rfl, hd⟩

/-! ### perilunelaw25_PhaseHigh: function 7 -/
def perilunelaw25_PhaseHigh.j0 : Nat → Int → Int → List Int → Int → Int → Option (Bool)
  | 0, _, _, _, _, _ => none
  | k + 1, x1, x2, x7, x8, x9 => if (x7.length : Int) > 2000 then (if (IntKind.u64.wrap (wrap64 ((x7.length : Int) - 2000))) = 0 then (none) else (if 0 ≤ (wrap64 (2000 + (wrap64 (Int.tmod (IntKind.u64.wrap (x2)) (IntKind.u64.wrap (wrap64 ((x7.length : Int) - 2000))))))) then (if (wrap64 (2000 + (wrap64 (Int.tmod (IntKind.u64.wrap (x2)) (IntKind.u64.wrap (wrap64 ((x7.length : Int) - 2000))))))) < (x7.length : Int) then ((phase_Get.f k (x7.set ((wrap64 (2000 + (wrap64 (Int.tmod (IntKind.u64.wrap (x2)) (IntKind.u64.wrap (wrap64 ((x7.length : Int) - 2000))))))) : Int).toNat (Go.bits .xor .u16 (rd x7 (wrap64 (2000 + (wrap64 (Int.tmod (IntKind.u64.wrap (x2)) (IntKind.u64.wrap (wrap64 ((x7.length : Int) - 2000)))))))) 32768)) x1).bind fun bt244 => (if x8 = bt244.1 then (if x9 = bt244.2 then ((perilunelaw25_live.f k).bind fun t246 => (some t246)) else (some false)) else (some false))) else (none)) else (none))) else ((phase_Get.f k x7 x1).bind fun bt247 => (if x8 = bt247.1 then (if x9 = bt247.2 then ((perilunelaw25_live.f k).bind fun t249 => (some t249)) else (some false)) else (some false)))
def perilunelaw25_PhaseHigh.f (k : Nat) (a0_0 : Int) (l0_1 : List Int) (a1 : Int) (a2 : Int) : Option (Bool) := (perilunelaw25_memory.f k a0_0 l0_1).bind fun t235 => ((phase_Get.f k t235 a1).bind fun bt238 => (if (t235.length : Int) > 0 then (if (IntKind.u64.wrap ((t235.length : Int))) = 0 then (none) else (if 0 ≤ (wrap64 (Int.tmod (IntKind.u64.wrap (a2)) (IntKind.u64.wrap ((t235.length : Int))))) then (if (wrap64 (Int.tmod (IntKind.u64.wrap (a2)) (IntKind.u64.wrap ((t235.length : Int))))) < (t235.length : Int) then (perilunelaw25_PhaseHigh.j0 k a1 a2 (t235.set ((wrap64 (Int.tmod (IntKind.u64.wrap (a2)) (IntKind.u64.wrap ((t235.length : Int))))) : Int).toNat (Go.bits .xor .u16 (rd t235 (wrap64 (Int.tmod (IntKind.u64.wrap (a2)) (IntKind.u64.wrap ((t235.length : Int)))))) 32768)) bt238.1 bt238.2) else (none)) else (none))) else (perilunelaw25_PhaseHigh.j0 k a1 a2 t235 bt238.1 bt238.2)))
theorem perilunelaw25_PhaseHigh.mono_l : ∀ k, (∀ y0 y1 y2 y3 y4, LeO (perilunelaw25_PhaseHigh.j0 k y0 y1 y2 y3 y4) (perilunelaw25_PhaseHigh.j0 (k + 1) y0 y1 y2 y3 y4))
  | 0 => fun _ _ _ _ _ r h => by simp [perilunelaw25_PhaseHigh.j0] at h
  | k + 1 => by
    have ih0 := perilunelaw25_PhaseHigh.mono_l k
    · intro y0 y1 y2 y3 y4
      unfold perilunelaw25_PhaseHigh.j0
      repeat' first
      | (with_reducible exact ih0 _ _ _ _ _)
      | (with_reducible exact perilunelaw25_live.mono _)
      | (with_reducible exact perilunelaw25_memory.mono _ _ _)
      | (with_reducible exact phase_Get.mono _ _ _)
      | (with_reducible exact LeO.refl _)
      | (with_reducible exact LeO.none _)
      | (with_reducible refine LeO.ite ?_ ?_)
      | (with_reducible refine LeO.bind ?_ (fun _ => ?_))
      | exact ih0 _ _ _ _ _
      | exact perilunelaw25_live.mono _
      | exact perilunelaw25_memory.mono _ _ _
      | exact phase_Get.mono _ _ _
      | exact LeO.none _
      | refine LeO.ite ?_ ?_
      | refine LeO.bind ?_ (fun _ => ?_)
theorem perilunelaw25_PhaseHigh.mono : ∀ a0 a1 a2 a3 k, LeO (perilunelaw25_PhaseHigh.f k a0 a1 a2 a3) (perilunelaw25_PhaseHigh.f (k + 1) a0 a1 a2 a3) := by
  intro a0 a1 a2 a3 k
  have ih0 := perilunelaw25_PhaseHigh.mono_l k
  unfold perilunelaw25_PhaseHigh.f
  repeat' first
      | (with_reducible exact ih0 _ _ _ _ _)
      | (with_reducible exact perilunelaw25_live.mono _)
      | (with_reducible exact perilunelaw25_memory.mono _ _ _)
      | (with_reducible exact phase_Get.mono _ _ _)
      | (with_reducible exact LeO.refl _)
      | (with_reducible exact LeO.none _)
      | (with_reducible refine LeO.ite ?_ ?_)
      | (with_reducible refine LeO.bind ?_ (fun _ => ?_))
      | exact ih0 _ _ _ _ _
      | exact perilunelaw25_live.mono _
      | exact perilunelaw25_memory.mono _ _ _
      | exact phase_Get.mono _ _ _
      | exact LeO.none _
      | refine LeO.ite ?_ ?_
      | refine LeO.bind ?_ (fun _ => ?_)
set_option maxHeartbeats 8000000 in
set_option maxRecDepth 100000 in
theorem perilunelaw25_PhaseHigh.calls (k : Nat) (a0_0 : Int) (A0_1 : Option Addr) (c0_1 : Nat) (l0_1 : List Int) (a1 : Int) (a2 : Int) (r : Bool) (w : World) (hr0_1 : Kd.C (Kd.int .u16) w A0_1 l0_1.length l0_1) (hc0_1 : l0_1.length ≤ c0_1) (h : perilunelaw25_PhaseHigh.f k a0_0 l0_1 a1 a2 = some r) :
    Calls Try.prog 7 #[.agg #[.int .i64 a0_0, .slice A0_1 l0_1.length c0_1], .int .i64 a1, .int .i64 a2] w fun e w' => e = .returned (.bool r) ∧ Below w.heap.size w w' := by
  have hu32 := Try.underlying32
  have HR0_1 := Aside0.mk hr0_1
  have HC0_1 := Aside0.mk hc0_1
  clear hr0_1 hc0_1
  have HB := Aside0.mk (Below.refl w.heap.size w)
  have H : ((perilunelaw25_memory.f k a0_0 l0_1).bind fun t235 => ((phase_Get.f k t235 a1).bind fun bt238 => (if (t235.length : Int) > 0 then (if (IntKind.u64.wrap ((t235.length : Int))) = 0 then (none) else (if 0 ≤ (wrap64 (Int.tmod (IntKind.u64.wrap (a2)) (IntKind.u64.wrap ((t235.length : Int))))) then (if (wrap64 (Int.tmod (IntKind.u64.wrap (a2)) (IntKind.u64.wrap ((t235.length : Int))))) < (t235.length : Int) then (perilunelaw25_PhaseHigh.j0 k a1 a2 (t235.set ((wrap64 (Int.tmod (IntKind.u64.wrap (a2)) (IntKind.u64.wrap ((t235.length : Int))))) : Int).toNat (Go.bits .xor .u16 (rd t235 (wrap64 (Int.tmod (IntKind.u64.wrap (a2)) (IntKind.u64.wrap ((t235.length : Int)))))) 32768)) bt238.1 bt238.2) else (none)) else (none))) else (perilunelaw25_PhaseHigh.j0 k a1 a2 t235 bt238.1 bt238.2)))) = some r := h
  clear h
  replace H := Option.bind_eq_some_iff.mp H
  obtain ⟨t235, A40, H⟩ := H
  replace H : ((phase_Get.f k t235 a1).bind fun bt238 => (if (t235.length : Int) > 0 then (if (IntKind.u64.wrap ((t235.length : Int))) = 0 then (none) else (if 0 ≤ (wrap64 (Int.tmod (IntKind.u64.wrap (a2)) (IntKind.u64.wrap ((t235.length : Int))))) then (if (wrap64 (Int.tmod (IntKind.u64.wrap (a2)) (IntKind.u64.wrap ((t235.length : Int))))) < (t235.length : Int) then (perilunelaw25_PhaseHigh.j0 k a1 a2 (t235.set ((wrap64 (Int.tmod (IntKind.u64.wrap (a2)) (IntKind.u64.wrap ((t235.length : Int))))) : Int).toNat (Go.bits .xor .u16 (rd t235 (wrap64 (Int.tmod (IntKind.u64.wrap (a2)) (IntKind.u64.wrap ((t235.length : Int)))))) 32768)) bt238.1 bt238.2) else (none)) else (none))) else (perilunelaw25_PhaseHigh.j0 k a1 a2 t235 bt238.1 bt238.2))) = some r := H
  have A4 := Aside0.mk A40
  clear A40
  replace H := Option.bind_eq_some_iff.mp H
  obtain ⟨⟨t238, t239⟩, A50, H⟩ := H
  replace H : (if (t235.length : Int) > 0 then (if (IntKind.u64.wrap ((t235.length : Int))) = 0 then (none) else (if 0 ≤ (wrap64 (Int.tmod (IntKind.u64.wrap (a2)) (IntKind.u64.wrap ((t235.length : Int))))) then (if (wrap64 (Int.tmod (IntKind.u64.wrap (a2)) (IntKind.u64.wrap ((t235.length : Int))))) < (t235.length : Int) then (perilunelaw25_PhaseHigh.j0 k a1 a2 (t235.set ((wrap64 (Int.tmod (IntKind.u64.wrap (a2)) (IntKind.u64.wrap ((t235.length : Int))))) : Int).toNat (Go.bits .xor .u16 (rd t235 (wrap64 (Int.tmod (IntKind.u64.wrap (a2)) (IntKind.u64.wrap ((t235.length : Int)))))) 32768)) t238 t239) else (none)) else (none))) else (perilunelaw25_PhaseHigh.j0 k a1 a2 t235 t238 t239)) = some r := H
  have A5 := Aside0.mk A50
  clear A50
  have HC6 := Aside0.mk H
  clear H
  go_enter Try.func7, Try.ntmps7
  go_upto_if 22 with (first | ((with_reducible refine gate_dst (N := 3) rfl ?_); refine box_event ?hg (N := 3) ?hd (cs := #[.int .i64 a0_0, .slice A0_1 l0_1.length c0_1]) (t := 32) ?hr ?_; (case hd => rfl); (case hg => rfl); (case hr => first | (go_simp; done) | (go_simp; rfl)); intro gb234 hg w7 hbox hb; have n0_ := Aside0.mk (below_step (by repeat (first | (with_reducible first | exact HB.out | apply below_alloc | apply pw_below_drewN | apply below_drew1) | exact HB.out)) hb); have n1_ := Aside0.mk (hbox); have n2_ := Aside0.mk ((by rw [hg]; exact (below_size (by repeat (first | (with_reducible first | exact HB.out | apply below_alloc | apply pw_below_drewN | apply below_drew1) | exact HB.out))) : w.heap.size ≤ gb234)); have n3_ := Aside0.mk ((by rw [hg]; exact (below_size (by repeat (first | (with_reducible first | exact HB.out | apply below_alloc | apply pw_below_drewN | apply below_drew1) | exact HB.out))) : w.heap.size ≤ gb234)); clear HB; have HB := n0_; have BK234 := n1_; have GW234 := n2_; have GE234 := n3_; clear n0_ n1_ n2_ n3_; clear hb hbox hg; have hcz8_0 : w7.cell? ⟨gb234, 0, none⟩ = some (.int .i64 a0_0) := (blk_cell BK234.out 0).trans rfl; have hcz8_1 : w7.cell? ⟨gb234, 1, none⟩ = some (.slice A0_1 l0_1.length c0_1) := (blk_cell BK234.out 1).trans rfl; have hfz8_0 := blk_frozen BK234.out 0; have hfz8_1 := blk_frozen BK234.out 1) | ((with_reducible refine gate_callee (f := 16) rfl ?_); refine goesL_ (some 13) rfl rfl Try.func16 (by kernel_rfl) rfl #[.agg #[.int .i64 a0_0, .slice A0_1 l0_1.length c0_1]] rfl (by (try simp only [List.map_toArray, List.map_cons, List.map_nil]); first | done | rfl | (simp only [List.length_drop, List.length_take]; rfl)) ?_; (with_reducible refine (perilunelaw25_memory.calls k a0_0 _ _ l0_1 t235 _ ?side1 ?side2 A4.out).mono ?_); (case side1 => repeat (first | exact (Kd.C_below HR0_1.out HB.out) | (with_reducible refine Kd.C_alloc ?_ _) | (with_reducible refine Kd.C_drewN ?_ _) | (with_reducible refine Kd.C_drew ?_))); (case side2 => exact HC0_1.out); rintro e w9 ⟨v236, rfl, ho0, hb⟩; refine ⟨_, rfl, ?_⟩; have n0_ := Aside0.mk (Kd.R_lower ho0 (below_size (by repeat (first | (with_reducible first | exact HB.out | apply below_alloc | apply pw_below_drewN | apply below_drew1 | refine below_set ?_ GE234.out) | exact HB.out)))); have n1_ := Aside0.mk (blk_below (g := gb234) (o := .cells #[.int .i64 a0_0, .slice A0_1 l0_1.length c0_1] 32 (0, 0)) (by (with_reducible repeat (first | refine blk_drewN ?_ _ | refine blk_drew ?_ | refine blk_alloc ?_ _)); exact BK234.out) hb); have n2_ := Aside0.mk (below_step (by repeat (first | (with_reducible first | exact HB.out | apply below_alloc | apply pw_below_drewN | apply below_drew1 | refine below_set ?_ GE234.out) | exact HB.out)) hb); clear BK234; clear HB; have HO237 := n0_; have BK234 := n1_; have HB := n2_; clear n0_ n1_ n2_; (try clear hb); (try clear hb2); (try clear hk); (try clear hi); (try clear ho0); obtain ⟨Ao10, co10, eo10⟩ := Kd.R_slice HO237.out; subst eo10) | ((with_reducible refine gate_callee (f := 17) rfl ?_); refine goesL_ (some 17) rfl rfl Try.func17 (by kernel_rfl) rfl #[.slice Ao10 t235.length co10, .int .i64 a1] rfl (by (try simp only [List.map_toArray, List.map_cons, List.map_nil]); first | done | rfl | (simp only [List.length_drop, List.length_take]; rfl)) ?_; (with_reducible refine (phase_Get.calls k _ _ t235 a1 t238 t239 _ ?side1 ?side2 A5.out).mono ?_); (case side1 => repeat (first | exact (Kd.R_reads' HO237.out).2.2 | (with_reducible refine Kd.C_alloc ?_ _) | (with_reducible refine Kd.C_drewN ?_ _) | (with_reducible refine Kd.C_drew ?_))); (case side2 => exact (Kd.R_reads' HO237.out).2.1); rintro e w' ⟨rfl, ⟨nd, rfl⟩⟩; refine ⟨_, rfl, ?_⟩))
  (try simp only [Act.put, List.setIfInBounds_toArray, List.set_cons_zero, List.set_cons_succ])
  go_cut [] (fun wc => ∃ (kq : Nat) (x7_5 : List Int), Aside0 (perilunelaw25_PhaseHigh.j0 kq a1 a2 x7_5 t238 t239 = some r) ∧ Aside0 (kq ≤ k) ∧ Aside0 (Kd.R (Kd.int .u16) 37 wc w.heap.size (fun _ => True) (.slice Ao10 t235.length co10) x7_5) ∧ Aside0 (wc.heap[gb234]? = some (.cells #[.int .i64 a0_0, (.slice A0_1 l0_1.length c0_1)] 32 (0, 0))) ∧ Aside0 (Below w.heap.size w wc))
  case first =>
    have HOn := Aside0.mk (Kd.R_drewN HO237.out nd)
    have BKn := Aside0.mk (blk_drewN BK234.out nd)
    have HBn := Aside0.mk (pw_below_drewN HB.out nd)
    clear HO237 BK234 HB
    generalize w9.drewN nd = wz at HOn BKn HBn ⊢
    revert wz
    intro w9 HO237 BK234 HB
    have H := HC6.out
    clear HC6
    by_cases c11 : (t235.length : Int) > 0
    · rw [if_pos c11] at H
      have c11b0 : decide (0 < (t235.length : Int)) = true := decide_eq_true c11
      have c11b1 : decide (0 < t235.length) = true := decide_eq_true (by omega)
      have c11b2 : 0 < t235.length := by omega
      clear c11
      (first | rw [c11b0] | (simp only [i64_w, i32_w]; rw [c11b0]) | rw [c11b1] | skip)
      by_cases c12 : (IntKind.u64.wrap ((t235.length : Int))) = 0
      · rw [if_pos c12] at H
        exact absurd H (by simp)
      · rw [if_neg c12] at H
        have c12b0 : ((IntKind.u64.wrap ((t235.length : Int))) == 0) = false := beq_eq_false_iff_ne.mpr c12
        have c12b1 : ((IntKind.u64.wrap ((t235.length : Int))) != 0) = true := bne_iff_ne.mpr c12
        obtain ⟨ji13, hji13⟩ : ∃ j_ : Int, (wrap64 (Int.tmod (IntKind.u64.wrap (a2)) (IntKind.u64.wrap ((t235.length : Int))))) = j_ := ⟨_, rfl⟩
        replace H : (if 0 ≤ (ji13) then (if (ji13) < (t235.length : Int) then (perilunelaw25_PhaseHigh.j0 k a1 a2 (t235.set ((ji13) : Int).toNat (Go.bits .xor .u16 (rd t235 (ji13)) 32768)) t238 t239) else (none)) else (none)) = some r := by first | (rw [hji13] at H; exact H) | (simp only [hji13] at H ⊢; exact H)
        have hji13w : (IntKind.i64.wrap (Int.tmod (IntKind.u64.wrap (a2)) (IntKind.u64.wrap ((t235.length : Int))))) = ji13 := (i64_w _).trans hji13
        by_cases c14 : 0 ≤ (ji13)
        · rw [if_pos c14] at H
          have c14b0 : decide (0 ≤ (ji13)) = true := decide_eq_true c14
          clear c14
          by_cases c15 : (ji13) < (t235.length : Int)
          · rw [if_pos c15] at H
            have c15b0 : decide ((ji13) < (t235.length : Int)) = true := decide_eq_true c15
            clear c15
            obtain ⟨y241, hy241⟩ : ∃ y_ : List Int, y_ = (t235.set ((ji13) : Int).toNat (Go.bits .xor .u16 (rd t235 (ji13)) 32768)) := ⟨_, rfl⟩
            replace H : (perilunelaw25_PhaseHigh.j0 k a1 a2 y241 t238 t239) = some r := by first | (rw [hy241]; with_reducible exact H) | (have H2_ := (Option.bind_some _ _).symm.trans H; rw [hy241]; with_reducible exact H2_) | (have H2_ := (Option.bind_some _ _).symm.trans H; with_reducible exact H2_) | with_reducible exact H | (rw [hy241]; exact H) | exact H
            have Ny241 := Aside0.mk hy241
            clear hy241
            have H' := Aside0.mk H
            clear H
            have p240 : 0 ≤ ((ji13) : Int) := of_decide_eq_true (by first | (with_reducible assumption) | assumption)
            have q240 : (ji13) < (t235.length : Int) := of_decide_eq_true (by first | (with_reducible assumption) | assumption)
            obtain ⟨ad240, e240, hx240_0⟩ := Kd.at_int (Kd.R_reads' HO237.out).2.2 (ji13) p240 q240
            cases e240
            replace p240 := eq_true p240
            replace q240 := eq_true q240
            have p16 : 0 ≤ ((ji13) : Int) := of_decide_eq_true (by first | (with_reducible assumption) | assumption)
            have q16 : ((ji13) : Int) < ((t235.length : Int) : Int) := of_decide_eq_true (by first | (with_reducible assumption) | assumption)
            obtain ⟨go16, co16, eo16, gb16, gl16, cl16, HG16⟩ := Kd.R_form HO237.out (by omega)
            (first | cases eo16 | (injection eo16 with ea_ en_ ec_; (first | subst ea_ | (injection ea_ with ea_; subst ea_)); subst ec_; clear en_))
            have GB16 := Aside0.mk gb16
            have GG16 := Aside0.mk HG16
            clear gb16 gl16 HG16
            (first | simp only [add_plain] at hx240_0 | skip)
            obtain ⟨hx16_0, hf16_0⟩ := Kd.R_celln 0 HO237.out ((ji13) : Int) p16 q16
            replace p16 := eq_true p16
            replace q16 := eq_true q16
            have HP17 := Kd.R_putg HO237.out ((ji13) : Int) (Go.bits .xor .u16 (rd t235 (ji13)) 32768)
            go_wp2_with (first | ((with_reducible refine gate_store (t := 37) (p := 34) rfl ?_); refine store_event (t := 37) (p := 34) (v := ?vo_w18) (w1 := (w9.setCell ⟨go16, ((ji13) : Int).toNat, none⟩ (.int .u16 (Go.bits .xor .u16 (rd t235 (ji13)) 32768)))) ?hg ?ho ?hn ?hr ?_; (case ho => rfl); (case hg => rfl); (case hn => rfl); (case hr => first | (go_simp; done) | (go_simp; rfl)); intro w18 hw; have hg : w9.grownBy w18 (some go16) := (by rw [hw]; exact HP17.2); have hp_ : Kd.R (Kd.int .u16) 37 w18 w.heap.size (fun _ => True) (.slice (some ⟨go16, 0, none⟩) t235.length co10) y241 := (by rw [hw, Ny241.out]; exact HP17.1); clear HP17; have n0_ := Aside0.mk (blk_grown (g := gb234) (o := .cells #[.int .i64 a0_0, .slice A0_1 l0_1.length c0_1] 32 (0, 0)) (by (with_reducible repeat (first | refine blk_drewN ?_ _ | refine blk_drew ?_ | refine blk_alloc ?_ _)); exact BK234.out) hg (Kd.R_ne HO237.out BK234.out (by decide))); have n1_ := Aside0.mk (hp_); have n2_ := Aside0.mk ((by rw [hw]; exact below_set (HB.out) GB16.out : Below w.heap.size w w18)); clear BK234; clear HO237; clear HB; have BK234 := n0_; have HO237 := n1_; have HB := n2_; clear n0_ n1_ n2_; clear hg hw hp_))
            go_meet
            case rel => exact ⟨_, (y241), H', ⟨by first | omega | exact Nat.le_refl _⟩, ⟨by (with_reducible repeat (first | apply Kd.R_alloc | apply Kd.R_drewN | apply Kd.R_drew)); exact HO237.out⟩, ⟨by (with_reducible repeat (first | refine blk_drewN ?_ _ | refine blk_drew ?_ | refine blk_alloc ?_ _)); exact BK234.out⟩, ⟨by repeat (first | (with_reducible first | exact HB.out | apply below_alloc | apply pw_below_drewN | apply below_drew1 | refine below_set ?_ GE234.out) | exact HB.out)⟩⟩
          · rw [if_neg c15] at H
            exact absurd H (by simp)
        · rw [if_neg c14] at H
          exact absurd H (by simp)
    · rw [if_neg c11] at H
      have c11b0 : decide (0 < (t235.length : Int)) = false := decide_eq_false c11
      have c11b1 : decide (0 < t235.length) = false := decide_eq_false (by omega)
      clear c11
      (first | rw [c11b0] | (simp only [i64_w, i32_w]; rw [c11b0]) | rw [c11b1] | skip)
      have H' := Aside0.mk H
      clear H
      go_wp2
      go_meet
      case rel => exact ⟨_, (t235), H', ⟨by first | omega | exact Nat.le_refl _⟩, ⟨by (with_reducible repeat (first | apply Kd.R_alloc | apply Kd.R_drewN | apply Kd.R_drew)); exact HO237.out⟩, ⟨by (with_reducible repeat (first | refine blk_drewN ?_ _ | refine blk_drew ?_ | refine blk_alloc ?_ _)); exact BK234.out⟩, ⟨by repeat (first | (with_reducible first | exact HB.out | apply below_alloc | apply pw_below_drewN | apply below_drew1 | refine below_set ?_ GE234.out) | exact HB.out)⟩⟩
  case rest =>
    clear HC6
    try clear c1
    try clear p1
    try clear q1
    try clear hx1
    try clear p2
    try clear q2
    try clear hx2
    try clear p6
    try clear c7
    try clear c11
    try clear c11b0
    try clear c11b1
    try clear c11b2
    try clear c12
    try clear c12b0
    try clear c12b1
    try clear c14
    try clear c14b0
    try clear c15
    try clear c15b0
    try clear c16
    try clear p16
    try clear q16
    try clear hx16
    try clear hf16
    try clear c17
    try clear hcz8_0
    try clear hcz8_1
    try clear hfz8_0
    try clear hfz8_1
    try clear hx16_0
    try clear hx240_0
    try clear p16
    try clear p240
    try clear q16
    try clear q240
    obtain ⟨kq, x7_5, HA, HJ5, HO_7, BK234, HB⟩ := hcut
    have hl7_5 := (Kd.R_reads' HO_7.out).1
    rw [hl7_5] at HO_7
    (try simp only [hl7_5])
    (try simp only [hl7_5] at BK234)
    cases kq with
    | zero => exact absurd HA.out (by simp [perilunelaw25_PhaseHigh.j0])
    | succ kj5 =>
      have H := HA.out
      clear HA
      simp only [perilunelaw25_PhaseHigh.j0] at H
      by_cases c19 : (x7_5.length : Int) > 2000
      · rw [if_pos c19] at H
        have c19b0 : decide (2000 < (x7_5.length : Int)) = true := decide_eq_true c19
        have c19b1 : decide (2000 < x7_5.length) = true := decide_eq_true (by omega)
        have c19b2 : 2000 < x7_5.length := by omega
        clear c19
        by_cases c20 : (IntKind.u64.wrap (wrap64 ((x7_5.length : Int) - 2000))) = 0
        · rw [if_pos c20] at H
          exact absurd H (by simp)
        · rw [if_neg c20] at H
          have c20b0 : ((IntKind.u64.wrap (wrap64 ((x7_5.length : Int) - 2000))) == 0) = false := beq_eq_false_iff_ne.mpr c20
          have c20b1 : ((IntKind.u64.wrap (wrap64 ((x7_5.length : Int) - 2000))) != 0) = true := bne_iff_ne.mpr c20
          obtain ⟨ji21, hji21⟩ : ∃ j_ : Int, (wrap64 (2000 + (wrap64 (Int.tmod (IntKind.u64.wrap (a2)) (IntKind.u64.wrap (wrap64 ((x7_5.length : Int) - 2000))))))) = j_ := ⟨_, rfl⟩
          replace H : (if 0 ≤ (ji21) then (if (ji21) < (x7_5.length : Int) then ((phase_Get.f kj5 (x7_5.set ((ji21) : Int).toNat (Go.bits .xor .u16 (rd x7_5 (ji21)) 32768)) a1).bind fun bt244 => (if t238 = bt244.1 then (if t239 = bt244.2 then ((perilunelaw25_live.f kj5).bind fun t246 => (some t246)) else (some false)) else (some false))) else (none)) else (none)) = some r := by first | (rw [hji21] at H; exact H) | (simp only [hji21] at H ⊢; exact H)
          have hji21w : (IntKind.i64.wrap (2000 + (wrap64 (Int.tmod (IntKind.u64.wrap (a2)) (IntKind.u64.wrap (wrap64 ((x7_5.length : Int) - 2000))))))) = ji21 := (i64_w _).trans hji21
          by_cases c22 : 0 ≤ (ji21)
          · rw [if_pos c22] at H
            have c22b0 : decide (0 ≤ (ji21)) = true := decide_eq_true c22
            clear c22
            by_cases c23 : (ji21) < (x7_5.length : Int)
            · rw [if_pos c23] at H
              have c23b0 : decide ((ji21) < (x7_5.length : Int)) = true := decide_eq_true c23
              clear c23
              obtain ⟨y243, hy243⟩ : ∃ y_ : List Int, y_ = (x7_5.set ((ji21) : Int).toNat (Go.bits .xor .u16 (rd x7_5 (ji21)) 32768)) := ⟨_, rfl⟩
              replace H : ((phase_Get.f kj5 y243 a1).bind fun bt244 => (if t238 = bt244.1 then (if t239 = bt244.2 then ((perilunelaw25_live.f kj5).bind fun t246 => (some t246)) else (some false)) else (some false))) = some r := by first | (rw [hy243]; with_reducible exact H) | (have H2_ := (Option.bind_some _ _).symm.trans H; rw [hy243]; with_reducible exact H2_) | (have H2_ := (Option.bind_some _ _).symm.trans H; with_reducible exact H2_) | with_reducible exact H | (rw [hy243]; exact H) | exact H
              have Ny243 := Aside0.mk hy243
              clear hy243
              replace H := Option.bind_eq_some_iff.mp H
              obtain ⟨⟨t244, t245⟩, A250, H⟩ := H
              replace H : (if t238 = t244 then (if t239 = t245 then ((perilunelaw25_live.f kj5).bind fun t246 => (some t246)) else (some false)) else (some false)) = some r := H
              have A25 := Aside0.mk A250
              clear A250
              by_cases c26 : t238 = t244
              · rw [if_pos c26] at H
                have c26b0 : (t238 == t244) = true := beq_iff_eq.mpr c26
                have c26b1 : (t238 != t244) = false := bne_eq_false_iff_eq.mpr c26
                clear c26
                by_cases c27 : t239 = t245
                · rw [if_pos c27] at H
                  have c27b0 : (t239 == t245) = true := beq_iff_eq.mpr c27
                  have c27b1 : (t239 != t245) = false := bne_eq_false_iff_eq.mpr c27
                  clear c27
                  replace H := Option.bind_eq_some_iff.mp H
                  obtain ⟨t246, A280, H⟩ := H
                  replace H : (some t246) = some r := H
                  have A28 := Aside0.mk A280
                  clear A280
                  obtain rfl := Option.some.inj H
                  have p242 : 0 ≤ ((ji21) : Int) := of_decide_eq_true (by first | (with_reducible assumption) | assumption)
                  have q242 : (ji21) < (x7_5.length : Int) := of_decide_eq_true (by first | (with_reducible assumption) | assumption)
                  obtain ⟨ad242, e242, hx242_0⟩ := Kd.at_int (Kd.R_reads' HO_7.out).2.2 (ji21) p242 q242
                  cases e242
                  replace p242 := eq_true p242
                  replace q242 := eq_true q242
                  have p24 : 0 ≤ ((ji21) : Int) := of_decide_eq_true (by first | (with_reducible assumption) | assumption)
                  have q24 : ((ji21) : Int) < ((x7_5.length : Int) : Int) := of_decide_eq_true (by first | (with_reducible assumption) | assumption)
                  obtain ⟨go24, co24, eo24, gb24, gl24, cl24, HG24⟩ := Kd.R_form HO_7.out (by omega)
                  (first | cases eo24 | (injection eo24 with ea_ en_ ec_; (first | subst ea_ | (injection ea_ with ea_; subst ea_)); subst ec_; clear en_))
                  have GB24 := Aside0.mk gb24
                  have GG24 := Aside0.mk HG24
                  clear gb24 gl24 HG24
                  (first | simp only [add_plain] at hx242_0 | skip)
                  obtain ⟨hx24_0, hf24_0⟩ := Kd.R_celln 0 HO_7.out ((ji21) : Int) p24 q24
                  replace p24 := eq_true p24
                  replace q24 := eq_true q24
                  have HP29 := Kd.R_putg HO_7.out ((ji21) : Int) (Go.bits .xor .u16 (rd x7_5 (ji21)) 32768)
                  go_wp2_with (first | ((with_reducible refine gate_store (t := 37) (p := 51) rfl ?_); refine store_event (t := 37) (p := 51) (v := ?vo_w30) (w1 := (wc.setCell ⟨go24, ((ji21) : Int).toNat, none⟩ (.int .u16 (Go.bits .xor .u16 (rd x7_5 (ji21)) 32768)))) ?hg ?ho ?hn ?hr ?_; (case ho => rfl); (case hg => rfl); (case hn => rfl); (case hr => first | (go_simp; done) | (go_simp; rfl)); intro w30 hw; have hg : wc.grownBy w30 (some go24) := (by rw [hw]; exact HP29.2); have hp_ : Kd.R (Kd.int .u16) 37 w30 w.heap.size (fun _ => True) (.slice (some ⟨go24, 0, none⟩) x7_5.length co10) y243 := (by rw [hw, Ny243.out]; exact HP29.1); clear HP29; have n0_ := Aside0.mk (hp_); have n1_ := Aside0.mk (blk_grown (g := gb234) (o := .cells #[.int .i64 a0_0, .slice A0_1 l0_1.length c0_1] 32 (0, 0)) (by (with_reducible repeat (first | refine blk_drewN ?_ _ | refine blk_drew ?_ | refine blk_alloc ?_ _)); exact BK234.out) hg (Kd.R_ne HO_7.out BK234.out (by decide))); have n2_ := Aside0.mk ((by rw [hw]; exact below_set (HB.out) GB24.out : Below w.heap.size w w30)); clear HO_7; clear BK234; clear HB; have HO_7 := n0_; have BK234 := n1_; have HB := n2_; clear n0_ n1_ n2_; clear hg hw hp_) | ((with_reducible refine gate_callee (f := 17) rfl ?_); refine goesL_ (some 55) rfl rfl Try.func17 (by kernel_rfl) rfl #[.slice (some ⟨go24, 0, none⟩) y243.length co10, .int .i64 a1] rfl (by (try simp only [List.map_toArray, List.map_cons, List.map_nil]); first | done | (rw [show y243.length = x7_5.length from (Kd.R_reads' HO_7.out).1.symm] <;> rfl) | rfl | (simp only [List.length_drop, List.length_take]; rfl)) ?_; (with_reducible refine (phase_Get.calls kj5 _ _ y243 a1 t244 t245 _ ?side1 ?side2 A25.out).mono ?_); (case side1 => repeat (first | exact (Kd.R_reads' HO_7.out).2.2 | (with_reducible refine Kd.C_alloc ?_ _) | (with_reducible refine Kd.C_drewN ?_ _) | (with_reducible refine Kd.C_drew ?_))); (case side2 => rw [show y243.length = x7_5.length from (Kd.R_reads' HO_7.out).1.symm]; exact (Kd.R_reads' HO_7.out).2.1); rintro e w' ⟨rfl, ⟨nd, rfl⟩⟩; refine ⟨_, rfl, ?_⟩) | (go_at_call 15; (with_reducible refine (perilunelaw25_live.calls kj5  t246 _ A28.out).mono ?_); rintro e w31 ⟨rfl, hb⟩; have n0_ := Aside0.mk (Kd.R_below (by (with_reducible repeat (first | apply Kd.R_alloc | apply Kd.R_drewN | apply Kd.R_drew)); exact HO_7.out) hb); have n1_ := Aside0.mk (blk_below (g := gb234) (o := .cells #[.int .i64 a0_0, .slice A0_1 l0_1.length c0_1] 32 (0, 0)) (by (with_reducible repeat (first | refine blk_drewN ?_ _ | refine blk_drew ?_ | refine blk_alloc ?_ _)); exact BK234.out) hb); have n2_ := Aside0.mk (below_step (by repeat (first | (with_reducible first | exact HB.out | apply below_alloc | apply pw_below_drewN | apply below_drew1 | refine below_set ?_ GE234.out) | exact HB.out)) hb); clear HO_7; clear BK234; clear HB; have HO_7 := n0_; have BK234 := n1_; have HB := n2_; clear n0_ n1_ n2_; (try clear hb); (try clear hb2); (try clear hk); (try clear hi)))
                  go_ret
                  exact ⟨by first | rfl | (simp [errW_none, errW_some] <;> rfl) | (simp only [← hji21]; first | rfl | (simp [errW_none, errW_some] <;> rfl)) | (simp [*, errW_none, errW_some] <;> rfl), by repeat (first | (with_reducible first | exact HB.out | apply below_alloc | apply pw_below_drewN | apply below_drew1 | refine below_set ?_ GE234.out) | exact HB.out)⟩
                · rw [if_neg c27] at H
                  have c27b0 : (t239 == t245) = false := beq_eq_false_iff_ne.mpr c27
                  have c27b1 : (t239 != t245) = true := bne_iff_ne.mpr c27
                  obtain rfl := Option.some.inj H
                  have p242 : 0 ≤ ((ji21) : Int) := of_decide_eq_true (by first | (with_reducible assumption) | assumption)
                  have q242 : (ji21) < (x7_5.length : Int) := of_decide_eq_true (by first | (with_reducible assumption) | assumption)
                  obtain ⟨ad242, e242, hx242_0⟩ := Kd.at_int (Kd.R_reads' HO_7.out).2.2 (ji21) p242 q242
                  cases e242
                  replace p242 := eq_true p242
                  replace q242 := eq_true q242
                  have p24 : 0 ≤ ((ji21) : Int) := of_decide_eq_true (by first | (with_reducible assumption) | assumption)
                  have q24 : ((ji21) : Int) < ((x7_5.length : Int) : Int) := of_decide_eq_true (by first | (with_reducible assumption) | assumption)
                  obtain ⟨go24, co24, eo24, gb24, gl24, cl24, HG24⟩ := Kd.R_form HO_7.out (by omega)
                  (first | cases eo24 | (injection eo24 with ea_ en_ ec_; (first | subst ea_ | (injection ea_ with ea_; subst ea_)); subst ec_; clear en_))
                  have GB24 := Aside0.mk gb24
                  have GG24 := Aside0.mk HG24
                  clear gb24 gl24 HG24
                  (first | simp only [add_plain] at hx242_0 | skip)
                  obtain ⟨hx24_0, hf24_0⟩ := Kd.R_celln 0 HO_7.out ((ji21) : Int) p24 q24
                  replace p24 := eq_true p24
                  replace q24 := eq_true q24
                  have HP32 := Kd.R_putg HO_7.out ((ji21) : Int) (Go.bits .xor .u16 (rd x7_5 (ji21)) 32768)
                  go_wp2_with (first | ((with_reducible refine gate_store (t := 37) (p := 51) rfl ?_); refine store_event (t := 37) (p := 51) (v := ?vo_w33) (w1 := (wc.setCell ⟨go24, ((ji21) : Int).toNat, none⟩ (.int .u16 (Go.bits .xor .u16 (rd x7_5 (ji21)) 32768)))) ?hg ?ho ?hn ?hr ?_; (case ho => rfl); (case hg => rfl); (case hn => rfl); (case hr => first | (go_simp; done) | (go_simp; rfl)); intro w33 hw; have hg : wc.grownBy w33 (some go24) := (by rw [hw]; exact HP32.2); have hp_ : Kd.R (Kd.int .u16) 37 w33 w.heap.size (fun _ => True) (.slice (some ⟨go24, 0, none⟩) x7_5.length co10) y243 := (by rw [hw, Ny243.out]; exact HP32.1); clear HP32; have n0_ := Aside0.mk (hp_); have n1_ := Aside0.mk (blk_grown (g := gb234) (o := .cells #[.int .i64 a0_0, .slice A0_1 l0_1.length c0_1] 32 (0, 0)) (by (with_reducible repeat (first | refine blk_drewN ?_ _ | refine blk_drew ?_ | refine blk_alloc ?_ _)); exact BK234.out) hg (Kd.R_ne HO_7.out BK234.out (by decide))); have n2_ := Aside0.mk ((by rw [hw]; exact below_set (HB.out) GB24.out : Below w.heap.size w w33)); clear HO_7; clear BK234; clear HB; have HO_7 := n0_; have BK234 := n1_; have HB := n2_; clear n0_ n1_ n2_; clear hg hw hp_) | ((with_reducible refine gate_callee (f := 17) rfl ?_); refine goesL_ (some 55) rfl rfl Try.func17 (by kernel_rfl) rfl #[.slice (some ⟨go24, 0, none⟩) y243.length co10, .int .i64 a1] rfl (by (try simp only [List.map_toArray, List.map_cons, List.map_nil]); first | done | (rw [show y243.length = x7_5.length from (Kd.R_reads' HO_7.out).1.symm] <;> rfl) | rfl | (simp only [List.length_drop, List.length_take]; rfl)) ?_; (with_reducible refine (phase_Get.calls kj5 _ _ y243 a1 t244 t245 _ ?side1 ?side2 A25.out).mono ?_); (case side1 => repeat (first | exact (Kd.R_reads' HO_7.out).2.2 | (with_reducible refine Kd.C_alloc ?_ _) | (with_reducible refine Kd.C_drewN ?_ _) | (with_reducible refine Kd.C_drew ?_))); (case side2 => rw [show y243.length = x7_5.length from (Kd.R_reads' HO_7.out).1.symm]; exact (Kd.R_reads' HO_7.out).2.1); rintro e w' ⟨rfl, ⟨nd, rfl⟩⟩; refine ⟨_, rfl, ?_⟩))
                  go_ret
                  exact ⟨by first | rfl | (simp [errW_none, errW_some] <;> rfl) | (simp only [← hji21]; first | rfl | (simp [errW_none, errW_some] <;> rfl)) | (simp [*, errW_none, errW_some] <;> rfl), by repeat (first | (with_reducible first | exact HB.out | apply below_alloc | apply pw_below_drewN | apply below_drew1 | refine below_set ?_ GE234.out) | exact HB.out)⟩
              · rw [if_neg c26] at H
                have c26b0 : (t238 == t244) = false := beq_eq_false_iff_ne.mpr c26
                have c26b1 : (t238 != t244) = true := bne_iff_ne.mpr c26
                obtain rfl := Option.some.inj H
                have p242 : 0 ≤ ((ji21) : Int) := of_decide_eq_true (by first | (with_reducible assumption) | assumption)
                have q242 : (ji21) < (x7_5.length : Int) := of_decide_eq_true (by first | (with_reducible assumption) | assumption)
                obtain ⟨ad242, e242, hx242_0⟩ := Kd.at_int (Kd.R_reads' HO_7.out).2.2 (ji21) p242 q242
                cases e242
                replace p242 := eq_true p242
                replace q242 := eq_true q242
                have p24 : 0 ≤ ((ji21) : Int) := of_decide_eq_true (by first | (with_reducible assumption) | assumption)
                have q24 : ((ji21) : Int) < ((x7_5.length : Int) : Int) := of_decide_eq_true (by first | (with_reducible assumption) | assumption)
                obtain ⟨go24, co24, eo24, gb24, gl24, cl24, HG24⟩ := Kd.R_form HO_7.out (by omega)
                (first | cases eo24 | (injection eo24 with ea_ en_ ec_; (first | subst ea_ | (injection ea_ with ea_; subst ea_)); subst ec_; clear en_))
                have GB24 := Aside0.mk gb24
                have GG24 := Aside0.mk HG24
                clear gb24 gl24 HG24
                (first | simp only [add_plain] at hx242_0 | skip)
                obtain ⟨hx24_0, hf24_0⟩ := Kd.R_celln 0 HO_7.out ((ji21) : Int) p24 q24
                replace p24 := eq_true p24
                replace q24 := eq_true q24
                have HP34 := Kd.R_putg HO_7.out ((ji21) : Int) (Go.bits .xor .u16 (rd x7_5 (ji21)) 32768)
                go_wp2_with (first | ((with_reducible refine gate_store (t := 37) (p := 51) rfl ?_); refine store_event (t := 37) (p := 51) (v := ?vo_w35) (w1 := (wc.setCell ⟨go24, ((ji21) : Int).toNat, none⟩ (.int .u16 (Go.bits .xor .u16 (rd x7_5 (ji21)) 32768)))) ?hg ?ho ?hn ?hr ?_; (case ho => rfl); (case hg => rfl); (case hn => rfl); (case hr => first | (go_simp; done) | (go_simp; rfl)); intro w35 hw; have hg : wc.grownBy w35 (some go24) := (by rw [hw]; exact HP34.2); have hp_ : Kd.R (Kd.int .u16) 37 w35 w.heap.size (fun _ => True) (.slice (some ⟨go24, 0, none⟩) x7_5.length co10) y243 := (by rw [hw, Ny243.out]; exact HP34.1); clear HP34; have n0_ := Aside0.mk (hp_); have n1_ := Aside0.mk (blk_grown (g := gb234) (o := .cells #[.int .i64 a0_0, .slice A0_1 l0_1.length c0_1] 32 (0, 0)) (by (with_reducible repeat (first | refine blk_drewN ?_ _ | refine blk_drew ?_ | refine blk_alloc ?_ _)); exact BK234.out) hg (Kd.R_ne HO_7.out BK234.out (by decide))); have n2_ := Aside0.mk ((by rw [hw]; exact below_set (HB.out) GB24.out : Below w.heap.size w w35)); clear HO_7; clear BK234; clear HB; have HO_7 := n0_; have BK234 := n1_; have HB := n2_; clear n0_ n1_ n2_; clear hg hw hp_) | ((with_reducible refine gate_callee (f := 17) rfl ?_); refine goesL_ (some 55) rfl rfl Try.func17 (by kernel_rfl) rfl #[.slice (some ⟨go24, 0, none⟩) y243.length co10, .int .i64 a1] rfl (by (try simp only [List.map_toArray, List.map_cons, List.map_nil]); first | done | (rw [show y243.length = x7_5.length from (Kd.R_reads' HO_7.out).1.symm] <;> rfl) | rfl | (simp only [List.length_drop, List.length_take]; rfl)) ?_; (with_reducible refine (phase_Get.calls kj5 _ _ y243 a1 t244 t245 _ ?side1 ?side2 A25.out).mono ?_); (case side1 => repeat (first | exact (Kd.R_reads' HO_7.out).2.2 | (with_reducible refine Kd.C_alloc ?_ _) | (with_reducible refine Kd.C_drewN ?_ _) | (with_reducible refine Kd.C_drew ?_))); (case side2 => rw [show y243.length = x7_5.length from (Kd.R_reads' HO_7.out).1.symm]; exact (Kd.R_reads' HO_7.out).2.1); rintro e w' ⟨rfl, ⟨nd, rfl⟩⟩; refine ⟨_, rfl, ?_⟩))
                go_ret
                exact ⟨by first | rfl | (simp [errW_none, errW_some] <;> rfl) | (simp only [← hji21]; first | rfl | (simp [errW_none, errW_some] <;> rfl)) | (simp [*, errW_none, errW_some] <;> rfl), by repeat (first | (with_reducible first | exact HB.out | apply below_alloc | apply pw_below_drewN | apply below_drew1 | refine below_set ?_ GE234.out) | exact HB.out)⟩
            · rw [if_neg c23] at H
              exact absurd H (by simp)
          · rw [if_neg c22] at H
            exact absurd H (by simp)
      · rw [if_neg c19] at H
        have c19b0 : decide (2000 < (x7_5.length : Int)) = false := decide_eq_false c19
        have c19b1 : decide (2000 < x7_5.length) = false := decide_eq_false (by omega)
        clear c19
        replace H := Option.bind_eq_some_iff.mp H
        obtain ⟨⟨t247, t248⟩, A360, H⟩ := H
        replace H : (if t238 = t247 then (if t239 = t248 then ((perilunelaw25_live.f kj5).bind fun t249 => (some t249)) else (some false)) else (some false)) = some r := H
        have A36 := Aside0.mk A360
        clear A360
        by_cases c37 : t238 = t247
        · rw [if_pos c37] at H
          have c37b0 : (t238 == t247) = true := beq_iff_eq.mpr c37
          have c37b1 : (t238 != t247) = false := bne_eq_false_iff_eq.mpr c37
          clear c37
          by_cases c38 : t239 = t248
          · rw [if_pos c38] at H
            have c38b0 : (t239 == t248) = true := beq_iff_eq.mpr c38
            have c38b1 : (t239 != t248) = false := bne_eq_false_iff_eq.mpr c38
            clear c38
            replace H := Option.bind_eq_some_iff.mp H
            obtain ⟨t249, A390, H⟩ := H
            replace H : (some t249) = some r := H
            have A39 := Aside0.mk A390
            clear A390
            obtain rfl := Option.some.inj H
            go_wp2_with (first | ((with_reducible refine gate_callee (f := 17) rfl ?_); refine goesL_ (some 55) rfl rfl Try.func17 (by kernel_rfl) rfl #[.slice Ao10 x7_5.length co10, .int .i64 a1] rfl (by (try simp only [List.map_toArray, List.map_cons, List.map_nil]); first | done | rfl | (simp only [List.length_drop, List.length_take]; rfl)) ?_; (with_reducible refine (phase_Get.calls kj5 _ _ x7_5 a1 t247 t248 _ ?side1 ?side2 A36.out).mono ?_); (case side1 => repeat (first | exact (Kd.R_reads' HO_7.out).2.2 | (with_reducible refine Kd.C_alloc ?_ _) | (with_reducible refine Kd.C_drewN ?_ _) | (with_reducible refine Kd.C_drew ?_))); (case side2 => exact (Kd.R_reads' HO_7.out).2.1); rintro e w' ⟨rfl, ⟨nd, rfl⟩⟩; refine ⟨_, rfl, ?_⟩) | (go_at_call 15; (with_reducible refine (perilunelaw25_live.calls kj5  t249 _ A39.out).mono ?_); rintro e w40 ⟨rfl, hb⟩; have n0_ := Aside0.mk (Kd.R_below (by (with_reducible repeat (first | apply Kd.R_alloc | apply Kd.R_drewN | apply Kd.R_drew)); exact HO_7.out) hb); have n1_ := Aside0.mk (blk_below (g := gb234) (o := .cells #[.int .i64 a0_0, .slice A0_1 l0_1.length c0_1] 32 (0, 0)) (by (with_reducible repeat (first | refine blk_drewN ?_ _ | refine blk_drew ?_ | refine blk_alloc ?_ _)); exact BK234.out) hb); have n2_ := Aside0.mk (below_step (by repeat (first | (with_reducible first | exact HB.out | apply below_alloc | apply pw_below_drewN | apply below_drew1 | refine below_set ?_ GE234.out) | exact HB.out)) hb); clear HO_7; clear BK234; clear HB; have HO_7 := n0_; have BK234 := n1_; have HB := n2_; clear n0_ n1_ n2_; (try clear hb); (try clear hb2); (try clear hk); (try clear hi)))
            go_ret
            exact ⟨by first | rfl | (simp [errW_none, errW_some] <;> rfl) | (simp [*, errW_none, errW_some] <;> rfl), by repeat (first | (with_reducible first | exact HB.out | apply below_alloc | apply pw_below_drewN | apply below_drew1 | refine below_set ?_ GE234.out) | exact HB.out)⟩
          · rw [if_neg c38] at H
            have c38b0 : (t239 == t248) = false := beq_eq_false_iff_ne.mpr c38
            have c38b1 : (t239 != t248) = true := bne_iff_ne.mpr c38
            obtain rfl := Option.some.inj H
            go_wp2_with (first | ((with_reducible refine gate_callee (f := 17) rfl ?_); refine goesL_ (some 55) rfl rfl Try.func17 (by kernel_rfl) rfl #[.slice Ao10 x7_5.length co10, .int .i64 a1] rfl (by (try simp only [List.map_toArray, List.map_cons, List.map_nil]); first | done | rfl | (simp only [List.length_drop, List.length_take]; rfl)) ?_; (with_reducible refine (phase_Get.calls kj5 _ _ x7_5 a1 t247 t248 _ ?side1 ?side2 A36.out).mono ?_); (case side1 => repeat (first | exact (Kd.R_reads' HO_7.out).2.2 | (with_reducible refine Kd.C_alloc ?_ _) | (with_reducible refine Kd.C_drewN ?_ _) | (with_reducible refine Kd.C_drew ?_))); (case side2 => exact (Kd.R_reads' HO_7.out).2.1); rintro e w' ⟨rfl, ⟨nd, rfl⟩⟩; refine ⟨_, rfl, ?_⟩))
            go_ret
            exact ⟨by first | rfl | (simp [errW_none, errW_some] <;> rfl) | (simp [*, errW_none, errW_some] <;> rfl), by repeat (first | (with_reducible first | exact HB.out | apply below_alloc | apply pw_below_drewN | apply below_drew1 | refine below_set ?_ GE234.out) | exact HB.out)⟩
        · rw [if_neg c37] at H
          have c37b0 : (t238 == t247) = false := beq_eq_false_iff_ne.mpr c37
          have c37b1 : (t238 != t247) = true := bne_iff_ne.mpr c37
          obtain rfl := Option.some.inj H
          go_wp2_with (first | ((with_reducible refine gate_callee (f := 17) rfl ?_); refine goesL_ (some 55) rfl rfl Try.func17 (by kernel_rfl) rfl #[.slice Ao10 x7_5.length co10, .int .i64 a1] rfl (by (try simp only [List.map_toArray, List.map_cons, List.map_nil]); first | done | rfl | (simp only [List.length_drop, List.length_take]; rfl)) ?_; (with_reducible refine (phase_Get.calls kj5 _ _ x7_5 a1 t247 t248 _ ?side1 ?side2 A36.out).mono ?_); (case side1 => repeat (first | exact (Kd.R_reads' HO_7.out).2.2 | (with_reducible refine Kd.C_alloc ?_ _) | (with_reducible refine Kd.C_drewN ?_ _) | (with_reducible refine Kd.C_drew ?_))); (case side2 => exact (Kd.R_reads' HO_7.out).2.1); rintro e w' ⟨rfl, ⟨nd, rfl⟩⟩; refine ⟨_, rfl, ?_⟩))
          go_ret
          exact ⟨by first | rfl | (simp [errW_none, errW_some] <;> rfl) | (simp [*, errW_none, errW_some] <;> rfl), by repeat (first | (with_reducible first | exact HB.out | apply below_alloc | apply pw_below_drewN | apply below_drew1 | refine below_set ?_ GE234.out) | exact HB.out)⟩

-- NOT PRINTED: function 20 (phase_All)

-- NOT PRINTED: function 21 (periluneref25_All)

end Go.Proofs.Ytndcaaklcacnoaa.P
