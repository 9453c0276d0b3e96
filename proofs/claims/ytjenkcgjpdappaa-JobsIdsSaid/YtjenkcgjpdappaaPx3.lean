-- Printed by a session's own program (wip/turnprint.py, wip/myprint.sh) over the translation's print. -- slim -- short -- s4
import Derived.Test.YtjenkcgjpdappaaPx0
namespace Go.Proofs.Ytjenkcgjpdappaa.P
open Go.RowKit Go.Proofs.YtjenkcgjpdappaaW.PrintWords Go.Proofs.YtjenkcgjpdappaaW.PrintLast Go.Proofs.YtjenkcgjpdappaaW.PrintMore
attribute [local go_sem] max2_int min2_int max_two min_two max_three min_three max_four min_four   -- for this text's walks alone
set_option linter.unusedVariables false
set_option linter.unusedSimpArgs false

/-! ### jobs_New: function 12 -/
def jobs_New.f  : Option (Bool × Int × Int × Int × Bool × Int × Bool × Int × Int × Int × Bool × Int × Bool × Int × Int × Int × Bool × Int × Bool × Int × Int × Int × Bool × Int × Bool × Int × Int × Int × Bool × Int × Bool × Int × Int × Int × Bool × Int × Bool × Int × Int × Int × Bool × Int × Int) := some (false, 0, 0, 0, false, 0, false, 0, 0, 0, false, 0, false, 0, 0, 0, false, 0, false, 0, 0, 0, false, 0, false, 0, 0, 0, false, 0, false, 0, 0, 0, false, 0, false, 0, 0, 0, false, 0, 0)
set_option maxHeartbeats 8000000 in
set_option maxRecDepth 100000 in
theorem jobs_New.calls  (r1 : Bool) (r2 : Int) (r3 : Int) (r4 : Int) (r5 : Bool) (r6 : Int) (r7 : Bool) (r8 : Int) (r9 : Int) (r10 : Int) (r11 : Bool) (r12 : Int) (r13 : Bool) (r14 : Int) (r15 : Int) (r16 : Int) (r17 : Bool) (r18 : Int) (r19 : Bool) (r20 : Int) (r21 : Int) (r22 : Int) (r23 : Bool) (r24 : Int) (r25 : Bool) (r26 : Int) (r27 : Int) (r28 : Int) (r29 : Bool) (r30 : Int) (r31 : Bool) (r32 : Int) (r33 : Int) (r34 : Int) (r35 : Bool) (r36 : Int) (r37 : Bool) (r38 : Int) (r39 : Int) (r40 : Int) (r41 : Bool) (r42 : Int) (r43 : Int) (w : World) (h : jobs_New.f  = some (r1, r2, r3, r4, r5, r6, r7, r8, r9, r10, r11, r12, r13, r14, r15, r16, r17, r18, r19, r20, r21, r22, r23, r24, r25, r26, r27, r28, r29, r30, r31, r32, r33, r34, r35, r36, r37, r38, r39, r40, r41, r42, r43)) :
  Calls Try.prog 12 #[] w fun e w' => e = .returned (.agg #[.bool r1, .int .i64 r2, .int .i64 r3, .int .i64 r4, .bool r5, .int .i64 r6, .bool r7, .int .i64 r8, .int .i64 r9, .int .i64 r10, .bool r11, .int .i64 r12, .bool r13, .int .i64 r14, .int .i64 r15, .int .i64 r16, .bool r17, .int .i64 r18, .bool r19, .int .i64 r20, .int .i64 r21, .int .i64 r22, .bool r23, .int .i64 r24, .bool r25, .int .i64 r26, .int .i64 r27, .int .i64 r28, .bool r29, .int .i64 r30, .bool r31, .int .i64 r32, .int .i64 r33, .int .i64 r34, .bool r35, .int .i64 r36, .bool r37, .int .i64 r38, .int .i64 r39, .int .i64 r40, .bool r41, .int .i64 r42, .int .i64 r43]) ∧ Below w.heap.size w w' := by
 have hu27 := Try.underlying27
 have HB := Aside0.mk (Below.refl w.heap.size w)
 have H := h
 unfold jobs_New.f at H
 clear h
 simp only [Option.some.injEq, Prod.mk.injEq] at H
 obtain ⟨rfl, rfl, rfl, rfl, rfl, rfl, rfl, rfl, rfl, rfl, rfl, rfl, rfl, rfl, rfl, rfl, rfl, rfl, rfl, rfl, rfl, rfl, rfl, rfl, rfl, rfl, rfl, rfl, rfl, rfl, rfl, rfl, rfl, rfl, rfl, rfl, rfl, rfl, rfl, rfl, rfl, rfl, rfl⟩ := H
 go_enter Try.func12, Try.ntmps12
 go_wp2_with (first | ((with_reducible refine gate_dst (N := 0) rfl ?_); refine box_event ?hg (N := 0) ?hd (cs := Jt false 0 0 0 false 0 false 0 0 0 false 0 false 0 0 0 false 0 false 0 0 0 false 0 false 0 0 0 false 0 false 0 0 0 false 0 false 0 0 0 false 0 0) (t := 27) ?hr ?_; (case hd => rfl); (case hg => rfl); (case hr => first | (go_simp; done) | (go_simp; rfl)); intro aa hg w1 hbox hb; have ab := Aside0.mk hbox; have GW101 := zhs HB hg; have ad := zhs HB hg; replace HB := zhB HB hb; clear hb hbox hg) | ((with_reducible refine gate_store (t := 27) (p := 0) rfl ?_); refine seg_event (t := 27) (p := 0) (x := ?xo_w2) (g := aa) (off := 0) (T := 27) (cur := Jt false 0 0 0 false 0 false 0 0 0 false 0 false 0 0 0 false 0 false 0 0 0 false 0 false 0 0 0 false 0 false 0 0 0 false 0 false 0 0 0 false 0 0) (vs := Vt false 0 0 0 false 0 false 0 0 0 false 0 false 0 0 0 false 0 false 0 0 0 false 0 false 0 0 0 false 0 false 0 0 0 false 0 false 0 0 0 false 0 0) (new := Jt false 0 0 0 false 0 false 0 0 0 false 0 false 0 0 0 false 0 false 0 0 0 false 0 false 0 0 0 false 0 false 0 0 0 false 0 false 0 0 0 false 0 0) ?hg ?ho ?hn ?hp ?hv ?hb ?hi ?hf ?h1 ?hw ?_; (case ho => rfl); (case hg => rfl); (case hn => rfl); (case hp => rfl); (case hv => first | rfl | (go_simp; done) | (simp [*]; done)); (case hb => exact (zbo ab)); (case hi => kernel_rfl); (case hf => exact Nat.le_of_ble_eq_true rfl); (case h1 => rfl); (case hw => rfl); intro w2 hbox hg hbl; replace ab := Aside0.mk hbox; replace HB := zhL hbl HB ad; clear hbox hg hbl))
 refine bodyPost_ret (results_cell_row rfl _ _ aa 27 #[.bool false, .int .i64 0, .int .i64 0, .int .i64 0, .bool false, .int .i64 0, .bool false, .int .i64 0, .int .i64 0, .int .i64 0, .bool false, .int .i64 0, .bool false, .int .i64 0, .int .i64 0, .int .i64 0, .bool false, .int .i64 0, .bool false, .int .i64 0, .int .i64 0, .int .i64 0, .bool false, .int .i64 0, .bool false, .int .i64 0, .int .i64 0, .int .i64 0, .bool false, .int .i64 0, .bool false, .int .i64 0, .int .i64 0, .int .i64 0, .bool false, .int .i64 0, .bool false, .int .i64 0, .int .i64 0, .int .i64 0, .bool false, .int .i64 0, .int .i64 0] (0, 0) _ rfl (zbo ab) Try.underlying27 rfl (by kernel_rfl)) rfl ?_
 exact ⟨by first | rfl | (simp [errW_none, errW_some] <;> rfl) | (simp [*, errW_none, errW_some] <;> rfl), zho HB⟩

/-! ### jobs_fits: function 39 -/
def jobs_fits.j0 : Nat → Int → Int → Bool → Option (Bool)
 | 0, _, _, _ => none
 | k + 1, x1, x2, x12 => if x12 = true then (some false) else (if x1 = 0 then (if x2 ≥ 1 then (some (decide (x2 ≤ 1073741824))) else (some false)) else (if x1 < 0 then (some false) else (if x1 > 6 then (some false) else (some (x2 == 0)))))
def jobs_fits.f (k : Nat) (a0 : Int) (a1 : Int) (a2 : Int) : Option (Bool) := if a0 < 1 then (jobs_fits.j0 k a1 a2 true) else (jobs_fits.j0 k a1 a2 (decide (a0 > 63)))
theorem jobs_fits.mono_l : ∀ k, (∀ y0 y1 y2, LeO (jobs_fits.j0 k y0 y1 y2) (jobs_fits.j0 (k + 1) y0 y1 y2))
 | 0 => fun _ _ _ r h => by simp [jobs_fits.j0] at h
 | k + 1 => by
  have ih0 := jobs_fits.mono_l k
  ·intro y0 y1 y2
   unfold jobs_fits.j0
   repeat' first
   | (with_reducible exact ih0 _ _ _)
   | (with_reducible exact LeO.refl _)
   | (with_reducible exact LeO.none _)
   | (with_reducible refine LeO.ite ?_ ?_)
   | (with_reducible refine LeO.bind ?_ (fun _ => ?_))
   | exact ih0 _ _ _
   | exact LeO.none _
   | refine LeO.ite ?_ ?_
   | refine LeO.bind ?_ (fun _ => ?_)
theorem jobs_fits.mono : ∀ a0 a1 a2 k, LeO (jobs_fits.f k a0 a1 a2) (jobs_fits.f (k + 1) a0 a1 a2) := by
 intro a0 a1 a2 k
 have ih0 := jobs_fits.mono_l k
 unfold jobs_fits.f
 repeat' first
   | (with_reducible exact ih0 _ _ _)
   | (with_reducible exact LeO.refl _)
   | (with_reducible exact LeO.none _)
   | (with_reducible refine LeO.ite ?_ ?_)
   | (with_reducible refine LeO.bind ?_ (fun _ => ?_))
   | exact ih0 _ _ _
   | exact LeO.none _
   | refine LeO.ite ?_ ?_
   | refine LeO.bind ?_ (fun _ => ?_)
set_option maxHeartbeats 8000000 in
set_option maxRecDepth 100000 in
theorem jobs_fits.calls (k : Nat) (a0 : Int) (a1 : Int) (a2 : Int) (r : Bool) (w : World) (h : jobs_fits.f k a0 a1 a2 = some r) :
  Calls Try.prog 39 #[.int .i64 a0, .int .i64 a1, .int .i64 a2] w fun e w' => e = .returned (.bool r) ∧ Drawn0 w w' := by
 have H : (if a0 < 1 then (jobs_fits.j0 k a1 a2 true) else (jobs_fits.j0 k a1 a2 (decide (a0 > 63)))) = some r := h
 clear h
 have HC4 := Aside0.mk H
 clear H
 go_enter Try.func39, Try.ntmps39
 go_upto_region 1 with (fail)
 go_cut [12] (fun v12 wc => ∃ (kq : Nat) (ac : Bool), v12 = .bool ac ∧ Aside0 (jobs_fits.j0 kq a1 a2 ac = some r) ∧ Aside0 (kq ≤ k) ∧ Drawn0 w wc)
 case first =>
  have H := HC4.out
  clear HC4
  by_cases c5 : a0 < 1
  ·rw [if_pos c5] at H
   have c5b0 : decide (a0 < 1) = true := decide_eq_true c5
   clear c5
   (first | rw [c5b0] | (simp only [i64_w, i32_w]; rw [c5b0]) | rw [c5b1] | skip)
   have H' := Aside0.mk H
   clear H
   go_wp2
   go_meet
   case rel => exact ⟨_, (true), (by first | rfl | (simp; done) | (simp [*]; done)), H', ⟨by first | omega | exact Nat.le_refl _⟩, by repeat (first | exact Drawn0.refl _ | apply Drawn0.step)⟩
  ·rw [if_neg c5] at H
   have c5b0 : decide (a0 < 1) = false := decide_eq_false c5
   clear c5
   (first | rw [c5b0] | (simp only [i64_w, i32_w]; rw [c5b0]) | rw [c5b1] | skip)
   have H' := Aside0.mk H
   clear H
   go_wp2
   go_meet
   case rel => exact ⟨_, (decide (a0 > 63)), (by first | rfl | (simp; done) | (simp [*]; done)), H', ⟨by first | omega | exact Nat.le_refl _⟩, by repeat (first | exact Drawn0.refl _ | apply Drawn0.step)⟩
 case rest =>
  clear HC4
  try clear p2 c3 c5 c5b0 c5b1
  obtain ⟨kq, ac, rfl, HA, HJ3, ⟨mc3, rfl⟩⟩ := hcut
  cases kq with
  | zero => exact absurd HA.out (by simp [jobs_fits.j0])
  | succ kj3 =>
   have H := HA.out
   clear HA
   simp only [jobs_fits.j0] at H
   by_cases c6 : ac = true
   ·subst c6
    have H1 : (some false) = some r := by rw [if_pos rfl] at H; exact H
    clear H
    have H := H1
    clear H1
    obtain rfl := Option.some.inj H
    go_wp2
    go_ret
    exact ⟨by first | rfl | (simp; done) | (simp [*]; done), by repeat (first | exact Drawn0.refl _ | apply Drawn0.step)⟩
   ·replace c6 := Bool.eq_false_iff.mpr c6
    subst c6
    have H1 : (if a1 = 0 then (if a2 ≥ 1 then (some (decide (a2 ≤ 1073741824))) else (some false)) else (if a1 < 0 then (some false) else (if a1 > 6 then (some false) else (some (a2 == 0))))) = some r := by rw [if_neg (show ¬ (false = true) by decide)] at H; exact H
    clear H
    have H := H1
    clear H1
    by_cases c7 : a1 = 0
    ·rw [if_pos c7] at H
     have c7b0 : (a1 == 0) = true := beq_iff_eq.mpr c7
     have c7b1 : (a1 != 0) = false := bne_eq_false_iff_eq.mpr c7
     clear c7
     by_cases c8 : a2 ≥ 1
     ·rw [if_pos c8] at H
      have c8b0 : decide (1 ≤ a2) = true := decide_eq_true c8
      clear c8
      obtain rfl := Option.some.inj H
      go_wp2
      go_ret
      exact ⟨by first | rfl | (simp; done) | (simp [*]; done), by repeat (first | exact Drawn0.refl _ | apply Drawn0.step)⟩
     ·rw [if_neg c8] at H
      have c8b0 : decide (1 ≤ a2) = false := decide_eq_false c8
      clear c8
      obtain rfl := Option.some.inj H
      go_wp2
      go_ret
      exact ⟨by first | rfl | (simp; done) | (simp [*]; done), by repeat (first | exact Drawn0.refl _ | apply Drawn0.step)⟩
    ·rw [if_neg c7] at H
     have c7b0 : (a1 == 0) = false := beq_eq_false_iff_ne.mpr c7
     have c7b1 : (a1 != 0) = true := bne_iff_ne.mpr c7
     by_cases c9 : a1 < 0
     ·rw [if_pos c9] at H
      have c9b0 : decide (a1 < 0) = true := decide_eq_true c9
      clear c9
      obtain rfl := Option.some.inj H
      go_wp2
      go_ret
      exact ⟨by first | rfl | (simp; done) | (simp [*]; done), by repeat (first | exact Drawn0.refl _ | apply Drawn0.step)⟩
     ·rw [if_neg c9] at H
      have c9b0 : decide (a1 < 0) = false := decide_eq_false c9
      clear c9
      by_cases c10 : a1 > 6
      ·rw [if_pos c10] at H
       have c10b0 : decide (6 < a1) = true := decide_eq_true c10
       clear c10
       obtain rfl := Option.some.inj H
       go_wp2
       go_ret
       exact ⟨by first | rfl | (simp; done) | (simp [*]; done), by repeat (first | exact Drawn0.refl _ | apply Drawn0.step)⟩
      ·rw [if_neg c10] at H
       have c10b0 : decide (6 < a1) = false := decide_eq_false c10
       clear c10
       obtain rfl := Option.some.inj H
       go_wp2
       go_ret
       exact ⟨by first | rfl | (simp; done) | (simp [*]; done), by repeat (first | exact Drawn0.refl _ | apply Drawn0.step)⟩

end Go.Proofs.Ytjenkcgjpdappaa.P
