-- Printed by a session's own program (wip/turnprint.py, wip/myprint.sh) over the translation's print.
import Derived.Test.YtdncfnlhkacpaaaPx0
import Derived.Test.YtdncfnlhkacpaaaPx2
import Derived.Test.YtdncfnlhkacpaaaPx5
import Derived.Test.YtdncfnlhkacpaaaPx9
import Derived.Test.YtdncfnlhkacpaaaPx10
namespace Go.Proofs.Ytdncfnlhkacpaaa.P
open Go.RowKit Go.Proofs.YtdncfnlhkacpaaaW.PrintWords Go.Proofs.YtdncfnlhkacpaaaW.PrintLast Go.Proofs.YtdncfnlhkacpaaaW.PrintMore
attribute [local go_sem] max2_int min2_int max_two min_two max_three min_three max_four min_four   -- for this text's walks alone
set_option linter.unusedVariables false
set_option linter.unusedSimpArgs false

attribute [local go_sem high] eqA31
/-! ### perilunelaw32_UplinkLocks: function 6 -/
def perilunelaw32_UplinkLocks.j0 : Nat → Int → Bool → Bool → Int → Option (Bool)
  | 0, _, _, _, _ => none
  | k + 1, x1, x75, x365000, x365001 => if x75 = true then (some false) else (if x1 ≥ 32767 then (if (x365000 && (x365001 == x1)) = true then ((perilunelaw32_awake.f k).bind fun t365 => (some t365)) else (some false)) else (if (x365000 && (x365001 == (wrap64 (x1 + 1)))) = true then ((perilunelaw32_awake.f k).bind fun t366 => (some t366)) else (some false)))
def perilunelaw32_UplinkLocks.f (k : Nat) (a0 : Int) (a1 : Int) : Option (Bool) := (uplink_Word.f k (Int.tmod (wrap64 (a0)) 32)).bind fun bt332 => ((uplink_Receive.f k true a1 bt332.1 bt332.2.1 bt332.2.2.1 bt332.2.2.2.1 bt332.2.2.2.2.1 bt332.2.2.2.2.2.1 bt332.2.2.2.2.2.2.1 bt332.2.2.2.2.2.2.2.1 bt332.2.2.2.2.2.2.2.2.1 bt332.2.2.2.2.2.2.2.2.2.1 bt332.2.2.2.2.2.2.2.2.2.2.1 bt332.2.2.2.2.2.2.2.2.2.2.2.1 bt332.2.2.2.2.2.2.2.2.2.2.2.2.1 bt332.2.2.2.2.2.2.2.2.2.2.2.2.2.1 bt332.2.2.2.2.2.2.2.2.2.2.2.2.2.2.1 bt332.2.2.2.2.2.2.2.2.2.2.2.2.2.2.2.1).bind fun bt350 => ((uplink_Receive.f k false a1 bt332.1 bt332.2.1 bt332.2.2.1 bt332.2.2.2.1 bt332.2.2.2.2.1 bt332.2.2.2.2.2.1 bt332.2.2.2.2.2.2.1 bt332.2.2.2.2.2.2.2.1 bt332.2.2.2.2.2.2.2.2.1 bt332.2.2.2.2.2.2.2.2.2.1 bt332.2.2.2.2.2.2.2.2.2.2.1 bt332.2.2.2.2.2.2.2.2.2.2.2.1 bt332.2.2.2.2.2.2.2.2.2.2.2.2.1 bt332.2.2.2.2.2.2.2.2.2.2.2.2.2.1 bt332.2.2.2.2.2.2.2.2.2.2.2.2.2.2.1 bt332.2.2.2.2.2.2.2.2.2.2.2.2.2.2.2.1).bind fun bt355 => ((uplink_Receive.f k false a1 2 0 0 0 0 0 0 0 0 0 0 0 0 0 0 0).bind fun bt360 => (if bt350.2.2.2 = true then (perilunelaw32_UplinkLocks.j0 k a1 true bt360.1 bt360.2.1) else (if bt360.2.2.2 = true then (perilunelaw32_UplinkLocks.j0 k a1 true bt360.1 bt360.2.1) else (if bt355.2.2.2 = true then (if bt355.2.2.1 = (Int.tmod (wrap64 (a0)) 32) then (if (bt355.1 || (!(bt355.2.1 == a1))) = true then (perilunelaw32_UplinkLocks.j0 k a1 true bt360.1 bt360.2.1) else (perilunelaw32_UplinkLocks.j0 k a1 (!(bt350.1 == ((Int.tmod (wrap64 (a0)) 32) != 18)) || (!(bt350.2.1 == a1))) bt360.1 bt360.2.1)) else (perilunelaw32_UplinkLocks.j0 k a1 true bt360.1 bt360.2.1)) else (perilunelaw32_UplinkLocks.j0 k a1 true bt360.1 bt360.2.1)))))))
theorem perilunelaw32_UplinkLocks.mono_l : ∀ k, (∀ y0 y1 y2 y3, LeO (perilunelaw32_UplinkLocks.j0 k y0 y1 y2 y3) (perilunelaw32_UplinkLocks.j0 (k + 1) y0 y1 y2 y3))
  | 0 => fun _ _ _ _ r h => by simp [perilunelaw32_UplinkLocks.j0] at h
  | k + 1 => by
    have ih0 := perilunelaw32_UplinkLocks.mono_l k
    · intro y0 y1 y2 y3
      unfold perilunelaw32_UplinkLocks.j0
      repeat' first
      | (with_reducible exact ih0 _ _ _ _)
      | (with_reducible exact perilunelaw32_awake.mono _)
      | (with_reducible exact uplink_Receive.mono _ _ _ _ _ _ _ _ _ _ _ _ _ _ _ _ _ _ _)
      | (with_reducible exact uplink_Word.mono _ _)
      | (with_reducible exact LeO.refl _)
      | (with_reducible exact LeO.none _)
      | (with_reducible refine LeO.ite ?_ ?_)
      | (with_reducible refine LeO.bind ?_ (fun _ => ?_))
      | exact ih0 _ _ _ _
      | exact perilunelaw32_awake.mono _
      | exact uplink_Receive.mono _ _ _ _ _ _ _ _ _ _ _ _ _ _ _ _ _ _ _
      | exact uplink_Word.mono _ _
      | exact LeO.none _
      | refine LeO.ite ?_ ?_
      | refine LeO.bind ?_ (fun _ => ?_)
theorem perilunelaw32_UplinkLocks.mono : ∀ a0 a1 k, LeO (perilunelaw32_UplinkLocks.f k a0 a1) (perilunelaw32_UplinkLocks.f (k + 1) a0 a1) := by
  intro a0 a1 k
  have ih0 := perilunelaw32_UplinkLocks.mono_l k
  unfold perilunelaw32_UplinkLocks.f
  repeat' first
      | (with_reducible exact ih0 _ _ _ _)
      | (with_reducible exact perilunelaw32_awake.mono _)
      | (with_reducible exact uplink_Receive.mono _ _ _ _ _ _ _ _ _ _ _ _ _ _ _ _ _ _ _)
      | (with_reducible exact uplink_Word.mono _ _)
      | (with_reducible exact LeO.refl _)
      | (with_reducible exact LeO.none _)
      | (with_reducible refine LeO.ite ?_ ?_)
      | (with_reducible refine LeO.bind ?_ (fun _ => ?_))
      | exact ih0 _ _ _ _
      | exact perilunelaw32_awake.mono _
      | exact uplink_Receive.mono _ _ _ _ _ _ _ _ _ _ _ _ _ _ _ _ _ _ _
      | exact uplink_Word.mono _ _
      | exact LeO.none _
      | refine LeO.ite ?_ ?_
      | refine LeO.bind ?_ (fun _ => ?_)
set_option maxHeartbeats 8000000 in
set_option maxRecDepth 100000 in
theorem perilunelaw32_UplinkLocks.calls (k : Nat) (a0 : Int) (a1 : Int) (r : Bool) (w : World) (h : perilunelaw32_UplinkLocks.f k a0 a1 = some r) (hT_ : Aside0 (r = true)) :
    Calls Try.prog 6 #[.int .u8 a0, .int .i64 a1] w fun e w' => e = .returned (.bool r) ∧ Below w.heap.size w w' := by
  have hu22 := Try.underlying22
  have hu31 := Try.underlying31
  have HB := Aside0.mk (Below.refl w.heap.size w)
  have H : ((uplink_Word.f k (Int.tmod (wrap64 (a0)) 32)).bind fun bt332 => ((uplink_Receive.f k true a1 bt332.1 bt332.2.1 bt332.2.2.1 bt332.2.2.2.1 bt332.2.2.2.2.1 bt332.2.2.2.2.2.1 bt332.2.2.2.2.2.2.1 bt332.2.2.2.2.2.2.2.1 bt332.2.2.2.2.2.2.2.2.1 bt332.2.2.2.2.2.2.2.2.2.1 bt332.2.2.2.2.2.2.2.2.2.2.1 bt332.2.2.2.2.2.2.2.2.2.2.2.1 bt332.2.2.2.2.2.2.2.2.2.2.2.2.1 bt332.2.2.2.2.2.2.2.2.2.2.2.2.2.1 bt332.2.2.2.2.2.2.2.2.2.2.2.2.2.2.1 bt332.2.2.2.2.2.2.2.2.2.2.2.2.2.2.2.1).bind fun bt350 => ((uplink_Receive.f k false a1 bt332.1 bt332.2.1 bt332.2.2.1 bt332.2.2.2.1 bt332.2.2.2.2.1 bt332.2.2.2.2.2.1 bt332.2.2.2.2.2.2.1 bt332.2.2.2.2.2.2.2.1 bt332.2.2.2.2.2.2.2.2.1 bt332.2.2.2.2.2.2.2.2.2.1 bt332.2.2.2.2.2.2.2.2.2.2.1 bt332.2.2.2.2.2.2.2.2.2.2.2.1 bt332.2.2.2.2.2.2.2.2.2.2.2.2.1 bt332.2.2.2.2.2.2.2.2.2.2.2.2.2.1 bt332.2.2.2.2.2.2.2.2.2.2.2.2.2.2.1 bt332.2.2.2.2.2.2.2.2.2.2.2.2.2.2.2.1).bind fun bt355 => ((uplink_Receive.f k false a1 2 0 0 0 0 0 0 0 0 0 0 0 0 0 0 0).bind fun bt360 => (if bt350.2.2.2 = true then (perilunelaw32_UplinkLocks.j0 k a1 true bt360.1 bt360.2.1) else (if bt360.2.2.2 = true then (perilunelaw32_UplinkLocks.j0 k a1 true bt360.1 bt360.2.1) else (if bt355.2.2.2 = true then (if bt355.2.2.1 = (Int.tmod (wrap64 (a0)) 32) then (if (bt355.1 || (!(bt355.2.1 == a1))) = true then (perilunelaw32_UplinkLocks.j0 k a1 true bt360.1 bt360.2.1) else (perilunelaw32_UplinkLocks.j0 k a1 (!(bt350.1 == ((Int.tmod (wrap64 (a0)) 32) != 18)) || (!(bt350.2.1 == a1))) bt360.1 bt360.2.1)) else (perilunelaw32_UplinkLocks.j0 k a1 true bt360.1 bt360.2.1)) else (perilunelaw32_UplinkLocks.j0 k a1 true bt360.1 bt360.2.1)))))))) = some r := h
  clear h
  replace H := Option.bind_eq_some_iff.mp H
  obtain ⟨⟨t332, t333, t334, t335, t336, t337, t338, t339, t340, t341, t342, t343, t344, t345, t346, t347, t348⟩, A30, H⟩ := H
  replace H : ((uplink_Receive.f k true a1 t332 t333 t334 t335 t336 t337 t338 t339 t340 t341 t342 t343 t344 t345 t346 t347).bind fun bt350 => ((uplink_Receive.f k false a1 t332 t333 t334 t335 t336 t337 t338 t339 t340 t341 t342 t343 t344 t345 t346 t347).bind fun bt355 => ((uplink_Receive.f k false a1 2 0 0 0 0 0 0 0 0 0 0 0 0 0 0 0).bind fun bt360 => (if bt350.2.2.2 = true then (perilunelaw32_UplinkLocks.j0 k a1 true bt360.1 bt360.2.1) else (if bt360.2.2.2 = true then (perilunelaw32_UplinkLocks.j0 k a1 true bt360.1 bt360.2.1) else (if bt355.2.2.2 = true then (if bt355.2.2.1 = (Int.tmod (wrap64 (a0)) 32) then (if (bt355.1 || (!(bt355.2.1 == a1))) = true then (perilunelaw32_UplinkLocks.j0 k a1 true bt360.1 bt360.2.1) else (perilunelaw32_UplinkLocks.j0 k a1 (!(bt350.1 == ((Int.tmod (wrap64 (a0)) 32) != 18)) || (!(bt350.2.1 == a1))) bt360.1 bt360.2.1)) else (perilunelaw32_UplinkLocks.j0 k a1 true bt360.1 bt360.2.1)) else (perilunelaw32_UplinkLocks.j0 k a1 true bt360.1 bt360.2.1))))))) = some r := H
  have A3 := Aside0.mk A30
  clear A30
  replace H := Option.bind_eq_some_iff.mp H
  obtain ⟨⟨t350, t351, t352, t353⟩, A40, H⟩ := H
  replace H : ((uplink_Receive.f k false a1 t332 t333 t334 t335 t336 t337 t338 t339 t340 t341 t342 t343 t344 t345 t346 t347).bind fun bt355 => ((uplink_Receive.f k false a1 2 0 0 0 0 0 0 0 0 0 0 0 0 0 0 0).bind fun bt360 => (if t353 = true then (perilunelaw32_UplinkLocks.j0 k a1 true bt360.1 bt360.2.1) else (if bt360.2.2.2 = true then (perilunelaw32_UplinkLocks.j0 k a1 true bt360.1 bt360.2.1) else (if bt355.2.2.2 = true then (if bt355.2.2.1 = (Int.tmod (wrap64 (a0)) 32) then (if (bt355.1 || (!(bt355.2.1 == a1))) = true then (perilunelaw32_UplinkLocks.j0 k a1 true bt360.1 bt360.2.1) else (perilunelaw32_UplinkLocks.j0 k a1 (!(t350 == ((Int.tmod (wrap64 (a0)) 32) != 18)) || (!(t351 == a1))) bt360.1 bt360.2.1)) else (perilunelaw32_UplinkLocks.j0 k a1 true bt360.1 bt360.2.1)) else (perilunelaw32_UplinkLocks.j0 k a1 true bt360.1 bt360.2.1)))))) = some r := H
  have A4 := Aside0.mk A40
  clear A40
  replace H := Option.bind_eq_some_iff.mp H
  obtain ⟨⟨t355, t356, t357, t358⟩, A50, H⟩ := H
  replace H : ((uplink_Receive.f k false a1 2 0 0 0 0 0 0 0 0 0 0 0 0 0 0 0).bind fun bt360 => (if t353 = true then (perilunelaw32_UplinkLocks.j0 k a1 true bt360.1 bt360.2.1) else (if bt360.2.2.2 = true then (perilunelaw32_UplinkLocks.j0 k a1 true bt360.1 bt360.2.1) else (if t358 = true then (if t357 = (Int.tmod (wrap64 (a0)) 32) then (if (t355 || (!(t356 == a1))) = true then (perilunelaw32_UplinkLocks.j0 k a1 true bt360.1 bt360.2.1) else (perilunelaw32_UplinkLocks.j0 k a1 (!(t350 == ((Int.tmod (wrap64 (a0)) 32) != 18)) || (!(t351 == a1))) bt360.1 bt360.2.1)) else (perilunelaw32_UplinkLocks.j0 k a1 true bt360.1 bt360.2.1)) else (perilunelaw32_UplinkLocks.j0 k a1 true bt360.1 bt360.2.1))))) = some r := H
  have A5 := Aside0.mk A50
  clear A50
  replace H := Option.bind_eq_some_iff.mp H
  obtain ⟨⟨t360, t361, t362, t363⟩, A60, H⟩ := H
  replace H : (if t353 = true then (perilunelaw32_UplinkLocks.j0 k a1 true t360 t361) else (if t363 = true then (perilunelaw32_UplinkLocks.j0 k a1 true t360 t361) else (if t358 = true then (if t357 = (Int.tmod (wrap64 (a0)) 32) then (if (t355 || (!(t356 == a1))) = true then (perilunelaw32_UplinkLocks.j0 k a1 true t360 t361) else (perilunelaw32_UplinkLocks.j0 k a1 (!(t350 == ((Int.tmod (wrap64 (a0)) 32) != 18)) || (!(t351 == a1))) t360 t361)) else (perilunelaw32_UplinkLocks.j0 k a1 true t360 t361)) else (perilunelaw32_UplinkLocks.j0 k a1 true t360 t361)))) = some r := H
  have A6 := Aside0.mk A60
  clear A60
  have HC7 := Aside0.mk H
  clear H
  go_enter Try.func6, Try.ntmps6
  go_upto_region 6 with (first | ((with_reducible refine gate_callee (f := 11) rfl ?_); refine goesL_ (some 22) rfl rfl Try.func11 (by kernel_rfl) rfl #[.int .i64 (Int.tmod (wrap64 (a0)) 32)] rfl (by (try simp only [List.map_toArray, List.map_cons, List.map_nil]); first | done | rfl | (simp only [List.length_drop, List.length_take]; rfl)) ?_; (with_reducible refine (uplink_Word.calls k (Int.tmod (wrap64 (a0)) 32) t332 t333 t334 t335 t336 t337 t338 t339 t340 t341 t342 t343 t344 t345 t346 t347 t348 _ A3.out).mono ?_); rintro e w8 ⟨rfl, hb⟩; refine ⟨_, rfl, ?_⟩; have n0_ := Aside0.mk (below_step (by repeat (first | (with_reducible first | exact HB.out | apply below_alloc | apply pw_below_drewN | apply below_drew1) | exact HB.out)) hb); clear HB; have HB := n0_; clear n0_; (try clear hb); (try clear hb2); (try clear hk); (try clear hi)) | ((with_reducible refine gate_dst (N := 6) rfl ?_); refine box_event ?hg (N := 6) ?hd (cs := #[.int .u8 0, .int .u8 0, .int .u8 0, .int .u8 0, .int .u8 0, .int .u8 0, .int .u8 0, .int .u8 0, .int .u8 0, .int .u8 0, .int .u8 0, .int .u8 0, .int .u8 0, .int .u8 0, .int .u8 0, .int .u8 0]) (t := 22) ?hr ?_; (case hd => rfl); (case hg => rfl); (case hr => first | (go_simp; done) | (go_simp; rfl)); intro gb349 hg w9 hbox hb; have n0_ := Aside0.mk (below_step (by repeat (first | (with_reducible first | exact HB.out | apply below_alloc | apply pw_below_drewN | apply below_drew1) | exact HB.out)) hb); have n1_ := Aside0.mk (hbox); have n2_ := Aside0.mk ((by rw [hg]; exact (below_size (by repeat (first | (with_reducible first | exact HB.out | apply below_alloc | apply pw_below_drewN | apply below_drew1) | exact HB.out))) : w.heap.size ≤ gb349)); have n3_ := Aside0.mk ((by rw [hg]; exact (below_size (by repeat (first | (with_reducible first | exact HB.out | apply below_alloc | apply pw_below_drewN | apply below_drew1) | exact HB.out))) : w.heap.size ≤ gb349)); clear HB; have HB := n0_; have BK349 := n1_; have GW349 := n2_; have GE349 := n3_; clear n0_ n1_ n2_ n3_; clear hb hbox hg) | ((with_reducible refine gate_store (t := 22) (p := 6) rfl ?_); refine seg_event (t := 22) (p := 6) (x := ?xo_w10) (g := gb349) (off := 0) (T := 22) (cur := #[.int .u8 0, .int .u8 0, .int .u8 0, .int .u8 0, .int .u8 0, .int .u8 0, .int .u8 0, .int .u8 0, .int .u8 0, .int .u8 0, .int .u8 0, .int .u8 0, .int .u8 0, .int .u8 0, .int .u8 0, .int .u8 0]) (vs := [.int .u8 t332, .int .u8 t333, .int .u8 t334, .int .u8 t335, .int .u8 t336, .int .u8 t337, .int .u8 t338, .int .u8 t339, .int .u8 t340, .int .u8 t341, .int .u8 t342, .int .u8 t343, .int .u8 t344, .int .u8 t345, .int .u8 t346, .int .u8 t347]) (new := #[.int .u8 t332, .int .u8 t333, .int .u8 t334, .int .u8 t335, .int .u8 t336, .int .u8 t337, .int .u8 t338, .int .u8 t339, .int .u8 t340, .int .u8 t341, .int .u8 t342, .int .u8 t343, .int .u8 t344, .int .u8 t345, .int .u8 t346, .int .u8 t347]) ?hg ?ho ?hn ?hp ?hv ?hb ?hi ?hf ?h1 ?hw ?_; (case ho => rfl); (case hg => rfl); (case hn => rfl); (case hp => rfl); (case hv => rfl); (case hb => exact (by (with_reducible repeat (first | refine blk_drewN ?_ _ | refine blk_drew ?_ | refine blk_alloc ?_ _)); exact BK349.out)); (case hi => kernel_rfl); (case hf => exact Nat.le_of_ble_eq_true rfl); (case h1 => rfl); (case hw => rfl); intro w10 hbox hg hbl; have n0_ := Aside0.mk (hbox); have n1_ := Aside0.mk (hbl _ _ (by repeat (first | (with_reducible first | exact HB.out | apply below_alloc | apply pw_below_drewN | apply below_drew1 | refine below_set ?_ GE349.out) | exact HB.out)) GE349.out); clear BK349; clear HB; have BK349 := n0_; have HB := n1_; clear n0_ n1_; clear hbox hg hbl) | ((with_reducible refine gate_dst (N := 28) rfl ?_); refine seg_load_on (t := 22) (p := 6) (g := gb349) (off := 0) (T := 22) (cur := #[.int .u8 t332, .int .u8 t333, .int .u8 t334, .int .u8 t335, .int .u8 t336, .int .u8 t337, .int .u8 t338, .int .u8 t339, .int .u8 t340, .int .u8 t341, .int .u8 t342, .int .u8 t343, .int .u8 t344, .int .u8 t345, .int .u8 t346, .int .u8 t347]) (vs := [.int .u8 t332, .int .u8 t333, .int .u8 t334, .int .u8 t335, .int .u8 t336, .int .u8 t337, .int .u8 t338, .int .u8 t339, .int .u8 t340, .int .u8 t341, .int .u8 t342, .int .u8 t343, .int .u8 t344, .int .u8 t345, .int .u8 t346, .int .u8 t347]) ?hg ?ho ?hp ?hb Try.underlying22 ?hd ?hi ?hw ?_; (case ho => rfl); (case hg => first | rfl | (go_simp; done) | (simp [Region.wanted, yielded, *]; done)); (case hp => rfl); (case hb => exact (by (with_reducible repeat (first | refine blk_drewN ?_ _ | refine blk_drew ?_ | refine blk_alloc ?_ _)); exact BK349.out)); (case hd => rfl); (case hi => kernel_rfl); (case hw => rfl)) | ((with_reducible refine gate_callee (f := 16) rfl ?_); refine goesL_ (some 29) rfl rfl Try.func16 (by kernel_rfl) rfl #[.agg #[.bool true, .int .i64 a1], .agg #[.int .u8 t332, .int .u8 t333, .int .u8 t334, .int .u8 t335, .int .u8 t336, .int .u8 t337, .int .u8 t338, .int .u8 t339, .int .u8 t340, .int .u8 t341, .int .u8 t342, .int .u8 t343, .int .u8 t344, .int .u8 t345, .int .u8 t346, .int .u8 t347]] rfl (by (try simp only [List.map_toArray, List.map_cons, List.map_nil]); first | done | rfl | (simp only [List.length_drop, List.length_take]; rfl)) ?_; (with_reducible refine (uplink_Receive.calls k true a1 t332 t333 t334 t335 t336 t337 t338 t339 t340 t341 t342 t343 t344 t345 t346 t347 t350 t351 t352 t353 _ A4.out).mono ?_); rintro e w11 ⟨rfl, hb⟩; refine ⟨_, rfl, ?_⟩; have n0_ := Aside0.mk (blk_below (g := gb349) (o := .cells #[.int .u8 t332, .int .u8 t333, .int .u8 t334, .int .u8 t335, .int .u8 t336, .int .u8 t337, .int .u8 t338, .int .u8 t339, .int .u8 t340, .int .u8 t341, .int .u8 t342, .int .u8 t343, .int .u8 t344, .int .u8 t345, .int .u8 t346, .int .u8 t347] 22 (0, 0)) (by (with_reducible repeat (first | refine blk_drewN ?_ _ | refine blk_drew ?_ | refine blk_alloc ?_ _)); exact BK349.out) hb); have n1_ := Aside0.mk (below_step (by repeat (first | (with_reducible first | exact HB.out | apply below_alloc | apply pw_below_drewN | apply below_drew1 | refine below_set ?_ GE349.out) | exact HB.out)) hb); clear BK349; clear HB; have BK349 := n0_; have HB := n1_; clear n0_ n1_; (try clear hb); (try clear hb2); (try clear hk); (try clear hi)) | ((with_reducible refine gate_dst (N := 8) rfl ?_); refine box_event ?hg (N := 8) ?hd (cs := #[.bool false, .int .i64 0]) (t := 31) ?hr ?_; (case hd => rfl); (case hg => rfl); (case hr => first | (go_simp; done) | (go_simp; rfl)); intro gb354 hg w12 hbox hb; have n0_ := Aside0.mk (blk_below (g := gb349) (o := .cells #[.int .u8 t332, .int .u8 t333, .int .u8 t334, .int .u8 t335, .int .u8 t336, .int .u8 t337, .int .u8 t338, .int .u8 t339, .int .u8 t340, .int .u8 t341, .int .u8 t342, .int .u8 t343, .int .u8 t344, .int .u8 t345, .int .u8 t346, .int .u8 t347] 22 (0, 0)) (by (with_reducible repeat (first | refine blk_drewN ?_ _ | refine blk_drew ?_ | refine blk_alloc ?_ _)); exact BK349.out) hb); have n1_ := Aside0.mk (below_step (by repeat (first | (with_reducible first | exact HB.out | apply below_alloc | apply pw_below_drewN | apply below_drew1 | refine below_set ?_ GE349.out) | exact HB.out)) hb); have n2_ := Aside0.mk (hbox); have n3_ := Aside0.mk ((by rw [hg]; exact (below_size (by repeat (first | (with_reducible first | exact HB.out | apply below_alloc | apply pw_below_drewN | apply below_drew1 | refine below_set ?_ GE349.out) | exact HB.out))) : w.heap.size ≤ gb354)); have n4_ := Aside0.mk ((by rw [hg]; exact (below_size (by repeat (first | (with_reducible first | exact HB.out | apply below_alloc | apply pw_below_drewN | apply below_drew1 | refine below_set ?_ GE349.out) | exact HB.out))) : w.heap.size ≤ gb354)); have n5_ := Aside0.mk ((by rw [hg]; exact Nat.ne_of_lt (blk_lt (g := gb349) (o := .cells #[.int .u8 t332, .int .u8 t333, .int .u8 t334, .int .u8 t335, .int .u8 t336, .int .u8 t337, .int .u8 t338, .int .u8 t339, .int .u8 t340, .int .u8 t341, .int .u8 t342, .int .u8 t343, .int .u8 t344, .int .u8 t345, .int .u8 t346, .int .u8 t347] 22 (0, 0)) (by (with_reducible repeat (first | refine blk_drewN ?_ _ | refine blk_drew ?_ | refine blk_alloc ?_ _)); exact BK349.out)) : gb349 ≠ gb354)); have n6_ := Aside0.mk ((by rw [hg]; exact Nat.ne_of_gt (blk_lt (g := gb349) (o := .cells #[.int .u8 t332, .int .u8 t333, .int .u8 t334, .int .u8 t335, .int .u8 t336, .int .u8 t337, .int .u8 t338, .int .u8 t339, .int .u8 t340, .int .u8 t341, .int .u8 t342, .int .u8 t343, .int .u8 t344, .int .u8 t345, .int .u8 t346, .int .u8 t347] 22 (0, 0)) (by (with_reducible repeat (first | refine blk_drewN ?_ _ | refine blk_drew ?_ | refine blk_alloc ?_ _)); exact BK349.out)) : gb354 ≠ gb349)); clear BK349; clear HB; have BK349 := n0_; have HB := n1_; have BK354 := n2_; have GW354 := n3_; have GE354 := n4_; have NB349_354 := n5_; have NB354_349 := n6_; clear n0_ n1_ n2_ n3_ n4_ n5_ n6_; clear hb hbox hg; have hnb13 := NB354_349.out; have hnc13 := NB349_354.out; have hcz14_0 : w12.cell? ⟨gb354, 0, none⟩ = some (.bool false) := (blk_cell BK354.out 0).trans rfl; have hcz14_1 : w12.cell? ⟨gb354, 1, none⟩ = some (.int .i64 0) := (blk_cell BK354.out 1).trans rfl; have hfz14_0 := blk_frozen BK354.out 0; have hfz14_1 := blk_frozen BK354.out 1) | ((with_reducible refine gate_dst (N := 36) rfl ?_); refine seg_load_on (t := 22) (p := 6) (g := gb349) (off := 0) (T := 22) (cur := #[.int .u8 t332, .int .u8 t333, .int .u8 t334, .int .u8 t335, .int .u8 t336, .int .u8 t337, .int .u8 t338, .int .u8 t339, .int .u8 t340, .int .u8 t341, .int .u8 t342, .int .u8 t343, .int .u8 t344, .int .u8 t345, .int .u8 t346, .int .u8 t347]) (vs := [.int .u8 t332, .int .u8 t333, .int .u8 t334, .int .u8 t335, .int .u8 t336, .int .u8 t337, .int .u8 t338, .int .u8 t339, .int .u8 t340, .int .u8 t341, .int .u8 t342, .int .u8 t343, .int .u8 t344, .int .u8 t345, .int .u8 t346, .int .u8 t347]) ?hg ?ho ?hp ?hb Try.underlying22 ?hd ?hi ?hw ?_; (case ho => rfl); (case hg => first | rfl | (go_simp; done) | (simp [Region.wanted, yielded, *]; done)); (case hp => rfl); (case hb => exact (by (with_reducible repeat (first | refine blk_drewN ?_ _ | refine blk_drew ?_ | refine blk_alloc ?_ _)); refine blk_far ?_ NB349_354.out _; (with_reducible repeat (first | refine blk_drewN ?_ _ | refine blk_drew ?_ | refine blk_alloc ?_ _)); refine blk_far ?_ NB349_354.out _; (with_reducible repeat (first | refine blk_drewN ?_ _ | refine blk_drew ?_ | refine blk_alloc ?_ _)); exact BK349.out)); (case hd => rfl); (case hi => kernel_rfl); (case hw => rfl)) | ((with_reducible refine gate_callee (f := 16) rfl ?_); refine goesL_ (some 37) rfl rfl Try.func16 (by kernel_rfl) rfl #[.agg #[.bool false, .int .i64 a1], .agg #[.int .u8 t332, .int .u8 t333, .int .u8 t334, .int .u8 t335, .int .u8 t336, .int .u8 t337, .int .u8 t338, .int .u8 t339, .int .u8 t340, .int .u8 t341, .int .u8 t342, .int .u8 t343, .int .u8 t344, .int .u8 t345, .int .u8 t346, .int .u8 t347]] rfl (by (try simp only [List.map_toArray, List.map_cons, List.map_nil]); first | done | rfl | (simp only [List.length_drop, List.length_take]; rfl)) ?_; (with_reducible refine (uplink_Receive.calls k false a1 t332 t333 t334 t335 t336 t337 t338 t339 t340 t341 t342 t343 t344 t345 t346 t347 t355 t356 t357 t358 _ A5.out).mono ?_); rintro e w15 ⟨rfl, hb⟩; refine ⟨_, rfl, ?_⟩; have n0_ := Aside0.mk (blk_below (g := gb349) (o := .cells #[.int .u8 t332, .int .u8 t333, .int .u8 t334, .int .u8 t335, .int .u8 t336, .int .u8 t337, .int .u8 t338, .int .u8 t339, .int .u8 t340, .int .u8 t341, .int .u8 t342, .int .u8 t343, .int .u8 t344, .int .u8 t345, .int .u8 t346, .int .u8 t347] 22 (0, 0)) (by (with_reducible repeat (first | refine blk_drewN ?_ _ | refine blk_drew ?_ | refine blk_alloc ?_ _)); refine blk_far ?_ NB349_354.out _; (with_reducible repeat (first | refine blk_drewN ?_ _ | refine blk_drew ?_ | refine blk_alloc ?_ _)); refine blk_far ?_ NB349_354.out _; (with_reducible repeat (first | refine blk_drewN ?_ _ | refine blk_drew ?_ | refine blk_alloc ?_ _)); exact BK349.out) hb); have n1_ := Aside0.mk (blk_below (g := gb354) (o := .cells #[.bool t350, .int .i64 t351] 31 (0, 0)) (by (with_reducible repeat (first | refine blk_drewN ?_ _ | refine blk_drew ?_ | refine blk_alloc ?_ _)); refine blk_put (cs := #[.bool t350, .int .i64 0]) ?_ (1) _ rfl; (with_reducible repeat (first | refine blk_drewN ?_ _ | refine blk_drew ?_ | refine blk_alloc ?_ _)); refine blk_put (cs := #[.bool false, .int .i64 0]) ?_ (0) _ rfl; (with_reducible repeat (first | refine blk_drewN ?_ _ | refine blk_drew ?_ | refine blk_alloc ?_ _)); exact BK354.out) hb); have n2_ := Aside0.mk (below_step (by repeat (first | (with_reducible first | exact HB.out | apply below_alloc | apply pw_below_drewN | apply below_drew1 | refine below_set ?_ GE349.out | refine below_set ?_ GE354.out) | exact HB.out)) hb); clear BK349; clear BK354; clear HB; have BK349 := n0_; have BK354 := n1_; have HB := n2_; clear n0_ n1_ n2_; (try clear hb); (try clear hb2); (try clear hk); (try clear hi)) | ((with_reducible refine gate_dst (N := 11) rfl ?_); refine box_event ?hg (N := 11) ?hd (cs := #[.bool false, .int .i64 0]) (t := 31) ?hr ?_; (case hd => rfl); (case hg => rfl); (case hr => first | (go_simp; done) | (go_simp; rfl)); intro gb359 hg w16 hbox hb; have n0_ := Aside0.mk (blk_below (g := gb349) (o := .cells #[.int .u8 t332, .int .u8 t333, .int .u8 t334, .int .u8 t335, .int .u8 t336, .int .u8 t337, .int .u8 t338, .int .u8 t339, .int .u8 t340, .int .u8 t341, .int .u8 t342, .int .u8 t343, .int .u8 t344, .int .u8 t345, .int .u8 t346, .int .u8 t347] 22 (0, 0)) (by (with_reducible repeat (first | refine blk_drewN ?_ _ | refine blk_drew ?_ | refine blk_alloc ?_ _)); exact BK349.out) hb); have n1_ := Aside0.mk (blk_below (g := gb354) (o := .cells #[.bool t350, .int .i64 t351] 31 (0, 0)) (by (with_reducible repeat (first | refine blk_drewN ?_ _ | refine blk_drew ?_ | refine blk_alloc ?_ _)); exact BK354.out) hb); have n2_ := Aside0.mk (below_step (by repeat (first | (with_reducible first | exact HB.out | apply below_alloc | apply pw_below_drewN | apply below_drew1 | refine below_set ?_ GE349.out | refine below_set ?_ GE354.out) | exact HB.out)) hb); have n3_ := Aside0.mk (hbox); have n4_ := Aside0.mk ((by rw [hg]; exact (below_size (by repeat (first | (with_reducible first | exact HB.out | apply below_alloc | apply pw_below_drewN | apply below_drew1 | refine below_set ?_ GE349.out | refine below_set ?_ GE354.out) | exact HB.out))) : w.heap.size ≤ gb359)); have n5_ := Aside0.mk ((by rw [hg]; exact (below_size (by repeat (first | (with_reducible first | exact HB.out | apply below_alloc | apply pw_below_drewN | apply below_drew1 | refine below_set ?_ GE349.out | refine below_set ?_ GE354.out) | exact HB.out))) : w.heap.size ≤ gb359)); have n6_ := Aside0.mk ((by rw [hg]; exact Nat.ne_of_lt (blk_lt (g := gb349) (o := .cells #[.int .u8 t332, .int .u8 t333, .int .u8 t334, .int .u8 t335, .int .u8 t336, .int .u8 t337, .int .u8 t338, .int .u8 t339, .int .u8 t340, .int .u8 t341, .int .u8 t342, .int .u8 t343, .int .u8 t344, .int .u8 t345, .int .u8 t346, .int .u8 t347] 22 (0, 0)) (by (with_reducible repeat (first | refine blk_drewN ?_ _ | refine blk_drew ?_ | refine blk_alloc ?_ _)); exact BK349.out)) : gb349 ≠ gb359)); have n7_ := Aside0.mk ((by rw [hg]; exact Nat.ne_of_gt (blk_lt (g := gb349) (o := .cells #[.int .u8 t332, .int .u8 t333, .int .u8 t334, .int .u8 t335, .int .u8 t336, .int .u8 t337, .int .u8 t338, .int .u8 t339, .int .u8 t340, .int .u8 t341, .int .u8 t342, .int .u8 t343, .int .u8 t344, .int .u8 t345, .int .u8 t346, .int .u8 t347] 22 (0, 0)) (by (with_reducible repeat (first | refine blk_drewN ?_ _ | refine blk_drew ?_ | refine blk_alloc ?_ _)); exact BK349.out)) : gb359 ≠ gb349)); have n8_ := Aside0.mk ((by rw [hg]; exact Nat.ne_of_lt (blk_lt (g := gb354) (o := .cells #[.bool t350, .int .i64 t351] 31 (0, 0)) (by (with_reducible repeat (first | refine blk_drewN ?_ _ | refine blk_drew ?_ | refine blk_alloc ?_ _)); exact BK354.out)) : gb354 ≠ gb359)); have n9_ := Aside0.mk ((by rw [hg]; exact Nat.ne_of_gt (blk_lt (g := gb354) (o := .cells #[.bool t350, .int .i64 t351] 31 (0, 0)) (by (with_reducible repeat (first | refine blk_drewN ?_ _ | refine blk_drew ?_ | refine blk_alloc ?_ _)); exact BK354.out)) : gb359 ≠ gb354)); clear BK349; clear BK354; clear HB; have BK349 := n0_; have BK354 := n1_; have HB := n2_; have BK359 := n3_; have GW359 := n4_; have GE359 := n5_; have NB349_359 := n6_; have NB359_349 := n7_; have NB354_359 := n8_; have NB359_354 := n9_; clear n0_ n1_ n2_ n3_ n4_ n5_ n6_ n7_ n8_ n9_; clear hb hbox hg; have hnb17 := NB359_349.out; have hnc17 := NB349_359.out; have hnb18 := NB359_354.out; have hnc18 := NB354_359.out; have hcz19_0 : w16.cell? ⟨gb359, 0, none⟩ = some (.bool false) := (blk_cell BK359.out 0).trans rfl; have hcz19_1 : w16.cell? ⟨gb359, 1, none⟩ = some (.int .i64 0) := (blk_cell BK359.out 1).trans rfl; have hfz19_0 := blk_frozen BK359.out 0; have hfz19_1 := blk_frozen BK359.out 1) | ((with_reducible refine gate_callee (f := 16) rfl ?_); refine goesL_ (some 45) rfl rfl Try.func16 (by kernel_rfl) rfl #[.agg #[.bool false, .int .i64 a1], .agg #[.int .u8 2, .int .u8 0, .int .u8 0, .int .u8 0, .int .u8 0, .int .u8 0, .int .u8 0, .int .u8 0, .int .u8 0, .int .u8 0, .int .u8 0, .int .u8 0, .int .u8 0, .int .u8 0, .int .u8 0, .int .u8 0]] rfl (by (try simp only [List.map_toArray, List.map_cons, List.map_nil]); first | done | rfl | (simp only [List.length_drop, List.length_take]; rfl)) ?_; (with_reducible refine (uplink_Receive.calls k false a1 2 0 0 0 0 0 0 0 0 0 0 0 0 0 0 0 t360 t361 t362 t363 _ A6.out).mono ?_); rintro e w20 ⟨rfl, hb⟩; refine ⟨_, rfl, ?_⟩; have n0_ := Aside0.mk (blk_below (g := gb349) (o := .cells #[.int .u8 t332, .int .u8 t333, .int .u8 t334, .int .u8 t335, .int .u8 t336, .int .u8 t337, .int .u8 t338, .int .u8 t339, .int .u8 t340, .int .u8 t341, .int .u8 t342, .int .u8 t343, .int .u8 t344, .int .u8 t345, .int .u8 t346, .int .u8 t347] 22 (0, 0)) (by (with_reducible repeat (first | refine blk_drewN ?_ _ | refine blk_drew ?_ | refine blk_alloc ?_ _)); refine blk_far ?_ NB349_359.out _; (with_reducible repeat (first | refine blk_drewN ?_ _ | refine blk_drew ?_ | refine blk_alloc ?_ _)); refine blk_far ?_ NB349_359.out _; (with_reducible repeat (first | refine blk_drewN ?_ _ | refine blk_drew ?_ | refine blk_alloc ?_ _)); exact BK349.out) hb); have n1_ := Aside0.mk (blk_below (g := gb354) (o := .cells #[.bool t350, .int .i64 t351] 31 (0, 0)) (by (with_reducible repeat (first | refine blk_drewN ?_ _ | refine blk_drew ?_ | refine blk_alloc ?_ _)); refine blk_far ?_ NB354_359.out _; (with_reducible repeat (first | refine blk_drewN ?_ _ | refine blk_drew ?_ | refine blk_alloc ?_ _)); refine blk_far ?_ NB354_359.out _; (with_reducible repeat (first | refine blk_drewN ?_ _ | refine blk_drew ?_ | refine blk_alloc ?_ _)); exact BK354.out) hb); have n2_ := Aside0.mk (blk_below (g := gb359) (o := .cells #[.bool t355, .int .i64 t356] 31 (0, 0)) (by (with_reducible repeat (first | refine blk_drewN ?_ _ | refine blk_drew ?_ | refine blk_alloc ?_ _)); refine blk_put (cs := #[.bool t355, .int .i64 0]) ?_ (1) _ rfl; (with_reducible repeat (first | refine blk_drewN ?_ _ | refine blk_drew ?_ | refine blk_alloc ?_ _)); refine blk_put (cs := #[.bool false, .int .i64 0]) ?_ (0) _ rfl; (with_reducible repeat (first | refine blk_drewN ?_ _ | refine blk_drew ?_ | refine blk_alloc ?_ _)); exact BK359.out) hb); have n3_ := Aside0.mk (below_step (by repeat (first | (with_reducible first | exact HB.out | apply below_alloc | apply pw_below_drewN | apply below_drew1 | refine below_set ?_ GE349.out | refine below_set ?_ GE354.out | refine below_set ?_ GE359.out) | exact HB.out)) hb); clear BK349; clear BK354; clear BK359; clear HB; have BK349 := n0_; have BK354 := n1_; have BK359 := n2_; have HB := n3_; clear n0_ n1_ n2_ n3_; (try clear hb); (try clear hb2); (try clear hk); (try clear hi)) | ((with_reducible refine gate_dst (N := 14) rfl ?_); refine box_event ?hg (N := 14) ?hd (cs := #[.bool false, .int .i64 0]) (t := 31) ?hr ?_; (case hd => rfl); (case hg => rfl); (case hr => first | (go_simp; done) | (go_simp; rfl)); intro gb364 hg w21 hbox hb; have n0_ := Aside0.mk (blk_below (g := gb349) (o := .cells #[.int .u8 t332, .int .u8 t333, .int .u8 t334, .int .u8 t335, .int .u8 t336, .int .u8 t337, .int .u8 t338, .int .u8 t339, .int .u8 t340, .int .u8 t341, .int .u8 t342, .int .u8 t343, .int .u8 t344, .int .u8 t345, .int .u8 t346, .int .u8 t347] 22 (0, 0)) (by (with_reducible repeat (first | refine blk_drewN ?_ _ | refine blk_drew ?_ | refine blk_alloc ?_ _)); exact BK349.out) hb); have n1_ := Aside0.mk (blk_below (g := gb354) (o := .cells #[.bool t350, .int .i64 t351] 31 (0, 0)) (by (with_reducible repeat (first | refine blk_drewN ?_ _ | refine blk_drew ?_ | refine blk_alloc ?_ _)); exact BK354.out) hb); have n2_ := Aside0.mk (blk_below (g := gb359) (o := .cells #[.bool t355, .int .i64 t356] 31 (0, 0)) (by (with_reducible repeat (first | refine blk_drewN ?_ _ | refine blk_drew ?_ | refine blk_alloc ?_ _)); exact BK359.out) hb); have n3_ := Aside0.mk (below_step (by repeat (first | (with_reducible first | exact HB.out | apply below_alloc | apply pw_below_drewN | apply below_drew1 | refine below_set ?_ GE349.out | refine below_set ?_ GE354.out | refine below_set ?_ GE359.out) | exact HB.out)) hb); have n4_ := Aside0.mk (hbox); have n5_ := Aside0.mk ((by rw [hg]; exact (below_size (by repeat (first | (with_reducible first | exact HB.out | apply below_alloc | apply pw_below_drewN | apply below_drew1 | refine below_set ?_ GE349.out | refine below_set ?_ GE354.out | refine below_set ?_ GE359.out) | exact HB.out))) : w.heap.size ≤ gb364)); have n6_ := Aside0.mk ((by rw [hg]; exact (below_size (by repeat (first | (with_reducible first | exact HB.out | apply below_alloc | apply pw_below_drewN | apply below_drew1 | refine below_set ?_ GE349.out | refine below_set ?_ GE354.out | refine below_set ?_ GE359.out) | exact HB.out))) : w.heap.size ≤ gb364)); have n7_ := Aside0.mk ((by rw [hg]; exact Nat.ne_of_lt (blk_lt (g := gb349) (o := .cells #[.int .u8 t332, .int .u8 t333, .int .u8 t334, .int .u8 t335, .int .u8 t336, .int .u8 t337, .int .u8 t338, .int .u8 t339, .int .u8 t340, .int .u8 t341, .int .u8 t342, .int .u8 t343, .int .u8 t344, .int .u8 t345, .int .u8 t346, .int .u8 t347] 22 (0, 0)) (by (with_reducible repeat (first | refine blk_drewN ?_ _ | refine blk_drew ?_ | refine blk_alloc ?_ _)); exact BK349.out)) : gb349 ≠ gb364)); have n8_ := Aside0.mk ((by rw [hg]; exact Nat.ne_of_gt (blk_lt (g := gb349) (o := .cells #[.int .u8 t332, .int .u8 t333, .int .u8 t334, .int .u8 t335, .int .u8 t336, .int .u8 t337, .int .u8 t338, .int .u8 t339, .int .u8 t340, .int .u8 t341, .int .u8 t342, .int .u8 t343, .int .u8 t344, .int .u8 t345, .int .u8 t346, .int .u8 t347] 22 (0, 0)) (by (with_reducible repeat (first | refine blk_drewN ?_ _ | refine blk_drew ?_ | refine blk_alloc ?_ _)); exact BK349.out)) : gb364 ≠ gb349)); have n9_ := Aside0.mk ((by rw [hg]; exact Nat.ne_of_lt (blk_lt (g := gb354) (o := .cells #[.bool t350, .int .i64 t351] 31 (0, 0)) (by (with_reducible repeat (first | refine blk_drewN ?_ _ | refine blk_drew ?_ | refine blk_alloc ?_ _)); exact BK354.out)) : gb354 ≠ gb364)); have n10_ := Aside0.mk ((by rw [hg]; exact Nat.ne_of_gt (blk_lt (g := gb354) (o := .cells #[.bool t350, .int .i64 t351] 31 (0, 0)) (by (with_reducible repeat (first | refine blk_drewN ?_ _ | refine blk_drew ?_ | refine blk_alloc ?_ _)); exact BK354.out)) : gb364 ≠ gb354)); have n11_ := Aside0.mk ((by rw [hg]; exact Nat.ne_of_lt (blk_lt (g := gb359) (o := .cells #[.bool t355, .int .i64 t356] 31 (0, 0)) (by (with_reducible repeat (first | refine blk_drewN ?_ _ | refine blk_drew ?_ | refine blk_alloc ?_ _)); exact BK359.out)) : gb359 ≠ gb364)); have n12_ := Aside0.mk ((by rw [hg]; exact Nat.ne_of_gt (blk_lt (g := gb359) (o := .cells #[.bool t355, .int .i64 t356] 31 (0, 0)) (by (with_reducible repeat (first | refine blk_drewN ?_ _ | refine blk_drew ?_ | refine blk_alloc ?_ _)); exact BK359.out)) : gb364 ≠ gb359)); clear BK349; clear BK354; clear BK359; clear HB; have BK349 := n0_; have BK354 := n1_; have BK359 := n2_; have HB := n3_; have BK364 := n4_; have GW364 := n5_; have GE364 := n6_; have NB349_364 := n7_; have NB364_349 := n8_; have NB354_364 := n9_; have NB364_354 := n10_; have NB359_364 := n11_; have NB364_359 := n12_; clear n0_ n1_ n2_ n3_ n4_ n5_ n6_ n7_ n8_ n9_ n10_ n11_ n12_; clear hb hbox hg; have hnb22 := NB364_349.out; have hnc22 := NB349_364.out; have hnb23 := NB364_354.out; have hnc23 := NB354_364.out; have hnb24 := NB364_359.out; have hnc24 := NB359_364.out; have hcz25_0 : w21.cell? ⟨gb364, 0, none⟩ = some (.bool false) := (blk_cell BK364.out 0).trans rfl; have hcz25_1 : w21.cell? ⟨gb364, 1, none⟩ = some (.int .i64 0) := (blk_cell BK364.out 1).trans rfl; have hfz25_0 := blk_frozen BK364.out 0; have hfz25_1 := blk_frozen BK364.out 1))
  (try simp only [Act.put, List.setIfInBounds_toArray, List.set_cons_zero, List.set_cons_succ])
  go_cut [75] (fun v75 wc => ∃ (kq : Nat) (x75_6 : Bool), v75 = .bool x75_6 ∧ Aside0 (perilunelaw32_UplinkLocks.j0 kq a1 x75_6 t360 t361 = some r) ∧ Aside0 (kq ≤ k) ∧ Aside0 (wc.heap[gb349]? = some (.cells #[.int .u8 t332, .int .u8 t333, .int .u8 t334, .int .u8 t335, .int .u8 t336, .int .u8 t337, .int .u8 t338, .int .u8 t339, .int .u8 t340, .int .u8 t341, .int .u8 t342, .int .u8 t343, .int .u8 t344, .int .u8 t345, .int .u8 t346, .int .u8 t347] 22 (0, 0))) ∧ Aside0 (wc.heap[gb354]? = some (.cells #[.bool t350, .int .i64 t351] 31 (0, 0))) ∧ Aside0 (wc.heap[gb359]? = some (.cells #[.bool t355, .int .i64 t356] 31 (0, 0))) ∧ Aside0 (wc.heap[gb364]? = some (.cells #[.bool t360, .int .i64 t361] 31 (0, 0))) ∧ Aside0 (Below w.heap.size w wc))
  case first =>
    have H := HC7.out
    clear HC7
    by_cases c26 : t353 = true
    · subst c26
      have H1 : (perilunelaw32_UplinkLocks.j0 k a1 true t360 t361) = some r := by rw [if_pos rfl] at H; exact H
      clear H
      have H := H1
      clear H1
      have H' := Aside0.mk H
      clear H
      go_wp2
      go_meet
      case rel => exact ⟨_, (true), (by first | rfl | (simp; done) | (simp [*]; done)), H', ⟨by first | omega | exact Nat.le_refl _⟩, ⟨by (with_reducible repeat (first | refine blk_drewN ?_ _ | refine blk_drew ?_ | refine blk_alloc ?_ _)); refine blk_far ?_ NB349_364.out _; (with_reducible repeat (first | refine blk_drewN ?_ _ | refine blk_drew ?_ | refine blk_alloc ?_ _)); refine blk_far ?_ NB349_364.out _; (with_reducible repeat (first | refine blk_drewN ?_ _ | refine blk_drew ?_ | refine blk_alloc ?_ _)); exact BK349.out⟩, ⟨by (with_reducible repeat (first | refine blk_drewN ?_ _ | refine blk_drew ?_ | refine blk_alloc ?_ _)); refine blk_far ?_ NB354_364.out _; (with_reducible repeat (first | refine blk_drewN ?_ _ | refine blk_drew ?_ | refine blk_alloc ?_ _)); refine blk_far ?_ NB354_364.out _; (with_reducible repeat (first | refine blk_drewN ?_ _ | refine blk_drew ?_ | refine blk_alloc ?_ _)); exact BK354.out⟩, ⟨by (with_reducible repeat (first | refine blk_drewN ?_ _ | refine blk_drew ?_ | refine blk_alloc ?_ _)); refine blk_far ?_ NB359_364.out _; (with_reducible repeat (first | refine blk_drewN ?_ _ | refine blk_drew ?_ | refine blk_alloc ?_ _)); refine blk_far ?_ NB359_364.out _; (with_reducible repeat (first | refine blk_drewN ?_ _ | refine blk_drew ?_ | refine blk_alloc ?_ _)); exact BK359.out⟩, ⟨by (with_reducible repeat (first | refine blk_drewN ?_ _ | refine blk_drew ?_ | refine blk_alloc ?_ _)); refine blk_put (cs := #[.bool t360, .int .i64 0]) ?_ (1) _ rfl; (with_reducible repeat (first | refine blk_drewN ?_ _ | refine blk_drew ?_ | refine blk_alloc ?_ _)); refine blk_put (cs := #[.bool false, .int .i64 0]) ?_ (0) _ rfl; (with_reducible repeat (first | refine blk_drewN ?_ _ | refine blk_drew ?_ | refine blk_alloc ?_ _)); exact BK364.out⟩, ⟨by repeat (first | (with_reducible first | exact HB.out | apply below_alloc | apply pw_below_drewN | apply below_drew1 | refine below_set ?_ GE349.out | refine below_set ?_ GE354.out | refine below_set ?_ GE359.out | refine below_set ?_ GE364.out) | exact HB.out)⟩⟩
    · replace c26 := Bool.eq_false_iff.mpr c26
      subst c26
      have H1 : (if t363 = true then (perilunelaw32_UplinkLocks.j0 k a1 true t360 t361) else (if t358 = true then (if t357 = (Int.tmod (wrap64 (a0)) 32) then (if (t355 || (!(t356 == a1))) = true then (perilunelaw32_UplinkLocks.j0 k a1 true t360 t361) else (perilunelaw32_UplinkLocks.j0 k a1 (!(t350 == ((Int.tmod (wrap64 (a0)) 32) != 18)) || (!(t351 == a1))) t360 t361)) else (perilunelaw32_UplinkLocks.j0 k a1 true t360 t361)) else (perilunelaw32_UplinkLocks.j0 k a1 true t360 t361))) = some r := by rw [if_neg (show ¬ (false = true) by decide)] at H; exact H
      clear H
      have H := H1
      clear H1
      by_cases c27 : t363 = true
      · subst c27
        have H1 : (perilunelaw32_UplinkLocks.j0 k a1 true t360 t361) = some r := by rw [if_pos rfl] at H; exact H
        clear H
        have H := H1
        clear H1
        have H' := Aside0.mk H
        clear H
        go_wp2
        go_meet
        case rel => exact ⟨_, (true), (by first | rfl | (simp; done) | (simp [*]; done)), H', ⟨by first | omega | exact Nat.le_refl _⟩, ⟨by (with_reducible repeat (first | refine blk_drewN ?_ _ | refine blk_drew ?_ | refine blk_alloc ?_ _)); refine blk_far ?_ NB349_364.out _; (with_reducible repeat (first | refine blk_drewN ?_ _ | refine blk_drew ?_ | refine blk_alloc ?_ _)); refine blk_far ?_ NB349_364.out _; (with_reducible repeat (first | refine blk_drewN ?_ _ | refine blk_drew ?_ | refine blk_alloc ?_ _)); exact BK349.out⟩, ⟨by (with_reducible repeat (first | refine blk_drewN ?_ _ | refine blk_drew ?_ | refine blk_alloc ?_ _)); refine blk_far ?_ NB354_364.out _; (with_reducible repeat (first | refine blk_drewN ?_ _ | refine blk_drew ?_ | refine blk_alloc ?_ _)); refine blk_far ?_ NB354_364.out _; (with_reducible repeat (first | refine blk_drewN ?_ _ | refine blk_drew ?_ | refine blk_alloc ?_ _)); exact BK354.out⟩, ⟨by (with_reducible repeat (first | refine blk_drewN ?_ _ | refine blk_drew ?_ | refine blk_alloc ?_ _)); refine blk_far ?_ NB359_364.out _; (with_reducible repeat (first | refine blk_drewN ?_ _ | refine blk_drew ?_ | refine blk_alloc ?_ _)); refine blk_far ?_ NB359_364.out _; (with_reducible repeat (first | refine blk_drewN ?_ _ | refine blk_drew ?_ | refine blk_alloc ?_ _)); exact BK359.out⟩, ⟨by (with_reducible repeat (first | refine blk_drewN ?_ _ | refine blk_drew ?_ | refine blk_alloc ?_ _)); refine blk_put (cs := #[.bool t360, .int .i64 0]) ?_ (1) _ rfl; (with_reducible repeat (first | refine blk_drewN ?_ _ | refine blk_drew ?_ | refine blk_alloc ?_ _)); refine blk_put (cs := #[.bool false, .int .i64 0]) ?_ (0) _ rfl; (with_reducible repeat (first | refine blk_drewN ?_ _ | refine blk_drew ?_ | refine blk_alloc ?_ _)); exact BK364.out⟩, ⟨by repeat (first | (with_reducible first | exact HB.out | apply below_alloc | apply pw_below_drewN | apply below_drew1 | refine below_set ?_ GE349.out | refine below_set ?_ GE354.out | refine below_set ?_ GE359.out | refine below_set ?_ GE364.out) | exact HB.out)⟩⟩
      · replace c27 := Bool.eq_false_iff.mpr c27
        subst c27
        have H1 : (if t358 = true then (if t357 = (Int.tmod (wrap64 (a0)) 32) then (if (t355 || (!(t356 == a1))) = true then (perilunelaw32_UplinkLocks.j0 k a1 true t360 t361) else (perilunelaw32_UplinkLocks.j0 k a1 (!(t350 == ((Int.tmod (wrap64 (a0)) 32) != 18)) || (!(t351 == a1))) t360 t361)) else (perilunelaw32_UplinkLocks.j0 k a1 true t360 t361)) else (perilunelaw32_UplinkLocks.j0 k a1 true t360 t361)) = some r := by rw [if_neg (show ¬ (false = true) by decide)] at H; exact H
        clear H
        have H := H1
        clear H1
        by_cases c28 : t358 = true
        · subst c28
          have H1 : (if t357 = (Int.tmod (wrap64 (a0)) 32) then (if (t355 || (!(t356 == a1))) = true then (perilunelaw32_UplinkLocks.j0 k a1 true t360 t361) else (perilunelaw32_UplinkLocks.j0 k a1 (!(t350 == ((Int.tmod (wrap64 (a0)) 32) != 18)) || (!(t351 == a1))) t360 t361)) else (perilunelaw32_UplinkLocks.j0 k a1 true t360 t361)) = some r := by rw [if_pos rfl] at H; exact H
          clear H
          have H := H1
          clear H1
          by_cases c29 : t357 = (Int.tmod (wrap64 (a0)) 32)
          · rw [if_pos c29] at H
            have c29b0 : (t357 == (Int.tmod (wrap64 (a0)) 32)) = true := beq_iff_eq.mpr c29
            have c29b1 : (t357 != (Int.tmod (wrap64 (a0)) 32)) = false := bne_eq_false_iff_eq.mpr c29
            clear c29
            (first | rw [c29b0] | (simp only [i64_w, i32_w]; rw [c29b0]) | rw [c29b1] | skip)
            by_cases c30 : (t355 || (!(t356 == a1))) = true
            · rw [if_pos c30] at H
              have c30b0 : (t355 || (!(t356 == a1))) = true := c30
              clear c30
              have H' := Aside0.mk H
              clear H
              have hnb31 := NB359_349.out
              have hnc31 := NB349_359.out
              have hnb32 := NB359_354.out
              have hnc32 := NB354_359.out
              have hnb33 := NB359_364.out
              have hnc33 := NB364_359.out
              have hcz34_0 : w21.cell? ⟨gb359, 0, none⟩ = some (.bool t355) := (blk_cell BK359.out 0).trans rfl
              have hcz34_1 : w21.cell? ⟨gb359, 1, none⟩ = some (.int .i64 t356) := (blk_cell BK359.out 1).trans rfl
              have hfz34_0 := blk_frozen BK359.out 0
              have hfz34_1 := blk_frozen BK359.out 1
              go_wp2
              go_meet
              case rel => exact ⟨_, (true), (by first | rfl | (simp; done) | (simp [*]; done)), H', ⟨by first | omega | exact Nat.le_refl _⟩, ⟨by (with_reducible repeat (first | refine blk_drewN ?_ _ | refine blk_drew ?_ | refine blk_alloc ?_ _)); refine blk_far ?_ NB349_364.out _; (with_reducible repeat (first | refine blk_drewN ?_ _ | refine blk_drew ?_ | refine blk_alloc ?_ _)); refine blk_far ?_ NB349_364.out _; (with_reducible repeat (first | refine blk_drewN ?_ _ | refine blk_drew ?_ | refine blk_alloc ?_ _)); exact BK349.out⟩, ⟨by (with_reducible repeat (first | refine blk_drewN ?_ _ | refine blk_drew ?_ | refine blk_alloc ?_ _)); refine blk_far ?_ NB354_364.out _; (with_reducible repeat (first | refine blk_drewN ?_ _ | refine blk_drew ?_ | refine blk_alloc ?_ _)); refine blk_far ?_ NB354_364.out _; (with_reducible repeat (first | refine blk_drewN ?_ _ | refine blk_drew ?_ | refine blk_alloc ?_ _)); exact BK354.out⟩, ⟨by (with_reducible repeat (first | refine blk_drewN ?_ _ | refine blk_drew ?_ | refine blk_alloc ?_ _)); refine blk_far ?_ NB359_364.out _; (with_reducible repeat (first | refine blk_drewN ?_ _ | refine blk_drew ?_ | refine blk_alloc ?_ _)); refine blk_far ?_ NB359_364.out _; (with_reducible repeat (first | refine blk_drewN ?_ _ | refine blk_drew ?_ | refine blk_alloc ?_ _)); exact BK359.out⟩, ⟨by (with_reducible repeat (first | refine blk_drewN ?_ _ | refine blk_drew ?_ | refine blk_alloc ?_ _)); refine blk_put (cs := #[.bool t360, .int .i64 0]) ?_ (1) _ rfl; (with_reducible repeat (first | refine blk_drewN ?_ _ | refine blk_drew ?_ | refine blk_alloc ?_ _)); refine blk_put (cs := #[.bool false, .int .i64 0]) ?_ (0) _ rfl; (with_reducible repeat (first | refine blk_drewN ?_ _ | refine blk_drew ?_ | refine blk_alloc ?_ _)); exact BK364.out⟩, ⟨by repeat (first | (with_reducible first | exact HB.out | apply below_alloc | apply pw_below_drewN | apply below_drew1 | refine below_set ?_ GE349.out | refine below_set ?_ GE354.out | refine below_set ?_ GE359.out | refine below_set ?_ GE364.out) | exact HB.out)⟩⟩
            · rw [if_neg c30] at H
              have c30b0 : (t355 || (!(t356 == a1))) = false := by simpa using c30
              clear c30
              have H' := Aside0.mk H
              clear H
              have hnb35 := NB359_349.out
              have hnc35 := NB349_359.out
              have hnb36 := NB359_354.out
              have hnc36 := NB354_359.out
              have hnb37 := NB359_364.out
              have hnc37 := NB364_359.out
              have hcz38_0 : w21.cell? ⟨gb359, 0, none⟩ = some (.bool t355) := (blk_cell BK359.out 0).trans rfl
              have hcz38_1 : w21.cell? ⟨gb359, 1, none⟩ = some (.int .i64 t356) := (blk_cell BK359.out 1).trans rfl
              have hfz38_0 := blk_frozen BK359.out 0
              have hfz38_1 := blk_frozen BK359.out 1
              have hnb39 := NB354_349.out
              have hnc39 := NB349_354.out
              have hnb40 := NB354_364.out
              have hnc40 := NB364_354.out
              have hcz41_0 : w21.cell? ⟨gb354, 0, none⟩ = some (.bool t350) := (blk_cell BK354.out 0).trans rfl
              have hcz41_1 : w21.cell? ⟨gb354, 1, none⟩ = some (.int .i64 t351) := (blk_cell BK354.out 1).trans rfl
              have hfz41_0 := blk_frozen BK354.out 0
              have hfz41_1 := blk_frozen BK354.out 1
              go_wp2
              go_meet
              case rel => exact ⟨_, ((!(t350 == ((Int.tmod (wrap64 (a0)) 32) != 18)) || (!(t351 == a1)))), (by first | rfl | (simp; done) | (simp [*]; done)), H', ⟨by first | omega | exact Nat.le_refl _⟩, ⟨by (with_reducible repeat (first | refine blk_drewN ?_ _ | refine blk_drew ?_ | refine blk_alloc ?_ _)); refine blk_far ?_ NB349_364.out _; (with_reducible repeat (first | refine blk_drewN ?_ _ | refine blk_drew ?_ | refine blk_alloc ?_ _)); refine blk_far ?_ NB349_364.out _; (with_reducible repeat (first | refine blk_drewN ?_ _ | refine blk_drew ?_ | refine blk_alloc ?_ _)); exact BK349.out⟩, ⟨by (with_reducible repeat (first | refine blk_drewN ?_ _ | refine blk_drew ?_ | refine blk_alloc ?_ _)); refine blk_far ?_ NB354_364.out _; (with_reducible repeat (first | refine blk_drewN ?_ _ | refine blk_drew ?_ | refine blk_alloc ?_ _)); refine blk_far ?_ NB354_364.out _; (with_reducible repeat (first | refine blk_drewN ?_ _ | refine blk_drew ?_ | refine blk_alloc ?_ _)); exact BK354.out⟩, ⟨by (with_reducible repeat (first | refine blk_drewN ?_ _ | refine blk_drew ?_ | refine blk_alloc ?_ _)); refine blk_far ?_ NB359_364.out _; (with_reducible repeat (first | refine blk_drewN ?_ _ | refine blk_drew ?_ | refine blk_alloc ?_ _)); refine blk_far ?_ NB359_364.out _; (with_reducible repeat (first | refine blk_drewN ?_ _ | refine blk_drew ?_ | refine blk_alloc ?_ _)); exact BK359.out⟩, ⟨by (with_reducible repeat (first | refine blk_drewN ?_ _ | refine blk_drew ?_ | refine blk_alloc ?_ _)); refine blk_put (cs := #[.bool t360, .int .i64 0]) ?_ (1) _ rfl; (with_reducible repeat (first | refine blk_drewN ?_ _ | refine blk_drew ?_ | refine blk_alloc ?_ _)); refine blk_put (cs := #[.bool false, .int .i64 0]) ?_ (0) _ rfl; (with_reducible repeat (first | refine blk_drewN ?_ _ | refine blk_drew ?_ | refine blk_alloc ?_ _)); exact BK364.out⟩, ⟨by repeat (first | (with_reducible first | exact HB.out | apply below_alloc | apply pw_below_drewN | apply below_drew1 | refine below_set ?_ GE349.out | refine below_set ?_ GE354.out | refine below_set ?_ GE359.out | refine below_set ?_ GE364.out) | exact HB.out)⟩⟩
          · rw [if_neg c29] at H
            have c29b0 : (t357 == (Int.tmod (wrap64 (a0)) 32)) = false := beq_eq_false_iff_ne.mpr c29
            have c29b1 : (t357 != (Int.tmod (wrap64 (a0)) 32)) = true := bne_iff_ne.mpr c29
            (first | rw [c29b0] | (simp only [i64_w, i32_w]; rw [c29b0]) | rw [c29b1] | skip)
            have H' := Aside0.mk H
            clear H
            go_wp2
            go_meet
            case rel => exact ⟨_, (true), (by first | rfl | (simp; done) | (simp [*]; done)), H', ⟨by first | omega | exact Nat.le_refl _⟩, ⟨by (with_reducible repeat (first | refine blk_drewN ?_ _ | refine blk_drew ?_ | refine blk_alloc ?_ _)); refine blk_far ?_ NB349_364.out _; (with_reducible repeat (first | refine blk_drewN ?_ _ | refine blk_drew ?_ | refine blk_alloc ?_ _)); refine blk_far ?_ NB349_364.out _; (with_reducible repeat (first | refine blk_drewN ?_ _ | refine blk_drew ?_ | refine blk_alloc ?_ _)); exact BK349.out⟩, ⟨by (with_reducible repeat (first | refine blk_drewN ?_ _ | refine blk_drew ?_ | refine blk_alloc ?_ _)); refine blk_far ?_ NB354_364.out _; (with_reducible repeat (first | refine blk_drewN ?_ _ | refine blk_drew ?_ | refine blk_alloc ?_ _)); refine blk_far ?_ NB354_364.out _; (with_reducible repeat (first | refine blk_drewN ?_ _ | refine blk_drew ?_ | refine blk_alloc ?_ _)); exact BK354.out⟩, ⟨by (with_reducible repeat (first | refine blk_drewN ?_ _ | refine blk_drew ?_ | refine blk_alloc ?_ _)); refine blk_far ?_ NB359_364.out _; (with_reducible repeat (first | refine blk_drewN ?_ _ | refine blk_drew ?_ | refine blk_alloc ?_ _)); refine blk_far ?_ NB359_364.out _; (with_reducible repeat (first | refine blk_drewN ?_ _ | refine blk_drew ?_ | refine blk_alloc ?_ _)); exact BK359.out⟩, ⟨by (with_reducible repeat (first | refine blk_drewN ?_ _ | refine blk_drew ?_ | refine blk_alloc ?_ _)); refine blk_put (cs := #[.bool t360, .int .i64 0]) ?_ (1) _ rfl; (with_reducible repeat (first | refine blk_drewN ?_ _ | refine blk_drew ?_ | refine blk_alloc ?_ _)); refine blk_put (cs := #[.bool false, .int .i64 0]) ?_ (0) _ rfl; (with_reducible repeat (first | refine blk_drewN ?_ _ | refine blk_drew ?_ | refine blk_alloc ?_ _)); exact BK364.out⟩, ⟨by repeat (first | (with_reducible first | exact HB.out | apply below_alloc | apply pw_below_drewN | apply below_drew1 | refine below_set ?_ GE349.out | refine below_set ?_ GE354.out | refine below_set ?_ GE359.out | refine below_set ?_ GE364.out) | exact HB.out)⟩⟩
        · replace c28 := Bool.eq_false_iff.mpr c28
          subst c28
          have H1 : (perilunelaw32_UplinkLocks.j0 k a1 true t360 t361) = some r := by rw [if_neg (show ¬ (false = true) by decide)] at H; exact H
          clear H
          have H := H1
          clear H1
          have H' := Aside0.mk H
          clear H
          go_wp2
          go_meet
          case rel => exact ⟨_, (true), (by first | rfl | (simp; done) | (simp [*]; done)), H', ⟨by first | omega | exact Nat.le_refl _⟩, ⟨by (with_reducible repeat (first | refine blk_drewN ?_ _ | refine blk_drew ?_ | refine blk_alloc ?_ _)); refine blk_far ?_ NB349_364.out _; (with_reducible repeat (first | refine blk_drewN ?_ _ | refine blk_drew ?_ | refine blk_alloc ?_ _)); refine blk_far ?_ NB349_364.out _; (with_reducible repeat (first | refine blk_drewN ?_ _ | refine blk_drew ?_ | refine blk_alloc ?_ _)); exact BK349.out⟩, ⟨by (with_reducible repeat (first | refine blk_drewN ?_ _ | refine blk_drew ?_ | refine blk_alloc ?_ _)); refine blk_far ?_ NB354_364.out _; (with_reducible repeat (first | refine blk_drewN ?_ _ | refine blk_drew ?_ | refine blk_alloc ?_ _)); refine blk_far ?_ NB354_364.out _; (with_reducible repeat (first | refine blk_drewN ?_ _ | refine blk_drew ?_ | refine blk_alloc ?_ _)); exact BK354.out⟩, ⟨by (with_reducible repeat (first | refine blk_drewN ?_ _ | refine blk_drew ?_ | refine blk_alloc ?_ _)); refine blk_far ?_ NB359_364.out _; (with_reducible repeat (first | refine blk_drewN ?_ _ | refine blk_drew ?_ | refine blk_alloc ?_ _)); refine blk_far ?_ NB359_364.out _; (with_reducible repeat (first | refine blk_drewN ?_ _ | refine blk_drew ?_ | refine blk_alloc ?_ _)); exact BK359.out⟩, ⟨by (with_reducible repeat (first | refine blk_drewN ?_ _ | refine blk_drew ?_ | refine blk_alloc ?_ _)); refine blk_put (cs := #[.bool t360, .int .i64 0]) ?_ (1) _ rfl; (with_reducible repeat (first | refine blk_drewN ?_ _ | refine blk_drew ?_ | refine blk_alloc ?_ _)); refine blk_put (cs := #[.bool false, .int .i64 0]) ?_ (0) _ rfl; (with_reducible repeat (first | refine blk_drewN ?_ _ | refine blk_drew ?_ | refine blk_alloc ?_ _)); exact BK364.out⟩, ⟨by repeat (first | (with_reducible first | exact HB.out | apply below_alloc | apply pw_below_drewN | apply below_drew1 | refine below_set ?_ GE349.out | refine below_set ?_ GE354.out | refine below_set ?_ GE359.out | refine below_set ?_ GE364.out) | exact HB.out)⟩⟩
  case rest =>
    clear HC7
    try clear c1
    try clear c2
    try clear p2
    try clear c3
    try clear c4
    try clear c6
    try clear p6
    try clear c11
    try clear c13
    try clear c16
    try clear c17
    try clear c18
    try clear c22
    try clear c23
    try clear c24
    try clear c26
    try clear c27
    try clear c28
    try clear c29
    try clear c29b0
    try clear c29b1
    try clear c30
    try clear c30b0
    try clear c31
    try clear c32
    try clear c33
    try clear c35
    try clear c36
    try clear c37
    try clear c39
    try clear c40
    try clear hcz14_0
    try clear hcz14_1
    try clear hcz19_0
    try clear hcz19_1
    try clear hcz25_0
    try clear hcz25_1
    try clear hcz34_0
    try clear hcz34_1
    try clear hcz38_0
    try clear hcz38_1
    try clear hcz41_0
    try clear hcz41_1
    try clear hfz14_0
    try clear hfz14_1
    try clear hfz19_0
    try clear hfz19_1
    try clear hfz25_0
    try clear hfz25_1
    try clear hfz34_0
    try clear hfz34_1
    try clear hfz38_0
    try clear hfz38_1
    try clear hfz41_0
    try clear hfz41_1
    obtain ⟨kq, x75_6, rfl, HA, HJ6, BK349, BK354, BK359, BK364, HB⟩ := hcut
    cases kq with
    | zero => exact absurd HA.out (by simp [perilunelaw32_UplinkLocks.j0])
    | succ kj6 =>
      have H := HA.out
      clear HA
      simp only [perilunelaw32_UplinkLocks.j0] at H
      by_cases c42 : x75_6 = true
      · subst c42
        have H1 : (some false) = some r := by rw [if_pos rfl] at H; exact H
        clear H
        have H := H1
        clear H1
        exact absurd (Option.some.inj H) (by rw [hT_.out]; decide)
      · replace c42 := Bool.eq_false_iff.mpr c42
        subst c42
        have H1 : (if a1 ≥ 32767 then (if (t360 && (t361 == a1)) = true then ((perilunelaw32_awake.f kj6).bind fun t365 => (some t365)) else (some false)) else (if (t360 && (t361 == (wrap64 (a1 + 1)))) = true then ((perilunelaw32_awake.f kj6).bind fun t366 => (some t366)) else (some false))) = some r := by rw [if_neg (show ¬ (false = true) by decide)] at H; exact H
        clear H
        have H := H1
        clear H1
        by_cases c43 : a1 ≥ 32767
        · rw [if_pos c43] at H
          have c43b0 : decide (32767 ≤ a1) = true := decide_eq_true c43
          clear c43
          by_cases c44 : (t360 && (t361 == a1)) = true
          · rw [if_pos c44] at H
            have c44b0 : (t360 && (t361 == a1)) = true := c44
            clear c44
            replace H := Option.bind_eq_some_iff.mp H
            obtain ⟨t365, A450, H⟩ := H
            replace H : (some t365) = some r := H
            have A45 := Aside0.mk A450
            clear A450
            obtain rfl := Option.some.inj H
            have hnb46 := NB364_349.out
            have hnc46 := NB349_364.out
            have hnb47 := NB364_354.out
            have hnc47 := NB354_364.out
            have hnb48 := NB364_359.out
            have hnc48 := NB359_364.out
            have hcz49_0 : wc.cell? ⟨gb364, 0, none⟩ = some (.bool t360) := (blk_cell BK364.out 0).trans rfl
            have hcz49_1 : wc.cell? ⟨gb364, 1, none⟩ = some (.int .i64 t361) := (blk_cell BK364.out 1).trans rfl
            have hfz49_0 := blk_frozen BK364.out 0
            have hfz49_1 := blk_frozen BK364.out 1
            go_wp2_with (first | (go_at_call 15; (with_reducible refine (perilunelaw32_awake.calls kj6  t365 _ A45.out).mono ?_); rintro e w50 ⟨rfl, hb⟩; have n0_ := Aside0.mk (blk_below (g := gb349) (o := .cells #[.int .u8 t332, .int .u8 t333, .int .u8 t334, .int .u8 t335, .int .u8 t336, .int .u8 t337, .int .u8 t338, .int .u8 t339, .int .u8 t340, .int .u8 t341, .int .u8 t342, .int .u8 t343, .int .u8 t344, .int .u8 t345, .int .u8 t346, .int .u8 t347] 22 (0, 0)) (by (with_reducible repeat (first | refine blk_drewN ?_ _ | refine blk_drew ?_ | refine blk_alloc ?_ _)); exact BK349.out) hb); have n1_ := Aside0.mk (blk_below (g := gb354) (o := .cells #[.bool t350, .int .i64 t351] 31 (0, 0)) (by (with_reducible repeat (first | refine blk_drewN ?_ _ | refine blk_drew ?_ | refine blk_alloc ?_ _)); exact BK354.out) hb); have n2_ := Aside0.mk (blk_below (g := gb359) (o := .cells #[.bool t355, .int .i64 t356] 31 (0, 0)) (by (with_reducible repeat (first | refine blk_drewN ?_ _ | refine blk_drew ?_ | refine blk_alloc ?_ _)); exact BK359.out) hb); have n3_ := Aside0.mk (blk_below (g := gb364) (o := .cells #[.bool t360, .int .i64 t361] 31 (0, 0)) (by (with_reducible repeat (first | refine blk_drewN ?_ _ | refine blk_drew ?_ | refine blk_alloc ?_ _)); exact BK364.out) hb); have n4_ := Aside0.mk (below_step (by repeat (first | (with_reducible first | exact HB.out | apply below_alloc | apply pw_below_drewN | apply below_drew1 | refine below_set ?_ GE349.out | refine below_set ?_ GE354.out | refine below_set ?_ GE359.out | refine below_set ?_ GE364.out) | exact HB.out)) hb); clear BK349; clear BK354; clear BK359; clear BK364; clear HB; have BK349 := n0_; have BK354 := n1_; have BK359 := n2_; have BK364 := n3_; have HB := n4_; clear n0_ n1_ n2_ n3_ n4_; (try clear hb); (try clear hb2); (try clear hk); (try clear hi)))
            go_ret
            exact ⟨by first | rfl | (simp [errW_none, errW_some] <;> rfl) | (simp [*, errW_none, errW_some] <;> rfl), by repeat (first | (with_reducible first | exact HB.out | apply below_alloc | apply pw_below_drewN | apply below_drew1 | refine below_set ?_ GE349.out | refine below_set ?_ GE354.out | refine below_set ?_ GE359.out | refine below_set ?_ GE364.out) | exact HB.out)⟩
          · rw [if_neg c44] at H
            have c44b0 : (t360 && (t361 == a1)) = false := by simpa using c44
            clear c44
            exact absurd (Option.some.inj H) (by rw [hT_.out]; decide)
        · rw [if_neg c43] at H
          have c43b0 : decide (32767 ≤ a1) = false := decide_eq_false c43
          clear c43
          by_cases c51 : (t360 && (t361 == (wrap64 (a1 + 1)))) = true
          · rw [if_pos c51] at H
            have c51b0 : (t360 && (t361 == (wrap64 (a1 + 1)))) = true := c51
            clear c51
            replace H := Option.bind_eq_some_iff.mp H
            obtain ⟨t366, A520, H⟩ := H
            replace H : (some t366) = some r := H
            have A52 := Aside0.mk A520
            clear A520
            obtain rfl := Option.some.inj H
            have hnb53 := NB364_349.out
            have hnc53 := NB349_364.out
            have hnb54 := NB364_354.out
            have hnc54 := NB354_364.out
            have hnb55 := NB364_359.out
            have hnc55 := NB359_364.out
            have hcz56_0 : wc.cell? ⟨gb364, 0, none⟩ = some (.bool t360) := (blk_cell BK364.out 0).trans rfl
            have hcz56_1 : wc.cell? ⟨gb364, 1, none⟩ = some (.int .i64 t361) := (blk_cell BK364.out 1).trans rfl
            have hfz56_0 := blk_frozen BK364.out 0
            have hfz56_1 := blk_frozen BK364.out 1
            go_wp2_with (first | (go_at_call 15; (with_reducible refine (perilunelaw32_awake.calls kj6  t366 _ A52.out).mono ?_); rintro e w57 ⟨rfl, hb⟩; have n0_ := Aside0.mk (blk_below (g := gb349) (o := .cells #[.int .u8 t332, .int .u8 t333, .int .u8 t334, .int .u8 t335, .int .u8 t336, .int .u8 t337, .int .u8 t338, .int .u8 t339, .int .u8 t340, .int .u8 t341, .int .u8 t342, .int .u8 t343, .int .u8 t344, .int .u8 t345, .int .u8 t346, .int .u8 t347] 22 (0, 0)) (by (with_reducible repeat (first | refine blk_drewN ?_ _ | refine blk_drew ?_ | refine blk_alloc ?_ _)); exact BK349.out) hb); have n1_ := Aside0.mk (blk_below (g := gb354) (o := .cells #[.bool t350, .int .i64 t351] 31 (0, 0)) (by (with_reducible repeat (first | refine blk_drewN ?_ _ | refine blk_drew ?_ | refine blk_alloc ?_ _)); exact BK354.out) hb); have n2_ := Aside0.mk (blk_below (g := gb359) (o := .cells #[.bool t355, .int .i64 t356] 31 (0, 0)) (by (with_reducible repeat (first | refine blk_drewN ?_ _ | refine blk_drew ?_ | refine blk_alloc ?_ _)); exact BK359.out) hb); have n3_ := Aside0.mk (blk_below (g := gb364) (o := .cells #[.bool t360, .int .i64 t361] 31 (0, 0)) (by (with_reducible repeat (first | refine blk_drewN ?_ _ | refine blk_drew ?_ | refine blk_alloc ?_ _)); exact BK364.out) hb); have n4_ := Aside0.mk (below_step (by repeat (first | (with_reducible first | exact HB.out | apply below_alloc | apply pw_below_drewN | apply below_drew1 | refine below_set ?_ GE349.out | refine below_set ?_ GE354.out | refine below_set ?_ GE359.out | refine below_set ?_ GE364.out) | exact HB.out)) hb); clear BK349; clear BK354; clear BK359; clear BK364; clear HB; have BK349 := n0_; have BK354 := n1_; have BK359 := n2_; have BK364 := n3_; have HB := n4_; clear n0_ n1_ n2_ n3_ n4_; (try clear hb); (try clear hb2); (try clear hk); (try clear hi)))
            go_ret
            exact ⟨by first | rfl | (simp [errW_none, errW_some] <;> rfl) | (simp [*, errW_none, errW_some] <;> rfl), by repeat (first | (with_reducible first | exact HB.out | apply below_alloc | apply pw_below_drewN | apply below_drew1 | refine below_set ?_ GE349.out | refine below_set ?_ GE354.out | refine below_set ?_ GE359.out | refine below_set ?_ GE364.out) | exact HB.out)⟩
          · rw [if_neg c51] at H
            have c51b0 : (t360 && (t361 == (wrap64 (a1 + 1)))) = false := by simpa using c51
            clear c51
            exact absurd (Option.some.inj H) (by rw [hT_.out]; decide)

/-- THE ONE PURE STATEMENT of perilunelaw32_UplinkLocks: yours. -/
def perilunelaw32_UplinkLocks.Pure : Prop := ∀ (a0 : Int) (a1 : Int), (Lit.int .u8 a0).wf = true → (Lit.int .i64 a1).wf = true → ∃ k, perilunelaw32_UplinkLocks.f k a0 a1 = some true
theorem perilunelaw32_UplinkLocks.walk (P : perilunelaw32_UplinkLocks.Pure) (a0 : Int) (a1 : Int) (w : World) (w0 : (Lit.int .u8 a0).wf = true) (w1 : (Lit.int .i64 a1).wf = true) :
    Calls Try.prog 6 #[.int .u8 a0, .int .i64 a1] w fun e w' => e = .returned (.bool true) ∧ Below w.heap.size w w' := by
  obtain ⟨k, h⟩ := P a0 a1 w0 w1
  refine (perilunelaw32_UplinkLocks.calls k a0 a1 true w h ⟨rfl⟩).mono ?_
  rintro e w' ⟨rfl, hd⟩
  exact ⟨rfl, hd⟩

end Go.Proofs.Ytdncfnlhkacpaaa.P
