/- Words of the print, cut to what this claim's texts use. -/
import Derived.Test.YtjenkcgjpdappaaProg
import Derived.Test.YtjenkcgjpdappaaWWords
import Derived.Test.YtjenkcgjpdappaaWLast
import Derived.ChangeKeysEq
import Derived.Laws.CopyRow
import Derived.Laws.CopyOwn
import Derived.Laws.Slices
import Derived.KernelRfl
import Derived.Tactics
set_option linter.unusedVariables false
namespace Go.Proofs.YtjenkcgjpdappaaW.PrintWords
open Go.RowKit Go.Proofs.YtjenkcgjpdappaaW.PrintLast
def pk7 {α : Type} (a0 a1 a2 a3 a4 a5 a6 : α) (i : Int) : α := if i = 0 then a0 else if i = 1 then a1 else if i = 2 then a2 else if i = 3 then a3 else if i = 4 then a4 else if i = 5 then a5 else a6
def pt {α : Type} (c i : Int) (v old : α) : α := if i = c then v else old
section
variable {P : Program} {d : Nat} {xs ys : Array Value} {e c i : Nat} {is : List Nat} {a b : Value} {r s : Bool} {w : World}
theorem eqi_cons (ha : (part e xs (i * P.cellsOf e)).run P w = .ok a w) (hb : (part e ys (i * P.cellsOf e)).run P w = .ok b w) (he : (Op.equalIn d e a b).run P w = .ok r w) (hr : (Op.eqItems d e (P.cellsOf e) xs ys is).run P w = .ok s w) : (Op.eqItems d e (P.cellsOf e) xs ys (i :: is)).run P w = .ok (r && s) w := by
  rw [Op.eqItems]
  simp only [Sem.run_bind, ha, hb, he, Result.andThen_ok]
  cases r
  · simp
  · simpa using hr
theorem eqi_last (ha : (part e xs (i * P.cellsOf e)).run P w = .ok a w) (hb : (part e ys (i * P.cellsOf e)).run P w = .ok b w) (he : (Op.equalIn d e a b).run P w = .ok r w) : (Op.eqItems d e (P.cellsOf e) xs ys [i]).run P w = .ok r w := by
  rw [Op.eqItems]
  simp only [Sem.run_bind, ha, hb, he, Result.andThen_ok]
  cases r <;> simp [Op.eqItems]
theorem eqArr_of {n : Nat} {t : TypeId} (hu : P.underlying t = some (.array n e)) (hi : (P.info? e).isSome = true) (h : (Op.eqItems d e (P.cellsOf e) xs ys (List.range n)).run P w = .ok r w) : (Op.equalIn (d + 1) t (.agg xs) (.agg ys)).run P w = .ok r w := by
  obtain ⟨inf, hi⟩ := Option.isSome_iff_exists.1 hi
  rw [run_equalIn_array w d xs ys hu hi]
  exact h
end
section
variable {P : Program} {ops : Array Oper} {rest : List Oper} {o : Oper} {a : Act} {Q : Exit → Act → World → Prop}
theorem seg_event {W : World} (hgd : o.guard = none) {t : TypeId} {p : Tmp} {x : Operand} (ho : o.op = .store t (.tmp p) x) (hN : o.dst = none) {g off : Nat} {T : TypeId} {cur new : Array Value} {vs : List Value}
    (hp : a.eval (.tmp p) = .pointer (some ⟨g, off, none⟩)) (hv : a.eval x = .agg vs.toArray) (hg : W.heap[g]? = some (.cells cur T (0, 0))) (hi : (P.info? t).map (·.size) = some vs.length) (hfit : off + vs.length ≤ cur.size)
    (h1 : vs.all (·.oneCell') = true) (hnew : (cur.toList.take off ++ vs ++ cur.toList.drop (off + vs.length)).toArray = new)
    (h : ∀ w', w'.heap[g]? = some (.cells new T (0, 0)) → W.grownBy w' (some g) → (∀ B w0, Below B w0 W → B ≤ g → Below B w0 w') → wpList P ops Q rest a w') : wpList P ops Q (o :: rest) a W := by
  have hst := run_storeCells_at P g off T vs 0 cur W hg (by simpa using hfit) (fun v hv => (List.all_eq_true.1 h1) v hv)
  simp only [Nat.add_zero, hnew] at hst
  have hrun : (execOp a.eval o).run P W = .ok .skip (W.setRow g new) := by
    cases hq : P.info? t with
    | none => simp [hq] at hi
    | some i =>
      have hs : i.size = vs.length := by simpa [hq] using hi
      simp [execOp, ho, hp, hv, Instr.storeAt, Instr.sureAddr, storeVar, Value.cells, sizeOf, typeInfo, hq, hs, hst]
  refine wpList_plain hgd fun K hK => ?_
  unfold Oper.wp
  rw [hrun]
  show K (a.put o.dst undef) _
  rw [hN]
  exact hK _ _ (h _ (setRow_heap W g cur new T (0, 0) hg) ⟨rfl, rfl, rfl, by simp [World.setRow], fun k _ hk => setRow_other W g k new (fun e => hk (by rw [e]))⟩ (fun B w0 hb hB => below_setRow hb hB new))
theorem seg_skip {t : TypeId} {p : Tmp} {g off : Nat} {T : TypeId} {cur : Array Value} {vs : List Value} {new : Array Value} {oi : Oper} {a : Act} {W : World} {x : Operand} {K : Act → World → Prop}
    (hw : Region.wanted oi (yielded ops a.tmps) = true) (hN : oi.dst = none) (ho : oi.op = .store t (.tmp p) x)
    (hp : a.eval (.tmp p) = .pointer (some ⟨g, off, none⟩)) (hv : a.eval x = .agg vs.toArray) (hg : W.heap[g]? = some (.cells cur T (0, 0))) (hi : (P.info? t).map (·.size) = some vs.length) (hfit : off + vs.length ≤ cur.size)
    (h1 : vs.all (·.oneCell') = true) (hnew : (cur.toList.take off ++ vs ++ cur.toList.drop (off + vs.length)).toArray = new)
    (h : ∀ w', w'.heap[g]? = some (.cells new T (0, 0)) → W.grownBy w' (some g) → (∀ B w0, Below B w0 W → B ≤ g → Below B w0 w') → K a w') :
    if Region.wanted oi (yielded ops a.tmps) = true then Oper.wp P oi a W K Q else K (a.put none undef) W := by
  have hst := run_storeCells_at P g off T vs 0 cur W hg (by simpa using hfit) (fun v hv => (List.all_eq_true.1 h1) v hv)
  simp only [Nat.add_zero, hnew] at hst
  have hrun : (execOp a.eval oi).run P W = .ok .skip (W.setRow g new) := by
    cases hq : P.info? t with
    | none => simp [hq] at hi
    | some i =>
      have hs : i.size = vs.length := by simpa [hq] using hi
      simp [execOp, ho, hp, hv, Instr.storeAt, Instr.sureAddr, storeVar, Value.cells, sizeOf, typeInfo, hq, hs, hst]
  exact skip_ hw hN hrun (h _ (setRow_heap W g cur new T (0, 0) hg) ⟨rfl, rfl, rfl, by simp [World.setRow], fun k _ hk => setRow_other W g k new (fun e => hk (by rw [e]))⟩ (fun B w0 hb hB => below_setRow hb hB new))
end
@[go_sem] theorem run_arrayAt_lit {P : Program} {w : World} (arr : TypeId) (a : Option Addr) (len cap : Nat) (h : P.underlying arr = some (.array (P.arrayLen arr) (P.elem arr))) (hn : P.arrayLen arr ≤ len) : (Instr.arrayAt arr (.slice a len cap)).run P w = .ok (.pointer a) w := by
  simp [Instr.arrayAt, run_underlying h, Nat.not_lt.2 hn]
section
variable {W : World} {g : Nat} {T : TypeId} {cur : Array Value}
theorem copy_src (h : W.heap[g]? = some (.cells cur T (0, 0))) {off : Nat} {vs : List Value} (hv : (cur.toList.drop off).take vs.length = vs) : ∀ j v, vs[j]? = some v → W.cell? ((⟨g, off, none⟩ : Addr).add j) = some v := by
  intro j v hj
  have hadd : (⟨g, off, none⟩ : Addr).add j = ⟨g, off + j, none⟩ := by unfold Addr.add; split <;> simp_all
  rw [hadd, blk_cell h]
  have hlt : j < vs.length := by
    by_cases hl : j < vs.length
    · exact hl
    · rw [List.getElem?_eq_none (by omega)] at hj; cases hj
  rw [← hv, List.getElem?_take, if_pos hlt, List.getElem?_drop, Array.getElem?_toList] at hj
  exact hj
end
section
variable {P : Program} {ops : Array Oper} {rest : List Oper} {o : Oper} {a : Act} {Q : Exit → Act → World → Prop}
theorem seg_load_run {W : World} {t : TypeId} {p : Tmp} (ho : o.op = .load t (.tmp p)) {g off : Nat} {T : TypeId} {cur : Array Value} {vs : List Value} {d : TypeDesc}
    (hp : a.eval (.tmp p) = .pointer (some ⟨g, off, none⟩)) (hg : W.heap[g]? = some (.cells cur T (0, 0))) (hu : P.underlying t = some d) (hd : (match d with | .struct _ | .array _ _ => true | _ => false) = true)
    (hi : (P.info? t).map (·.size) = some vs.length) (hw : (cur.toList.drop off).take vs.length = vs) : (execOp a.eval o).run P W = .ok (.value (.agg vs.toArray)) W := by
  have hl : (loadCells ⟨g, off, none⟩ vs.length).run P W = .ok vs.toArray W := run_loadCells_list (P := P) W ⟨g, off, none⟩ vs (copy_src hg hw)
  cases hq : P.info? t with
  | none => simp [hq] at hi
  | some i =>
    have hs : i.size = vs.length := by simpa [hq] using hi
    have hagg : (isAgg t).run P W = .ok true W := by
      unfold isAgg
      rw [Sem.run_bind, run_underlying hu W]
      cases d <;> simp_all
    simp [execOp, ho, hp, Instr.loadAt, Instr.sureAddr, loadVar, Sem.run_bind, hagg, sizeOf, typeInfo, hq, hs, hl]
theorem seg_load_on {W : World} (hgd : Region.wanted o (yielded ops a.tmps) = true) {t : TypeId} {p : Tmp} (ho : o.op = .load t (.tmp p)) {g off : Nat} {T : TypeId} {cur : Array Value} {vs : List Value} {d : TypeDesc}
    (hp : a.eval (.tmp p) = .pointer (some ⟨g, off, none⟩)) (hg : W.heap[g]? = some (.cells cur T (0, 0))) (hu : P.underlying t = some d) (hd : (match d with | .struct _ | .array _ _ => true | _ => false) = true)
    (hi : (P.info? t).map (·.size) = some vs.length) (hw : (cur.toList.drop off).take vs.length = vs) (h : wpList P ops Q rest (a.put o.dst (.agg vs.toArray)) W) : wpList P ops Q (o :: rest) a W := by
  refine wpList_step fun K hK => ?_
  rw [if_pos hgd]
  unfold Oper.wp
  rw [seg_load_run ho hp hg hu hd hi hw]
  exact hK _ _ h
theorem on_value {W : World} (hgd : Region.wanted o (yielded ops a.tmps) = true) {v : Value} (hrun : (execOp a.eval o).run P W = .ok (.value v) W) (h : wpList P ops Q rest (a.put o.dst v) W) : wpList P ops Q (o :: rest) a W := by
  refine wpList_step fun K hK => ?_
  rw [if_pos hgd]
  unfold Oper.wp
  rw [hrun]
  exact hK _ _ h
theorem add_none (g off n : Nat) : (⟨g, off, none⟩ : Addr).add n = ⟨g, off + n, none⟩ := by unfold Addr.add; split <;> simp_all
theorem seg_load_cells {W : World} (hgd : Region.wanted o (yielded ops a.tmps) = true) {t : TypeId} {p : Tmp} (ho : o.op = .load t (.tmp p)) {g off : Nat} {vs : List Value} {d : TypeDesc}
    (hp : a.eval (.tmp p) = .pointer (some ⟨g, off, none⟩)) (hl : ∀ j v, vs[j]? = some v → W.cell? ⟨g, off + j, none⟩ = some v) (hu : P.underlying t = some d) (hd : (match d with | .struct _ | .array _ _ => true | _ => false) = true)
    (hi : (P.info? t).map (·.size) = some vs.length) (h : wpList P ops Q rest (a.put o.dst (.agg vs.toArray)) W) : wpList P ops Q (o :: rest) a W := by
  refine on_value hgd (v := .agg vs.toArray) ?_ h
  have hl : (loadCells ⟨g, off, none⟩ vs.length).run P W = .ok vs.toArray W := run_loadCells_list (P := P) W ⟨g, off, none⟩ vs (fun j v hj => by rw [add_none]; exact hl j v hj)
  cases hq : P.info? t with
  | none => simp [hq] at hi
  | some i =>
    have hs : i.size = vs.length := by simpa [hq] using hi
    have hagg : (isAgg t).run P W = .ok true W := by
      unfold isAgg
      rw [Sem.run_bind, run_underlying hu W]
      cases d <;> simp_all
    simp [execOp, ho, hp, Instr.loadAt, Instr.sureAddr, loadVar, Sem.run_bind, hagg, sizeOf, typeInfo, hq, hs, hl]
theorem cut_arr {W : World} (hgd : Region.wanted o (yielded ops a.tmps) = true) {t : TypeId} {p h : Tmp} (ho : o.op = .slice t (.tmp p) none (some (.tmp h)) none) {g : Nat} {hi : Int} {n : Nat} {e : TypeId}
    (hp : a.eval (.tmp p) = .pointer (some ⟨g, 0, none⟩)) (hh : a.eval (.tmp h) = .int .i64 hi) (hu : P.underlying t = some (.array n e)) (h0 : 0 ≤ hi) (h1 : hi < (n : Int)) (hs : (P.info? e).isSome = true)
    (hk : wpList P ops Q rest (a.put o.dst (.slice (some ⟨g, 0, none⟩) hi.toNat n)) W) : wpList P ops Q (o :: rest) a W := by
  refine on_value hgd ?_ hk
  obtain ⟨i, hi_⟩ := Option.isSome_iff_exists.1 hs
  have hb : (Instr.sliceBound (.int .i64 hi) n .sliceAlen).run P W = .ok hi.toNat W := run_sliceBound W .i64 hi n .sliceAlen h0 (by omega)
  have ha : (⟨g, 0, none⟩ : Addr).add 0 = ⟨g, 0, none⟩ := rfl
  simp [execOp, ho, hp, hh, Instr.sliceAt, Sem.run_bind, run_underlying hu, Instr.sureAddr, Instr.sliceBounds, hb, sizeOf, typeInfo, hi_, ha]
theorem at_cut {W : World} (hgd : Region.wanted o (yielded ops a.tmps) = true) {t : TypeId} {p q : Tmp} (ho : o.op = .indexAddr t (.tmp p) (.tmp q)) {g m c : Nat} {j hi : Int} {e : TypeId} {sz : Nat}
    (hp : a.eval (.tmp p) = .slice (some ⟨g, 0, none⟩) m c) (hq : a.eval (.tmp q) = .int .i64 j) (hu : P.underlying t = some (.slice e)) (hm : m = hi.toNat) (h0 : 0 ≤ j) (h1 : j < hi) (hs : (P.info? e).map (·.size) = some sz)
    (hk : wpList P ops Q rest (a.put o.dst (.pointer (some ⟨g, j.toNat * sz, none⟩))) W) : wpList P ops Q (o :: rest) a W := by
  refine on_value hgd ?_ hk
  have h2 : j < (m : Int) := by omega
  cases hi_ : P.info? e with
  | none => simp [hi_] at hs
  | some i =>
    have hz : i.size = sz := by simpa [hi_] using hs
    have ha : (⟨g, 0, none⟩ : Addr).add (j.toNat * sz) = ⟨g, j.toNat * sz, none⟩ := by rw [add_none, Nat.zero_add]
    simp [execOp, ho, hp, hq, Instr.indexAt, Sem.run_bind, run_underlying hu, asIntOf, h0, h2, sizeOf, typeInfo, hi_, hz, ha]
end
section
variable {W : World} {g off : Nat}
theorem cells6 {a b c d e f : Value} (h0 : W.cell? ⟨g, off, none⟩ = some a) (h1 : W.cell? ⟨g, off + 1, none⟩ = some b) (h2 : W.cell? ⟨g, off + 2, none⟩ = some c) (h3 : W.cell? ⟨g, off + 3, none⟩ = some d) (h4 : W.cell? ⟨g, off + 4, none⟩ = some e) (h5 : W.cell? ⟨g, off + 5, none⟩ = some f) : ∀ j v, [a, b, c, d, e, f][j]? = some v → W.cell? ⟨g, off + j, none⟩ = some v
  | 0, v, h | 1, v, h | 2, v, h | 3, v, h | 4, v, h | 5, v, h => by cases h; assumption
  | j + 6, v, h => by cases h
end
theorem idxA25 (x0 : Bool) (x1 : Int) (x2 : Int) (x3 : Int) (x4 : Bool) (x5 : Int) (x6 : Bool) (x7 : Int) (x8 : Int) (x9 : Int) (x10 : Bool) (x11 : Int) (x12 : Bool) (x13 : Int) (x14 : Int) (x15 : Int) (x16 : Bool) (x17 : Int) (x18 : Bool) (x19 : Int) (x20 : Int) (x21 : Int) (x22 : Bool) (x23 : Int) (x24 : Bool) (x25 : Int) (x26 : Int) (x27 : Int) (x28 : Bool) (x29 : Int) (x30 : Bool) (x31 : Int) (x32 : Int) (x33 : Int) (x34 : Bool) (x35 : Int) (x36 : Bool) (x37 : Int) (x38 : Int) (x39 : Int) (x40 : Bool) (x41 : Int) (kk : IntKind) (j : Int) (h0 : 0 ≤ j) (h1 : j < 7) (W : World) : (Instr.index 25 (.agg #[.bool x0, .int .i64 x1, .int .i64 x2, .int .i64 x3, .bool x4, .int .i64 x5, .bool x6, .int .i64 x7, .int .i64 x8, .int .i64 x9, .bool x10, .int .i64 x11, .bool x12, .int .i64 x13, .int .i64 x14, .int .i64 x15, .bool x16, .int .i64 x17, .bool x18, .int .i64 x19, .int .i64 x20, .int .i64 x21, .bool x22, .int .i64 x23, .bool x24, .int .i64 x25, .int .i64 x26, .int .i64 x27, .bool x28, .int .i64 x29, .bool x30, .int .i64 x31, .int .i64 x32, .int .i64 x33, .bool x34, .int .i64 x35, .bool x36, .int .i64 x37, .int .i64 x38, .int .i64 x39, .bool x40, .int .i64 x41]) (.int kk j)).run Try.prog W = .ok (.agg #[.bool (pk7 x0 x6 x12 x18 x24 x30 x36 j), .int .i64 (pk7 x1 x7 x13 x19 x25 x31 x37 j), .int .i64 (pk7 x2 x8 x14 x20 x26 x32 x38 j), .int .i64 (pk7 x3 x9 x15 x21 x27 x33 x39 j), .bool (pk7 x4 x10 x16 x22 x28 x34 x40 j), .int .i64 (pk7 x5 x11 x17 x23 x29 x35 x41 j)]) W := by
  obtain rfl | rfl | rfl | rfl | rfl | rfl | rfl : j = 0 ∨ j = 1 ∨ j = 2 ∨ j = 3 ∨ j = 4 ∨ j = 5 ∨ j = 6 := (by omega) <;> rfl
theorem cellA27_0_0 {W : World} {g : Nat} {x0 : Bool} {x1 : Int} {x2 : Int} {x3 : Int} {x4 : Bool} {x5 : Int} {x6 : Bool} {x7 : Int} {x8 : Int} {x9 : Int} {x10 : Bool} {x11 : Int} {x12 : Bool} {x13 : Int} {x14 : Int} {x15 : Int} {x16 : Bool} {x17 : Int} {x18 : Bool} {x19 : Int} {x20 : Int} {x21 : Int} {x22 : Bool} {x23 : Int} {x24 : Bool} {x25 : Int} {x26 : Int} {x27 : Int} {x28 : Bool} {x29 : Int} {x30 : Bool} {x31 : Int} {x32 : Int} {x33 : Int} {x34 : Bool} {x35 : Int} {x36 : Bool} {x37 : Int} {x38 : Int} {x39 : Int} {x40 : Bool} {x41 : Int} {x42 : Int} (j : Int) (h0 : 0 ≤ j) (h1 : j < 7) (h : W.heap[g]? = some (.cells #[.bool x0, .int .i64 x1, .int .i64 x2, .int .i64 x3, .bool x4, .int .i64 x5, .bool x6, .int .i64 x7, .int .i64 x8, .int .i64 x9, .bool x10, .int .i64 x11, .bool x12, .int .i64 x13, .int .i64 x14, .int .i64 x15, .bool x16, .int .i64 x17, .bool x18, .int .i64 x19, .int .i64 x20, .int .i64 x21, .bool x22, .int .i64 x23, .bool x24, .int .i64 x25, .int .i64 x26, .int .i64 x27, .bool x28, .int .i64 x29, .bool x30, .int .i64 x31, .int .i64 x32, .int .i64 x33, .bool x34, .int .i64 x35, .bool x36, .int .i64 x37, .int .i64 x38, .int .i64 x39, .bool x40, .int .i64 x41, .int .i64 x42] 27 (0, 0))) : W.cell? ⟨g, j.toNat * 6, none⟩ = some (.bool (pk7 x0 x6 x12 x18 x24 x30 x36 j)) := by
  refine (blk_cell h _).trans ?_
  obtain rfl | rfl | rfl | rfl | rfl | rfl | rfl : j = 0 ∨ j = 1 ∨ j = 2 ∨ j = 3 ∨ j = 4 ∨ j = 5 ∨ j = 6 := (by omega) <;> rfl
theorem putA27_0_0 {x0 : Bool} {x1 : Int} {x2 : Int} {x3 : Int} {x4 : Bool} {x5 : Int} {x6 : Bool} {x7 : Int} {x8 : Int} {x9 : Int} {x10 : Bool} {x11 : Int} {x12 : Bool} {x13 : Int} {x14 : Int} {x15 : Int} {x16 : Bool} {x17 : Int} {x18 : Bool} {x19 : Int} {x20 : Int} {x21 : Int} {x22 : Bool} {x23 : Int} {x24 : Bool} {x25 : Int} {x26 : Int} {x27 : Int} {x28 : Bool} {x29 : Int} {x30 : Bool} {x31 : Int} {x32 : Int} {x33 : Int} {x34 : Bool} {x35 : Int} {x36 : Bool} {x37 : Int} {x38 : Int} {x39 : Int} {x40 : Bool} {x41 : Int} {x42 : Int} (j : Int) (h0 : 0 ≤ j) (h1 : j < 7) (v : Bool) : (#[.bool x0, .int .i64 x1, .int .i64 x2, .int .i64 x3, .bool x4, .int .i64 x5, .bool x6, .int .i64 x7, .int .i64 x8, .int .i64 x9, .bool x10, .int .i64 x11, .bool x12, .int .i64 x13, .int .i64 x14, .int .i64 x15, .bool x16, .int .i64 x17, .bool x18, .int .i64 x19, .int .i64 x20, .int .i64 x21, .bool x22, .int .i64 x23, .bool x24, .int .i64 x25, .int .i64 x26, .int .i64 x27, .bool x28, .int .i64 x29, .bool x30, .int .i64 x31, .int .i64 x32, .int .i64 x33, .bool x34, .int .i64 x35, .bool x36, .int .i64 x37, .int .i64 x38, .int .i64 x39, .bool x40, .int .i64 x41, .int .i64 x42] : Array Value).setIfInBounds (j.toNat * 6) (.bool v) = #[.bool (pt 0 j v x0), .int .i64 x1, .int .i64 x2, .int .i64 x3, .bool x4, .int .i64 x5, .bool (pt 1 j v x6), .int .i64 x7, .int .i64 x8, .int .i64 x9, .bool x10, .int .i64 x11, .bool (pt 2 j v x12), .int .i64 x13, .int .i64 x14, .int .i64 x15, .bool x16, .int .i64 x17, .bool (pt 3 j v x18), .int .i64 x19, .int .i64 x20, .int .i64 x21, .bool x22, .int .i64 x23, .bool (pt 4 j v x24), .int .i64 x25, .int .i64 x26, .int .i64 x27, .bool x28, .int .i64 x29, .bool (pt 5 j v x30), .int .i64 x31, .int .i64 x32, .int .i64 x33, .bool x34, .int .i64 x35, .bool (pt 6 j v x36), .int .i64 x37, .int .i64 x38, .int .i64 x39, .bool x40, .int .i64 x41, .int .i64 x42] := by
  obtain rfl | rfl | rfl | rfl | rfl | rfl | rfl : j = 0 ∨ j = 1 ∨ j = 2 ∨ j = 3 ∨ j = 4 ∨ j = 5 ∨ j = 6 := (by omega) <;> rfl
theorem cellA27_0_1 {W : World} {g : Nat} {x0 : Bool} {x1 : Int} {x2 : Int} {x3 : Int} {x4 : Bool} {x5 : Int} {x6 : Bool} {x7 : Int} {x8 : Int} {x9 : Int} {x10 : Bool} {x11 : Int} {x12 : Bool} {x13 : Int} {x14 : Int} {x15 : Int} {x16 : Bool} {x17 : Int} {x18 : Bool} {x19 : Int} {x20 : Int} {x21 : Int} {x22 : Bool} {x23 : Int} {x24 : Bool} {x25 : Int} {x26 : Int} {x27 : Int} {x28 : Bool} {x29 : Int} {x30 : Bool} {x31 : Int} {x32 : Int} {x33 : Int} {x34 : Bool} {x35 : Int} {x36 : Bool} {x37 : Int} {x38 : Int} {x39 : Int} {x40 : Bool} {x41 : Int} {x42 : Int} (j : Int) (h0 : 0 ≤ j) (h1 : j < 7) (h : W.heap[g]? = some (.cells #[.bool x0, .int .i64 x1, .int .i64 x2, .int .i64 x3, .bool x4, .int .i64 x5, .bool x6, .int .i64 x7, .int .i64 x8, .int .i64 x9, .bool x10, .int .i64 x11, .bool x12, .int .i64 x13, .int .i64 x14, .int .i64 x15, .bool x16, .int .i64 x17, .bool x18, .int .i64 x19, .int .i64 x20, .int .i64 x21, .bool x22, .int .i64 x23, .bool x24, .int .i64 x25, .int .i64 x26, .int .i64 x27, .bool x28, .int .i64 x29, .bool x30, .int .i64 x31, .int .i64 x32, .int .i64 x33, .bool x34, .int .i64 x35, .bool x36, .int .i64 x37, .int .i64 x38, .int .i64 x39, .bool x40, .int .i64 x41, .int .i64 x42] 27 (0, 0))) : W.cell? ⟨g, j.toNat * 6 + 1, none⟩ = some (.int .i64 (pk7 x1 x7 x13 x19 x25 x31 x37 j)) := by
  refine (blk_cell h _).trans ?_
  obtain rfl | rfl | rfl | rfl | rfl | rfl | rfl : j = 0 ∨ j = 1 ∨ j = 2 ∨ j = 3 ∨ j = 4 ∨ j = 5 ∨ j = 6 := (by omega) <;> rfl
theorem putA27_0_1 {x0 : Bool} {x1 : Int} {x2 : Int} {x3 : Int} {x4 : Bool} {x5 : Int} {x6 : Bool} {x7 : Int} {x8 : Int} {x9 : Int} {x10 : Bool} {x11 : Int} {x12 : Bool} {x13 : Int} {x14 : Int} {x15 : Int} {x16 : Bool} {x17 : Int} {x18 : Bool} {x19 : Int} {x20 : Int} {x21 : Int} {x22 : Bool} {x23 : Int} {x24 : Bool} {x25 : Int} {x26 : Int} {x27 : Int} {x28 : Bool} {x29 : Int} {x30 : Bool} {x31 : Int} {x32 : Int} {x33 : Int} {x34 : Bool} {x35 : Int} {x36 : Bool} {x37 : Int} {x38 : Int} {x39 : Int} {x40 : Bool} {x41 : Int} {x42 : Int} (j : Int) (h0 : 0 ≤ j) (h1 : j < 7) (v : Int) : (#[.bool x0, .int .i64 x1, .int .i64 x2, .int .i64 x3, .bool x4, .int .i64 x5, .bool x6, .int .i64 x7, .int .i64 x8, .int .i64 x9, .bool x10, .int .i64 x11, .bool x12, .int .i64 x13, .int .i64 x14, .int .i64 x15, .bool x16, .int .i64 x17, .bool x18, .int .i64 x19, .int .i64 x20, .int .i64 x21, .bool x22, .int .i64 x23, .bool x24, .int .i64 x25, .int .i64 x26, .int .i64 x27, .bool x28, .int .i64 x29, .bool x30, .int .i64 x31, .int .i64 x32, .int .i64 x33, .bool x34, .int .i64 x35, .bool x36, .int .i64 x37, .int .i64 x38, .int .i64 x39, .bool x40, .int .i64 x41, .int .i64 x42] : Array Value).setIfInBounds (j.toNat * 6 + 1) (.int .i64 v) = #[.bool x0, .int .i64 (pt 0 j v x1), .int .i64 x2, .int .i64 x3, .bool x4, .int .i64 x5, .bool x6, .int .i64 (pt 1 j v x7), .int .i64 x8, .int .i64 x9, .bool x10, .int .i64 x11, .bool x12, .int .i64 (pt 2 j v x13), .int .i64 x14, .int .i64 x15, .bool x16, .int .i64 x17, .bool x18, .int .i64 (pt 3 j v x19), .int .i64 x20, .int .i64 x21, .bool x22, .int .i64 x23, .bool x24, .int .i64 (pt 4 j v x25), .int .i64 x26, .int .i64 x27, .bool x28, .int .i64 x29, .bool x30, .int .i64 (pt 5 j v x31), .int .i64 x32, .int .i64 x33, .bool x34, .int .i64 x35, .bool x36, .int .i64 (pt 6 j v x37), .int .i64 x38, .int .i64 x39, .bool x40, .int .i64 x41, .int .i64 x42] := by
  obtain rfl | rfl | rfl | rfl | rfl | rfl | rfl : j = 0 ∨ j = 1 ∨ j = 2 ∨ j = 3 ∨ j = 4 ∨ j = 5 ∨ j = 6 := (by omega) <;> rfl
theorem cellA27_0_2 {W : World} {g : Nat} {x0 : Bool} {x1 : Int} {x2 : Int} {x3 : Int} {x4 : Bool} {x5 : Int} {x6 : Bool} {x7 : Int} {x8 : Int} {x9 : Int} {x10 : Bool} {x11 : Int} {x12 : Bool} {x13 : Int} {x14 : Int} {x15 : Int} {x16 : Bool} {x17 : Int} {x18 : Bool} {x19 : Int} {x20 : Int} {x21 : Int} {x22 : Bool} {x23 : Int} {x24 : Bool} {x25 : Int} {x26 : Int} {x27 : Int} {x28 : Bool} {x29 : Int} {x30 : Bool} {x31 : Int} {x32 : Int} {x33 : Int} {x34 : Bool} {x35 : Int} {x36 : Bool} {x37 : Int} {x38 : Int} {x39 : Int} {x40 : Bool} {x41 : Int} {x42 : Int} (j : Int) (h0 : 0 ≤ j) (h1 : j < 7) (h : W.heap[g]? = some (.cells #[.bool x0, .int .i64 x1, .int .i64 x2, .int .i64 x3, .bool x4, .int .i64 x5, .bool x6, .int .i64 x7, .int .i64 x8, .int .i64 x9, .bool x10, .int .i64 x11, .bool x12, .int .i64 x13, .int .i64 x14, .int .i64 x15, .bool x16, .int .i64 x17, .bool x18, .int .i64 x19, .int .i64 x20, .int .i64 x21, .bool x22, .int .i64 x23, .bool x24, .int .i64 x25, .int .i64 x26, .int .i64 x27, .bool x28, .int .i64 x29, .bool x30, .int .i64 x31, .int .i64 x32, .int .i64 x33, .bool x34, .int .i64 x35, .bool x36, .int .i64 x37, .int .i64 x38, .int .i64 x39, .bool x40, .int .i64 x41, .int .i64 x42] 27 (0, 0))) : W.cell? ⟨g, j.toNat * 6 + 2, none⟩ = some (.int .i64 (pk7 x2 x8 x14 x20 x26 x32 x38 j)) := by
  refine (blk_cell h _).trans ?_
  obtain rfl | rfl | rfl | rfl | rfl | rfl | rfl : j = 0 ∨ j = 1 ∨ j = 2 ∨ j = 3 ∨ j = 4 ∨ j = 5 ∨ j = 6 := (by omega) <;> rfl
theorem putA27_0_2 {x0 : Bool} {x1 : Int} {x2 : Int} {x3 : Int} {x4 : Bool} {x5 : Int} {x6 : Bool} {x7 : Int} {x8 : Int} {x9 : Int} {x10 : Bool} {x11 : Int} {x12 : Bool} {x13 : Int} {x14 : Int} {x15 : Int} {x16 : Bool} {x17 : Int} {x18 : Bool} {x19 : Int} {x20 : Int} {x21 : Int} {x22 : Bool} {x23 : Int} {x24 : Bool} {x25 : Int} {x26 : Int} {x27 : Int} {x28 : Bool} {x29 : Int} {x30 : Bool} {x31 : Int} {x32 : Int} {x33 : Int} {x34 : Bool} {x35 : Int} {x36 : Bool} {x37 : Int} {x38 : Int} {x39 : Int} {x40 : Bool} {x41 : Int} {x42 : Int} (j : Int) (h0 : 0 ≤ j) (h1 : j < 7) (v : Int) : (#[.bool x0, .int .i64 x1, .int .i64 x2, .int .i64 x3, .bool x4, .int .i64 x5, .bool x6, .int .i64 x7, .int .i64 x8, .int .i64 x9, .bool x10, .int .i64 x11, .bool x12, .int .i64 x13, .int .i64 x14, .int .i64 x15, .bool x16, .int .i64 x17, .bool x18, .int .i64 x19, .int .i64 x20, .int .i64 x21, .bool x22, .int .i64 x23, .bool x24, .int .i64 x25, .int .i64 x26, .int .i64 x27, .bool x28, .int .i64 x29, .bool x30, .int .i64 x31, .int .i64 x32, .int .i64 x33, .bool x34, .int .i64 x35, .bool x36, .int .i64 x37, .int .i64 x38, .int .i64 x39, .bool x40, .int .i64 x41, .int .i64 x42] : Array Value).setIfInBounds (j.toNat * 6 + 2) (.int .i64 v) = #[.bool x0, .int .i64 x1, .int .i64 (pt 0 j v x2), .int .i64 x3, .bool x4, .int .i64 x5, .bool x6, .int .i64 x7, .int .i64 (pt 1 j v x8), .int .i64 x9, .bool x10, .int .i64 x11, .bool x12, .int .i64 x13, .int .i64 (pt 2 j v x14), .int .i64 x15, .bool x16, .int .i64 x17, .bool x18, .int .i64 x19, .int .i64 (pt 3 j v x20), .int .i64 x21, .bool x22, .int .i64 x23, .bool x24, .int .i64 x25, .int .i64 (pt 4 j v x26), .int .i64 x27, .bool x28, .int .i64 x29, .bool x30, .int .i64 x31, .int .i64 (pt 5 j v x32), .int .i64 x33, .bool x34, .int .i64 x35, .bool x36, .int .i64 x37, .int .i64 (pt 6 j v x38), .int .i64 x39, .bool x40, .int .i64 x41, .int .i64 x42] := by
  obtain rfl | rfl | rfl | rfl | rfl | rfl | rfl : j = 0 ∨ j = 1 ∨ j = 2 ∨ j = 3 ∨ j = 4 ∨ j = 5 ∨ j = 6 := (by omega) <;> rfl
theorem cellA27_0_3 {W : World} {g : Nat} {x0 : Bool} {x1 : Int} {x2 : Int} {x3 : Int} {x4 : Bool} {x5 : Int} {x6 : Bool} {x7 : Int} {x8 : Int} {x9 : Int} {x10 : Bool} {x11 : Int} {x12 : Bool} {x13 : Int} {x14 : Int} {x15 : Int} {x16 : Bool} {x17 : Int} {x18 : Bool} {x19 : Int} {x20 : Int} {x21 : Int} {x22 : Bool} {x23 : Int} {x24 : Bool} {x25 : Int} {x26 : Int} {x27 : Int} {x28 : Bool} {x29 : Int} {x30 : Bool} {x31 : Int} {x32 : Int} {x33 : Int} {x34 : Bool} {x35 : Int} {x36 : Bool} {x37 : Int} {x38 : Int} {x39 : Int} {x40 : Bool} {x41 : Int} {x42 : Int} (j : Int) (h0 : 0 ≤ j) (h1 : j < 7) (h : W.heap[g]? = some (.cells #[.bool x0, .int .i64 x1, .int .i64 x2, .int .i64 x3, .bool x4, .int .i64 x5, .bool x6, .int .i64 x7, .int .i64 x8, .int .i64 x9, .bool x10, .int .i64 x11, .bool x12, .int .i64 x13, .int .i64 x14, .int .i64 x15, .bool x16, .int .i64 x17, .bool x18, .int .i64 x19, .int .i64 x20, .int .i64 x21, .bool x22, .int .i64 x23, .bool x24, .int .i64 x25, .int .i64 x26, .int .i64 x27, .bool x28, .int .i64 x29, .bool x30, .int .i64 x31, .int .i64 x32, .int .i64 x33, .bool x34, .int .i64 x35, .bool x36, .int .i64 x37, .int .i64 x38, .int .i64 x39, .bool x40, .int .i64 x41, .int .i64 x42] 27 (0, 0))) : W.cell? ⟨g, j.toNat * 6 + 3, none⟩ = some (.int .i64 (pk7 x3 x9 x15 x21 x27 x33 x39 j)) := by
  refine (blk_cell h _).trans ?_
  obtain rfl | rfl | rfl | rfl | rfl | rfl | rfl : j = 0 ∨ j = 1 ∨ j = 2 ∨ j = 3 ∨ j = 4 ∨ j = 5 ∨ j = 6 := (by omega) <;> rfl
theorem putA27_0_3 {x0 : Bool} {x1 : Int} {x2 : Int} {x3 : Int} {x4 : Bool} {x5 : Int} {x6 : Bool} {x7 : Int} {x8 : Int} {x9 : Int} {x10 : Bool} {x11 : Int} {x12 : Bool} {x13 : Int} {x14 : Int} {x15 : Int} {x16 : Bool} {x17 : Int} {x18 : Bool} {x19 : Int} {x20 : Int} {x21 : Int} {x22 : Bool} {x23 : Int} {x24 : Bool} {x25 : Int} {x26 : Int} {x27 : Int} {x28 : Bool} {x29 : Int} {x30 : Bool} {x31 : Int} {x32 : Int} {x33 : Int} {x34 : Bool} {x35 : Int} {x36 : Bool} {x37 : Int} {x38 : Int} {x39 : Int} {x40 : Bool} {x41 : Int} {x42 : Int} (j : Int) (h0 : 0 ≤ j) (h1 : j < 7) (v : Int) : (#[.bool x0, .int .i64 x1, .int .i64 x2, .int .i64 x3, .bool x4, .int .i64 x5, .bool x6, .int .i64 x7, .int .i64 x8, .int .i64 x9, .bool x10, .int .i64 x11, .bool x12, .int .i64 x13, .int .i64 x14, .int .i64 x15, .bool x16, .int .i64 x17, .bool x18, .int .i64 x19, .int .i64 x20, .int .i64 x21, .bool x22, .int .i64 x23, .bool x24, .int .i64 x25, .int .i64 x26, .int .i64 x27, .bool x28, .int .i64 x29, .bool x30, .int .i64 x31, .int .i64 x32, .int .i64 x33, .bool x34, .int .i64 x35, .bool x36, .int .i64 x37, .int .i64 x38, .int .i64 x39, .bool x40, .int .i64 x41, .int .i64 x42] : Array Value).setIfInBounds (j.toNat * 6 + 3) (.int .i64 v) = #[.bool x0, .int .i64 x1, .int .i64 x2, .int .i64 (pt 0 j v x3), .bool x4, .int .i64 x5, .bool x6, .int .i64 x7, .int .i64 x8, .int .i64 (pt 1 j v x9), .bool x10, .int .i64 x11, .bool x12, .int .i64 x13, .int .i64 x14, .int .i64 (pt 2 j v x15), .bool x16, .int .i64 x17, .bool x18, .int .i64 x19, .int .i64 x20, .int .i64 (pt 3 j v x21), .bool x22, .int .i64 x23, .bool x24, .int .i64 x25, .int .i64 x26, .int .i64 (pt 4 j v x27), .bool x28, .int .i64 x29, .bool x30, .int .i64 x31, .int .i64 x32, .int .i64 (pt 5 j v x33), .bool x34, .int .i64 x35, .bool x36, .int .i64 x37, .int .i64 x38, .int .i64 (pt 6 j v x39), .bool x40, .int .i64 x41, .int .i64 x42] := by
  obtain rfl | rfl | rfl | rfl | rfl | rfl | rfl : j = 0 ∨ j = 1 ∨ j = 2 ∨ j = 3 ∨ j = 4 ∨ j = 5 ∨ j = 6 := (by omega) <;> rfl
theorem cellA27_0_4 {W : World} {g : Nat} {x0 : Bool} {x1 : Int} {x2 : Int} {x3 : Int} {x4 : Bool} {x5 : Int} {x6 : Bool} {x7 : Int} {x8 : Int} {x9 : Int} {x10 : Bool} {x11 : Int} {x12 : Bool} {x13 : Int} {x14 : Int} {x15 : Int} {x16 : Bool} {x17 : Int} {x18 : Bool} {x19 : Int} {x20 : Int} {x21 : Int} {x22 : Bool} {x23 : Int} {x24 : Bool} {x25 : Int} {x26 : Int} {x27 : Int} {x28 : Bool} {x29 : Int} {x30 : Bool} {x31 : Int} {x32 : Int} {x33 : Int} {x34 : Bool} {x35 : Int} {x36 : Bool} {x37 : Int} {x38 : Int} {x39 : Int} {x40 : Bool} {x41 : Int} {x42 : Int} (j : Int) (h0 : 0 ≤ j) (h1 : j < 7) (h : W.heap[g]? = some (.cells #[.bool x0, .int .i64 x1, .int .i64 x2, .int .i64 x3, .bool x4, .int .i64 x5, .bool x6, .int .i64 x7, .int .i64 x8, .int .i64 x9, .bool x10, .int .i64 x11, .bool x12, .int .i64 x13, .int .i64 x14, .int .i64 x15, .bool x16, .int .i64 x17, .bool x18, .int .i64 x19, .int .i64 x20, .int .i64 x21, .bool x22, .int .i64 x23, .bool x24, .int .i64 x25, .int .i64 x26, .int .i64 x27, .bool x28, .int .i64 x29, .bool x30, .int .i64 x31, .int .i64 x32, .int .i64 x33, .bool x34, .int .i64 x35, .bool x36, .int .i64 x37, .int .i64 x38, .int .i64 x39, .bool x40, .int .i64 x41, .int .i64 x42] 27 (0, 0))) : W.cell? ⟨g, j.toNat * 6 + 4, none⟩ = some (.bool (pk7 x4 x10 x16 x22 x28 x34 x40 j)) := by
  refine (blk_cell h _).trans ?_
  obtain rfl | rfl | rfl | rfl | rfl | rfl | rfl : j = 0 ∨ j = 1 ∨ j = 2 ∨ j = 3 ∨ j = 4 ∨ j = 5 ∨ j = 6 := (by omega) <;> rfl
theorem putA27_0_4 {x0 : Bool} {x1 : Int} {x2 : Int} {x3 : Int} {x4 : Bool} {x5 : Int} {x6 : Bool} {x7 : Int} {x8 : Int} {x9 : Int} {x10 : Bool} {x11 : Int} {x12 : Bool} {x13 : Int} {x14 : Int} {x15 : Int} {x16 : Bool} {x17 : Int} {x18 : Bool} {x19 : Int} {x20 : Int} {x21 : Int} {x22 : Bool} {x23 : Int} {x24 : Bool} {x25 : Int} {x26 : Int} {x27 : Int} {x28 : Bool} {x29 : Int} {x30 : Bool} {x31 : Int} {x32 : Int} {x33 : Int} {x34 : Bool} {x35 : Int} {x36 : Bool} {x37 : Int} {x38 : Int} {x39 : Int} {x40 : Bool} {x41 : Int} {x42 : Int} (j : Int) (h0 : 0 ≤ j) (h1 : j < 7) (v : Bool) : (#[.bool x0, .int .i64 x1, .int .i64 x2, .int .i64 x3, .bool x4, .int .i64 x5, .bool x6, .int .i64 x7, .int .i64 x8, .int .i64 x9, .bool x10, .int .i64 x11, .bool x12, .int .i64 x13, .int .i64 x14, .int .i64 x15, .bool x16, .int .i64 x17, .bool x18, .int .i64 x19, .int .i64 x20, .int .i64 x21, .bool x22, .int .i64 x23, .bool x24, .int .i64 x25, .int .i64 x26, .int .i64 x27, .bool x28, .int .i64 x29, .bool x30, .int .i64 x31, .int .i64 x32, .int .i64 x33, .bool x34, .int .i64 x35, .bool x36, .int .i64 x37, .int .i64 x38, .int .i64 x39, .bool x40, .int .i64 x41, .int .i64 x42] : Array Value).setIfInBounds (j.toNat * 6 + 4) (.bool v) = #[.bool x0, .int .i64 x1, .int .i64 x2, .int .i64 x3, .bool (pt 0 j v x4), .int .i64 x5, .bool x6, .int .i64 x7, .int .i64 x8, .int .i64 x9, .bool (pt 1 j v x10), .int .i64 x11, .bool x12, .int .i64 x13, .int .i64 x14, .int .i64 x15, .bool (pt 2 j v x16), .int .i64 x17, .bool x18, .int .i64 x19, .int .i64 x20, .int .i64 x21, .bool (pt 3 j v x22), .int .i64 x23, .bool x24, .int .i64 x25, .int .i64 x26, .int .i64 x27, .bool (pt 4 j v x28), .int .i64 x29, .bool x30, .int .i64 x31, .int .i64 x32, .int .i64 x33, .bool (pt 5 j v x34), .int .i64 x35, .bool x36, .int .i64 x37, .int .i64 x38, .int .i64 x39, .bool (pt 6 j v x40), .int .i64 x41, .int .i64 x42] := by
  obtain rfl | rfl | rfl | rfl | rfl | rfl | rfl : j = 0 ∨ j = 1 ∨ j = 2 ∨ j = 3 ∨ j = 4 ∨ j = 5 ∨ j = 6 := (by omega) <;> rfl
theorem cellA27_0_5 {W : World} {g : Nat} {x0 : Bool} {x1 : Int} {x2 : Int} {x3 : Int} {x4 : Bool} {x5 : Int} {x6 : Bool} {x7 : Int} {x8 : Int} {x9 : Int} {x10 : Bool} {x11 : Int} {x12 : Bool} {x13 : Int} {x14 : Int} {x15 : Int} {x16 : Bool} {x17 : Int} {x18 : Bool} {x19 : Int} {x20 : Int} {x21 : Int} {x22 : Bool} {x23 : Int} {x24 : Bool} {x25 : Int} {x26 : Int} {x27 : Int} {x28 : Bool} {x29 : Int} {x30 : Bool} {x31 : Int} {x32 : Int} {x33 : Int} {x34 : Bool} {x35 : Int} {x36 : Bool} {x37 : Int} {x38 : Int} {x39 : Int} {x40 : Bool} {x41 : Int} {x42 : Int} (j : Int) (h0 : 0 ≤ j) (h1 : j < 7) (h : W.heap[g]? = some (.cells #[.bool x0, .int .i64 x1, .int .i64 x2, .int .i64 x3, .bool x4, .int .i64 x5, .bool x6, .int .i64 x7, .int .i64 x8, .int .i64 x9, .bool x10, .int .i64 x11, .bool x12, .int .i64 x13, .int .i64 x14, .int .i64 x15, .bool x16, .int .i64 x17, .bool x18, .int .i64 x19, .int .i64 x20, .int .i64 x21, .bool x22, .int .i64 x23, .bool x24, .int .i64 x25, .int .i64 x26, .int .i64 x27, .bool x28, .int .i64 x29, .bool x30, .int .i64 x31, .int .i64 x32, .int .i64 x33, .bool x34, .int .i64 x35, .bool x36, .int .i64 x37, .int .i64 x38, .int .i64 x39, .bool x40, .int .i64 x41, .int .i64 x42] 27 (0, 0))) : W.cell? ⟨g, j.toNat * 6 + 5, none⟩ = some (.int .i64 (pk7 x5 x11 x17 x23 x29 x35 x41 j)) := by
  refine (blk_cell h _).trans ?_
  obtain rfl | rfl | rfl | rfl | rfl | rfl | rfl : j = 0 ∨ j = 1 ∨ j = 2 ∨ j = 3 ∨ j = 4 ∨ j = 5 ∨ j = 6 := (by omega) <;> rfl
theorem putA27_0_5 {x0 : Bool} {x1 : Int} {x2 : Int} {x3 : Int} {x4 : Bool} {x5 : Int} {x6 : Bool} {x7 : Int} {x8 : Int} {x9 : Int} {x10 : Bool} {x11 : Int} {x12 : Bool} {x13 : Int} {x14 : Int} {x15 : Int} {x16 : Bool} {x17 : Int} {x18 : Bool} {x19 : Int} {x20 : Int} {x21 : Int} {x22 : Bool} {x23 : Int} {x24 : Bool} {x25 : Int} {x26 : Int} {x27 : Int} {x28 : Bool} {x29 : Int} {x30 : Bool} {x31 : Int} {x32 : Int} {x33 : Int} {x34 : Bool} {x35 : Int} {x36 : Bool} {x37 : Int} {x38 : Int} {x39 : Int} {x40 : Bool} {x41 : Int} {x42 : Int} (j : Int) (h0 : 0 ≤ j) (h1 : j < 7) (v : Int) : (#[.bool x0, .int .i64 x1, .int .i64 x2, .int .i64 x3, .bool x4, .int .i64 x5, .bool x6, .int .i64 x7, .int .i64 x8, .int .i64 x9, .bool x10, .int .i64 x11, .bool x12, .int .i64 x13, .int .i64 x14, .int .i64 x15, .bool x16, .int .i64 x17, .bool x18, .int .i64 x19, .int .i64 x20, .int .i64 x21, .bool x22, .int .i64 x23, .bool x24, .int .i64 x25, .int .i64 x26, .int .i64 x27, .bool x28, .int .i64 x29, .bool x30, .int .i64 x31, .int .i64 x32, .int .i64 x33, .bool x34, .int .i64 x35, .bool x36, .int .i64 x37, .int .i64 x38, .int .i64 x39, .bool x40, .int .i64 x41, .int .i64 x42] : Array Value).setIfInBounds (j.toNat * 6 + 5) (.int .i64 v) = #[.bool x0, .int .i64 x1, .int .i64 x2, .int .i64 x3, .bool x4, .int .i64 (pt 0 j v x5), .bool x6, .int .i64 x7, .int .i64 x8, .int .i64 x9, .bool x10, .int .i64 (pt 1 j v x11), .bool x12, .int .i64 x13, .int .i64 x14, .int .i64 x15, .bool x16, .int .i64 (pt 2 j v x17), .bool x18, .int .i64 x19, .int .i64 x20, .int .i64 x21, .bool x22, .int .i64 (pt 3 j v x23), .bool x24, .int .i64 x25, .int .i64 x26, .int .i64 x27, .bool x28, .int .i64 (pt 4 j v x29), .bool x30, .int .i64 x31, .int .i64 x32, .int .i64 x33, .bool x34, .int .i64 (pt 5 j v x35), .bool x36, .int .i64 x37, .int .i64 x38, .int .i64 x39, .bool x40, .int .i64 (pt 6 j v x41), .int .i64 x42] := by
  obtain rfl | rfl | rfl | rfl | rfl | rfl | rfl : j = 0 ∨ j = 1 ∨ j = 2 ∨ j = 3 ∨ j = 4 ∨ j = 5 ∨ j = 6 := (by omega) <;> rfl
theorem cellA61_0_0 {W : World} {g : Nat} {x0 : Int} {x1 : Int} {x2 : Int} {x3 : Int} {x4 : Int} {x5 : Int} {x6 : Int} (j : Int) (h0 : 0 ≤ j) (h1 : j < 7) (h : W.heap[g]? = some (.cells #[.int .i64 x0, .int .i64 x1, .int .i64 x2, .int .i64 x3, .int .i64 x4, .int .i64 x5, .int .i64 x6] 61 (0, 0))) : W.cell? ⟨g, j.toNat, none⟩ = some (.int .i64 (pk7 x0 x1 x2 x3 x4 x5 x6 j)) := by
  refine (blk_cell h _).trans ?_
  obtain rfl | rfl | rfl | rfl | rfl | rfl | rfl : j = 0 ∨ j = 1 ∨ j = 2 ∨ j = 3 ∨ j = 4 ∨ j = 5 ∨ j = 6 := (by omega) <;> rfl
theorem putA61_0_0 {x0 : Int} {x1 : Int} {x2 : Int} {x3 : Int} {x4 : Int} {x5 : Int} {x6 : Int} (j : Int) (h0 : 0 ≤ j) (h1 : j < 7) (v : Int) : (#[.int .i64 x0, .int .i64 x1, .int .i64 x2, .int .i64 x3, .int .i64 x4, .int .i64 x5, .int .i64 x6] : Array Value).setIfInBounds (j.toNat) (.int .i64 v) = #[.int .i64 (pt 0 j v x0), .int .i64 (pt 1 j v x1), .int .i64 (pt 2 j v x2), .int .i64 (pt 3 j v x3), .int .i64 (pt 4 j v x4), .int .i64 (pt 5 j v x5), .int .i64 (pt 6 j v x6)] := by
  obtain rfl | rfl | rfl | rfl | rfl | rfl | rfl : j = 0 ∨ j = 1 ∨ j = 2 ∨ j = 3 ∨ j = 4 ∨ j = 5 ∨ j = 6 := (by omega) <;> rfl
end Go.Proofs.YtjenkcgjpdappaaW.PrintWords
