/- A slice of words of sixteen bits that came in reads as a list of words. No condition. -/
import Derived.Test.YtdncfnlhkacpaaaPx0
import Derived.Test.YtdncfnlhkacpaaaPlainAll
import Derived.Deep.Slices
import Derived.ChangeArms
import Derived.ProofKit
import Derived.OpenShut
namespace Go.Proofs.Ytdncfnlhkacpaaa.Read
open Go.ChangeShapes Go.WideShapes Go.Deep Go.RowKit Go.Proofs.Ytdncfnlhkacpaaa.P Go.Proofs.Ytdncfnlhkacpaaa.Plain Go.Proofs.YtdncfnlhkacpaaaW.PrintWords Go.Proofs.YtdncfnlhkacpaaaW.PrintLast
section
variable {H : Type} {enc : TypeId × Value → H} {W : World} {base : Nat} {spare : Nat → Bool} {held : Bool}

def cells22 (t : S22) : List Value := [.int .u8 t.f0, .int .u8 t.f1, .int .u8 t.f2, .int .u8 t.f3, .int .u8 t.f4, .int .u8 t.f5, .int .u8 t.f6, .int .u8 t.f7, .int .u8 t.f8, .int .u8 t.f9, .int .u8 t.f10, .int .u8 t.f11, .int .u8 t.f12, .int .u8 t.f13, .int .u8 t.f14, .int .u8 t.f15]
theorem sixteen : ∀ (zs : List Int), zs.length = 16 → ∃ t : S22, zs = [t.f0, t.f1, t.f2, t.f3, t.f4, t.f5, t.f6, t.f7, t.f8, t.f9, t.f10, t.f11, t.f12, t.f13, t.f14, t.f15]
  | [a0, a1, a2, a3, a4, a5, a6, a7, a8, a9, a10, a11, a12, a13, a14, a15], _ => ⟨⟨a0, a1, a2, a3, a4, a5, a6, a7, a8, a9, a10, a11, a12, a13, a14, a15⟩, rfl⟩
theorem open_word {fuel : Nat} {cs : List Value} {x : DataW H × List MemPlace} (h : DataW.trod enc Try.prog W base spare held fuel 22 cs = some x) : ∃ t : S22, cs = cells22 t ∧ okBits (t16 t) := by
  obtain ⟨xs, m, _, _, hl, hlen, hel⟩ := DataW.trod_array Try.underlying22 h
  have hC : Try.prog.cellsOf 22 = 16 := by kernel_rfl
  have hc5 : Try.prog.cellsOf 5 = 1 := by kernel_rfl
  rw [hC] at hl
  have key : ∀ i (hi : i < cs.length), ∃ a, cs[i] = .int .u8 a ∧ (Lit.int .u8 a).wf = true := by
    intro i hi
    have h1 := hel i (by omega)
    rw [hc5, Nat.mul_one, List.getElem?_eq_getElem (by omega)] at h1
    rw [List.drop_eq_getElem_cons hi] at h1
    obtain ⟨a, e2, _, w1⟩ := DataW.trod_int Try.underlying5 h1
    simp only [List.take_succ_cons, List.take_zero, List.cons.injEq, and_true] at e2
    exact ⟨a, e2, w1⟩
  let g : Value → Int := fun v => match v with | .int _ a => a | _ => 0
  have hm : cs = (cs.map g).map (Value.int .u8) := by
    refine List.ext_getElem (by simp) fun i h1 h2 => ?_
    obtain ⟨a, ha, _⟩ := key i h1
    simp only [List.getElem_map, ha, g]
  obtain ⟨t, ht⟩ := sixteen (cs.map g) (by rw [List.length_map, hl])
  have hw : ∀ z ∈ cs.map g, 0 ≤ z := by
    intro z hz
    obtain ⟨v, hv1, rfl⟩ := List.mem_map.1 hz
    obtain ⟨i, hi, rfl⟩ := List.getElem_of_mem hv1
    obtain ⟨a, ha, hw⟩ := key i hi
    have h0 : 0 ≤ a ∧ a ≤ 255 := by simpa [Lit.wf, IntKind.min, IntKind.max, IntKind.signed, IntKind.bits] using hw
    rw [ha]
    exact h0.1
  rw [ht] at hm hw
  exact ⟨t, by rw [hm]; rfl, hw t.f1 (by simp), hw t.f2 (by simp), hw t.f3 (by simp), hw t.f4 (by simp), hw t.f5 (by simp)⟩

theorem open_words {sl : TypeId} (hsl : Try.prog.underlying sl = some (.slice 22)) {fuel : Nat} {cs : List Value} {x : DataW H × List MemPlace} (h : DataW.trod enc Try.prog W base spare held fuel sl cs = some x) :
    ∃ (A : Option Addr) (cap : Nat) (l : List S22), cs = [.slice A l.length cap] ∧ l.length ≤ cap ∧ Kd.C k22 W A l.length l ∧ okL l := by
  rcases open_slice hsl h with ⟨rfl, _⟩ | ⟨a, len, cap, m, n, D, Pl, rfl, hb, hl, hm, hmm, hx, hi⟩
  · exact ⟨none, 0, [], rfl, Nat.le_refl _, Kd.C_nil k22 W, fun t ht => by cases ht⟩
  · have hc : Try.prog.cellsOf 22 = 16 := by kernel_rfl
    have hle : len ≤ m := by rw [hmm]; split <;> omega
    rw [hc] at hi
    have key : ∀ i, i < len → ∃ t : S22, (∀ j u, (cells22 t)[j]? = some u → W.cell? (a.add (i * 16 + j)) = some u) ∧ okBits (t16 t) := by
      intro i hil
      obtain ⟨cs', hcells, ht⟩ := hi i (by omega)
      obtain ⟨t, rfl, hok⟩ := open_word ht
      obtain ⟨_, _, hat⟩ := World.cells?_some hcells
      refine ⟨t, fun j u hu => ?_, hok⟩
      have hj : j < 16 := by
        rcases Nat.lt_or_ge j 16 with h | h
        · exact h
        · rw [List.getElem?_eq_none (by exact h)] at hu; cases hu
      have h0 := hat j (by first | exact hj | simpa using hj)
      rw [Deep.add_add] at h0
      rw [h0]
      exact hu
    letI : Inhabited S22 := ⟨z22⟩
    obtain ⟨V, hV⟩ := choose_lt (α := S22) (n := len) (p := fun i t => (∀ j u, (cells22 t)[j]? = some u → W.cell? (a.add (i * 16 + j)) = some u) ∧ okBits (t16 t)) key
    refine ⟨some a, cap, (List.range len).map V, by simp, by simpa using hl, ?_, ?_⟩
    · refine ⟨rfl, by simp; unfold maxLen at hm; omega, fun _ => ⟨a, rfl, fun j p hj => ?_⟩⟩
      simp only [List.getElem?_map, Option.map_eq_some_iff] at hj
      obtain ⟨q, hq, rfl⟩ := hj
      have hjl : j < len := by
        rcases Nat.lt_or_ge j len with h | h
        · exact h
        · rw [List.getElem?_eq_none (by simpa using h)] at hq; cases hq
      have hqj : q = j := by
        rw [List.getElem?_range hjl] at hq
        exact (Option.some.inj hq).symm
      subst hqj
      exact ⟨cells22 (V q), rfl, k22_mk W (V q), fun i u hu => (hV q hjl).1 i u hu⟩
    · intro t ht
      obtain ⟨i, hi', rfl⟩ := List.mem_map.1 ht
      exact (hV i (List.mem_range.1 hi')).2
end
end Go.Proofs.Ytdncfnlhkacpaaa.Read
