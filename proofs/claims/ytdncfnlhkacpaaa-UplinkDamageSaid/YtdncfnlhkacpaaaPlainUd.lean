/- Plain facts on what the printed functions of package uplink and of its reference answer: words, key codes, the receiver. Condition: bits are from 0 to 255. -/
import Derived.Test.YtdncfnlhkacpaaaPx9
import Derived.Test.YtdncfnlhkacpaaaPx10
namespace Go.Proofs.Ytdncfnlhkacpaaa.Plain
open Go.RowKit Go.Proofs.Ytdncfnlhkacpaaa.P Go.Proofs.YtdncfnlhkacpaaaW.PrintWords Go.Proofs.YtdncfnlhkacpaaaW.PrintLast

abbrev T16 := Int × Int × Int × Int × Int × Int × Int × Int × Int × Int × Int × Int × Int × Int × Int × Int
abbrev T17 := Int × Int × Int × Int × Int × Int × Int × Int × Int × Int × Int × Int × Int × Int × Int × Int × Int

instance d5 : DecidableEq (Int × Int × Int × Int × Int) := inferInstance
instance d9 : DecidableEq (Int × Int × Int × Int × Int × Int × Int × Int × Int) := inferInstance
instance d13 : DecidableEq (Int × Int × Int × Int × Int × Int × Int × Int × Int × Int × Int × Int × Int) := inferInstance
instance d17 : DecidableEq T17 := inferInstance

/-- The word of five bits. -/
def wb (a b c d e : Int) : T16 := (1, a, b, c, d, e, 1 - a, 1 - b, 1 - c, 1 - d, 1 - e, a, b, c, d, e)
/-- The word of a key code. -/
def w16 (y : Int) : T16 := wb (y / 16 % 2) (y / 8 % 2) (y / 4 % 2) (y / 2 % 2) (y % 2)
def ext (t : T16) (e : Int) : T17 := (t.1, t.2.1, t.2.2.1, t.2.2.2.1, t.2.2.2.2.1, t.2.2.2.2.2.1, t.2.2.2.2.2.2.1, t.2.2.2.2.2.2.2.1, t.2.2.2.2.2.2.2.2.1, t.2.2.2.2.2.2.2.2.2.1, t.2.2.2.2.2.2.2.2.2.2.1, t.2.2.2.2.2.2.2.2.2.2.2.1, t.2.2.2.2.2.2.2.2.2.2.2.2.1, t.2.2.2.2.2.2.2.2.2.2.2.2.2.1, t.2.2.2.2.2.2.2.2.2.2.2.2.2.2.1, t.2.2.2.2.2.2.2.2.2.2.2.2.2.2.2, e)
def zero16 : T16 := (0, 0, 0, 0, 0, 0, 0, 0, 0, 0, 0, 0, 0, 0, 0, 0)

theorem fin32 {Q : Int → Prop} (h : ∀ i : Fin 32, Q (Int.ofNat i.val)) : ∀ y : Int, 0 ≤ y → y < 32 → Q y := by
  intro y h0 h1
  have := h ⟨y.toNat, by omega⟩
  simp only [Int.ofNat_eq_natCast] at this
  rwa [Int.toNat_of_nonneg h0] at this

theorem word_at : ∀ y : Int, 0 ≤ y → y < 32 → ∀ k, 20 ≤ k → uplink_Word.f k y = some (ext (w16 y) 0) := by
  intro y h0 h1 k hk
  refine at_rounds (g := fun k => uplink_Word.f k y) (fun k => uplink_Word.mono _ k) hk ?_
  exact fin32 (Q := fun y => uplink_Word.f 20 y = some (ext (w16 y) 0)) (by decide +kernel) y h0 h1
theorem word_out (y : Int) (h : y < 0 ∨ 31 < y) (k : Nat) (hk : 1 ≤ k) : uplink_Word.f k y = some (ext zero16 3) := by
  obtain ⟨k, rfl⟩ : ∃ j, k = j + 1 := ⟨k - 1, by omega⟩
  unfold uplink_Word.f
  by_cases h0 : y < 0
  · rw [if_pos h0]; rfl
  · rw [if_neg h0, show decide (y > 31) = true from by simp; omega]; rfl
theorem w16_inj : ∀ y : Int, 0 ≤ y → y < 32 → ∀ z : Int, 0 ≤ z → z < 32 → w16 y = w16 z → y = z := by
  intro y h0 h1 z h2 h3 h
  simp only [w16, wb, Prod.mk.injEq] at h
  omega

/-- The key code of a tuple of bits, as the program tells it. -/
def K16 (k : Nat) (a : T16) : Option (Int × Bool) := uplink_Key.f k a.1 a.2.1 a.2.2.1 a.2.2.2.1 a.2.2.2.2.1 a.2.2.2.2.2.1 a.2.2.2.2.2.2.1 a.2.2.2.2.2.2.2.1 a.2.2.2.2.2.2.2.2.1 a.2.2.2.2.2.2.2.2.2.1 a.2.2.2.2.2.2.2.2.2.2.1 a.2.2.2.2.2.2.2.2.2.2.2.1 a.2.2.2.2.2.2.2.2.2.2.2.2.1 a.2.2.2.2.2.2.2.2.2.2.2.2.2.1 a.2.2.2.2.2.2.2.2.2.2.2.2.2.2.1 a.2.2.2.2.2.2.2.2.2.2.2.2.2.2.2
theorem K16_mono (a : T16) (k : Nat) : LeO (K16 k a) (K16 (k + 1) a) := uplink_Key.mono _ _ _ _ _ _ _ _ _ _ _ _ _ _ _ _ k
theorem key_word : ∀ y : Int, 0 ≤ y → y < 32 → ∀ k, 20 ≤ k → K16 k (w16 y) = some (y, true) := by
  intro y h0 h1 k hk
  refine at_rounds (g := fun k => K16 k (w16 y)) (fun k => K16_mono _ k) hk ?_
  exact fin32 (Q := fun y => K16 20 (w16 y) = some (y, true)) (by decide +kernel) y h0 h1

/-! ### number, complement -/
theorem number_at (a b c d e : Int) (ha : 0 ≤ a) (hb : 0 ≤ b) (hc : 0 ≤ c) (hd : 0 ≤ d) (he : 0 ≤ e) (k : Nat) :
    uplink_group_number.f (k + 6) a b c d e = some (0, false) ∨ ((a = 0 ∨ a = 1) ∧ (b = 0 ∨ b = 1) ∧ (c = 0 ∨ c = 1) ∧ (d = 0 ∨ d = 1) ∧ (e = 0 ∨ e = 1)) ∧ uplink_group_number.f (k + 6) a b c d e = some (16 * a + 8 * b + 4 * c + 2 * d + e, true) := by
  by_cases h1 : a > 1
  · left; simp [uplink_group_number.f, uplink_group_number.l0, pk5, h1]
  have h1' : a = 0 ∨ a = 1 := by omega
  by_cases h2 : b > 1
  · left; rcases h1' with rfl | rfl <;> simp [uplink_group_number.f, uplink_group_number.l0, pk5, wrap64, h2]
  have h2' : b = 0 ∨ b = 1 := by omega
  by_cases h3 : c > 1
  · left; rcases h1' with rfl | rfl <;> rcases h2' with rfl | rfl <;> simp [uplink_group_number.f, uplink_group_number.l0, pk5, wrap64, h3]
  have h3' : c = 0 ∨ c = 1 := by omega
  by_cases h4 : d > 1
  · left; rcases h1' with rfl | rfl <;> rcases h2' with rfl | rfl <;> rcases h3' with rfl | rfl <;> simp [uplink_group_number.f, uplink_group_number.l0, pk5, wrap64, h4]
  have h4' : d = 0 ∨ d = 1 := by omega
  by_cases h5 : e > 1
  · left; rcases h1' with rfl | rfl <;> rcases h2' with rfl | rfl <;> rcases h3' with rfl | rfl <;> rcases h4' with rfl | rfl <;> simp [uplink_group_number.f, uplink_group_number.l0, pk5, wrap64, h5]
  have h5' : e = 0 ∨ e = 1 := by omega
  right
  refine ⟨⟨h1', h2', h3', h4', h5'⟩, ?_⟩
  rcases h1' with rfl | rfl <;> rcases h2' with rfl | rfl <;> rcases h3' with rfl | rfl <;> rcases h4' with rfl | rfl <;> rcases h5' with rfl | rfl <;> simp [uplink_group_number.f, uplink_group_number.l0, pk5, wrap64]
theorem complement_at (a b c d e : Int) (k : Nat) : uplink_group_complement.f (k + 6) a b c d e = some ((1 - a) % 256, (1 - b) % 256, (1 - c) % 256, (1 - d) % 256, (1 - e) % 256) := by
  simp [uplink_group_complement.f, uplink_group_complement.l0, pk5, pt, wrap64]

theorem w16_wb (a b c d e : Int) (ha : a = 0 ∨ a = 1) (hb : b = 0 ∨ b = 1) (hc : c = 0 ∨ c = 1) (hd : d = 0 ∨ d = 1) (he : e = 0 ∨ e = 1) : w16 (16 * a + 8 * b + 4 * c + 2 * d + e) = wb a b c d e := by
  rcases ha with rfl | rfl <;> rcases hb with rfl | rfl <;> rcases hc with rfl | rfl <;> rcases hd with rfl | rfl <;> rcases he with rfl | rfl <;> rfl
/-- What Key answers: a key code whose word it is, or none. -/
theorem key_or (a : T16) (h1 : 0 ≤ a.2.1) (h2 : 0 ≤ a.2.2.1) (h3 : 0 ≤ a.2.2.2.1) (h4 : 0 ≤ a.2.2.2.2.1) (h5 : 0 ≤ a.2.2.2.2.2.1) (k : Nat) :
    K16 (k + 6) a = some (0, false) ∨ ∃ y, 0 ≤ y ∧ y < 32 ∧ a = w16 y := by
  obtain ⟨a0, a1, a2, a3, a4, a5, a6, a7, a8, a9, a10, a11, a12, a13, a14, a15⟩ := a
  unfold K16 uplink_Key.f
  dsimp only at h1 h2 h3 h4 h5 ⊢
  rcases number_at a1 a2 a3 a4 a5 h1 h2 h3 h4 h5 k with h | ⟨⟨g1, g2, g3, g4, g5⟩, h⟩
  · left
    simp [h]
  rw [h, complement_at]
  simp only [Option.bind_some, if_true]
  by_cases c0 : a0 = 1
  · rw [if_pos c0]
    by_cases c1 : (!(a1 == a11) || (!(a2 == a12) || (!(a3 == a13) || (!(a4 == a14) || (!(a5 == a15)))))) = true
    · left; rw [if_pos c1]
    · rw [if_neg c1]
      by_cases c2 : (!(a6 == (1 - a1) % 256) || (!(a7 == (1 - a2) % 256) || (!(a8 == (1 - a3) % 256) || (!(a9 == (1 - a4) % 256) || (!(a10 == (1 - a5) % 256)))))) = true
      · left; rw [if_pos c2]
      · right
        have p : ∀ b : Int, b = 0 ∨ b = 1 → (1 - b) % 256 = 1 - b := by intro b hb; rcases hb with rfl | rfl <;> rfl
        rw [p a1 g1, p a2 g2, p a3 g3, p a4 g4, p a5 g5] at c2
        simp only [Bool.or_eq_true, Bool.not_eq_true', beq_eq_false_iff_ne, not_or, ne_eq, Decidable.not_not] at c1 c2
        refine ⟨16 * a1 + 8 * a2 + 4 * a3 + 2 * a4 + a5, by omega, by omega, ?_⟩
        rw [w16_wb a1 a2 a3 a4 a5 g1 g2 g3 g4 g5]
        obtain ⟨e1, e2, e3, e4, e5⟩ := c1
        obtain ⟨f1, f2, f3, f4, f5⟩ := c2
        unfold wb
        rw [c0, f1, f2, f3, f4, f5, ← e1, ← e2, ← e3, ← e4, ← e5]
  · left; rw [if_neg c0]

def okBits (a : T16) : Prop := 0 ≤ a.2.1 ∧ 0 ≤ a.2.2.1 ∧ 0 ≤ a.2.2.2.1 ∧ 0 ≤ a.2.2.2.2.1 ∧ 0 ≤ a.2.2.2.2.2.1
open Classical in
/-- The key code of a word, told plainly. -/
noncomputable def keyT (a : T16) : Int × Bool := if h : ∃ y, 0 ≤ y ∧ y < 32 ∧ a = w16 y then (h.choose, true) else (0, false)
theorem keyOf_word (y : Int) (h0 : 0 ≤ y) (h1 : y < 32) : keyT (w16 y) = (y, true) := by
  unfold keyT
  have h : ∃ z, 0 ≤ z ∧ z < 32 ∧ w16 y = w16 z := ⟨y, h0, h1, rfl⟩
  rw [dif_pos h]
  obtain ⟨g0, g1, g2⟩ := h.choose_spec
  rw [← w16_inj y h0 h1 _ g0 g1 g2]
theorem keyOf_none (a : T16) (h : ¬ ∃ y, 0 ≤ y ∧ y < 32 ∧ a = w16 y) : keyT a = (0, false) := by unfold keyT; rw [dif_neg h]
theorem key_at (a : T16) (hb : okBits a) (k : Nat) (hk : 20 ≤ k) : K16 k a = some (keyT a) := by
  by_cases h : ∃ y, 0 ≤ y ∧ y < 32 ∧ a = w16 y
  · obtain ⟨y, h0, h1, rfl⟩ := h
    rw [key_word y h0 h1 k hk, keyOf_word y h0 h1]
  · obtain ⟨j, rfl⟩ : ∃ j, k = j + 6 := ⟨k - 6, by omega⟩
    rcases key_or a hb.1 hb.2.1 hb.2.2.1 hb.2.2.2.1 hb.2.2.2.2 j with g | g
    · rw [g, keyOf_none a h]
    · exact absurd g h

/-! ### the reference's Key -/
/-! ### the receiver -/
/-- The state after a word (locked, errors), the key code that is delivered, and whether one is. -/
noncomputable def recv (l : Bool) (n : Int) (a : T16) : Bool × Int × Int × Bool :=
  if (keyT a).2 = true then (if l = true then ((keyT a).1 != 18, n, 0, false) else (l, n, (keyT a).1, true)) else (if n < 32767 then (true, wrap64 (n + 1), 0, false) else (true, n, 0, false))
def U16 (k : Nat) (l : Bool) (n : Int) (a : T16) : Option (Bool × Int × Int × Bool) := uplink_Receive.f k l n a.1 a.2.1 a.2.2.1 a.2.2.2.1 a.2.2.2.2.1 a.2.2.2.2.2.1 a.2.2.2.2.2.2.1 a.2.2.2.2.2.2.2.1 a.2.2.2.2.2.2.2.2.1 a.2.2.2.2.2.2.2.2.2.1 a.2.2.2.2.2.2.2.2.2.2.1 a.2.2.2.2.2.2.2.2.2.2.2.1 a.2.2.2.2.2.2.2.2.2.2.2.2.1 a.2.2.2.2.2.2.2.2.2.2.2.2.2.1 a.2.2.2.2.2.2.2.2.2.2.2.2.2.2.1 a.2.2.2.2.2.2.2.2.2.2.2.2.2.2.2
theorem after_at (l : Bool) (n : Int) (a : T16) (hb : okBits a) (k : Nat) (hk : 20 ≤ k) :
    uplink_receiver_after.f k l n a.1 a.2.1 a.2.2.1 a.2.2.2.1 a.2.2.2.2.1 a.2.2.2.2.2.1 a.2.2.2.2.2.2.1 a.2.2.2.2.2.2.2.1 a.2.2.2.2.2.2.2.2.1 a.2.2.2.2.2.2.2.2.2.1 a.2.2.2.2.2.2.2.2.2.2.1 a.2.2.2.2.2.2.2.2.2.2.2.1 a.2.2.2.2.2.2.2.2.2.2.2.2.1 a.2.2.2.2.2.2.2.2.2.2.2.2.2.1 a.2.2.2.2.2.2.2.2.2.2.2.2.2.2.1 a.2.2.2.2.2.2.2.2.2.2.2.2.2.2.2 = some (recv l n a) := by
  have h := key_at a hb k hk
  unfold K16 at h
  unfold uplink_receiver_after.f recv
  rw [h]
  simp only [Option.bind_some]
  split <;> split <;> rfl
theorem recv_at (l : Bool) (n : Int) (a : T16) (hb : okBits a) (k : Nat) (hk : 20 ≤ k) : U16 k l n a = some (recv l n a) := by
  unfold U16 uplink_Receive.f
  rw [after_at l n a hb k hk]
  rfl
theorem awake_at (k : Nat) (hk : 60 ≤ k) : perilunelaw32_awake.f k = some true := at_rounds (g := fun k => perilunelaw32_awake.f k) (fun k => perilunelaw32_awake.mono k) hk (by decide +kernel)

end Go.Proofs.Ytdncfnlhkacpaaa.Plain
