/- Plain facts: a word with damage is no word unless it is the word itself; the law UplinkDamage. No condition. -/
import Derived.Test.YtdncfnlhkacpaaaPlainAd
import Derived.Test.YtdncfnlhkacpaaaPx21
set_option linter.unusedVariables false
namespace Go.Proofs.Ytdncfnlhkacpaaa.Plain
open Go.RowKit Go.Proofs.Ytdncfnlhkacpaaa.P Go.Proofs.YtdncfnlhkacpaaaW.PrintWords Go.Proofs.YtdncfnlhkacpaaaW.PrintLast
def at16 (a : T16) (i : Int) : Int := pk16 a.1 a.2.1 a.2.2.1 a.2.2.2.1 a.2.2.2.2.1 a.2.2.2.2.2.1 a.2.2.2.2.2.2.1 a.2.2.2.2.2.2.2.1 a.2.2.2.2.2.2.2.2.1 a.2.2.2.2.2.2.2.2.2.1 a.2.2.2.2.2.2.2.2.2.2.1 a.2.2.2.2.2.2.2.2.2.2.2.1 a.2.2.2.2.2.2.2.2.2.2.2.2.1 a.2.2.2.2.2.2.2.2.2.2.2.2.2.1 a.2.2.2.2.2.2.2.2.2.2.2.2.2.2.1 a.2.2.2.2.2.2.2.2.2.2.2.2.2.2.2 i
def put16 (a : T16) (i v : Int) : T16 := (pt 0 i v a.1, pt 1 i v a.2.1, pt 2 i v a.2.2.1, pt 3 i v a.2.2.2.1, pt 4 i v a.2.2.2.2.1, pt 5 i v a.2.2.2.2.2.1, pt 6 i v a.2.2.2.2.2.2.1, pt 7 i v a.2.2.2.2.2.2.2.1, pt 8 i v a.2.2.2.2.2.2.2.2.1, pt 9 i v a.2.2.2.2.2.2.2.2.2.1, pt 10 i v a.2.2.2.2.2.2.2.2.2.2.1, pt 11 i v a.2.2.2.2.2.2.2.2.2.2.2.1, pt 12 i v a.2.2.2.2.2.2.2.2.2.2.2.2.1, pt 13 i v a.2.2.2.2.2.2.2.2.2.2.2.2.2.1, pt 14 i v a.2.2.2.2.2.2.2.2.2.2.2.2.2.2.1, pt 15 i v a.2.2.2.2.2.2.2.2.2.2.2.2.2.2.2)
def rec16 (a : T16) : S22 := ⟨a.1, a.2.1, a.2.2.1, a.2.2.2.1, a.2.2.2.2.1, a.2.2.2.2.2.1, a.2.2.2.2.2.2.1, a.2.2.2.2.2.2.2.1, a.2.2.2.2.2.2.2.2.1, a.2.2.2.2.2.2.2.2.2.1, a.2.2.2.2.2.2.2.2.2.2.1, a.2.2.2.2.2.2.2.2.2.2.2.1, a.2.2.2.2.2.2.2.2.2.2.2.2.1, a.2.2.2.2.2.2.2.2.2.2.2.2.2.1, a.2.2.2.2.2.2.2.2.2.2.2.2.2.2.1, a.2.2.2.2.2.2.2.2.2.2.2.2.2.2.2⟩
theorem cases16 {j : Int} (h0 : 0 ≤ j) (h1 : j < 16) : j = 0 ∨ j = 1 ∨ j = 2 ∨ j = 3 ∨ j = 4 ∨ j = 5 ∨ j = 6 ∨ j = 7 ∨ j = 8 ∨ j = 9 ∨ j = 10 ∨ j = 11 ∨ j = 12 ∨ j = 13 ∨ j = 14 ∨ j = 15 := by omega
theorem at_put16 (a : T16) (i v j : Int) (h0 : 0 ≤ j) (h1 : j < 16) : at16 (put16 a i v) j = if i = j then v else at16 a j := by
  rcases cases16 h0 h1 with rfl | rfl | rfl | rfl | rfl | rfl | rfl | rfl | rfl | rfl | rfl | rfl | rfl | rfl | rfl | rfl <;> rfl
theorem ext16 {a b : T16} (h : ∀ j, 0 ≤ j → j < 16 → at16 a j = at16 b j) : a = b := by
  have h0 : a.1 = b.1 := h 0 (by decide) (by decide)
  have h1 : a.2.1 = b.2.1 := h 1 (by decide) (by decide)
  have h2 : a.2.2.1 = b.2.2.1 := h 2 (by decide) (by decide)
  have h3 : a.2.2.2.1 = b.2.2.2.1 := h 3 (by decide) (by decide)
  have h4 : a.2.2.2.2.1 = b.2.2.2.2.1 := h 4 (by decide) (by decide)
  have h5 : a.2.2.2.2.2.1 = b.2.2.2.2.2.1 := h 5 (by decide) (by decide)
  have h6 : a.2.2.2.2.2.2.1 = b.2.2.2.2.2.2.1 := h 6 (by decide) (by decide)
  have h7 : a.2.2.2.2.2.2.2.1 = b.2.2.2.2.2.2.2.1 := h 7 (by decide) (by decide)
  have h8 : a.2.2.2.2.2.2.2.2.1 = b.2.2.2.2.2.2.2.2.1 := h 8 (by decide) (by decide)
  have h9 : a.2.2.2.2.2.2.2.2.2.1 = b.2.2.2.2.2.2.2.2.2.1 := h 9 (by decide) (by decide)
  have h10 : a.2.2.2.2.2.2.2.2.2.2.1 = b.2.2.2.2.2.2.2.2.2.2.1 := h 10 (by decide) (by decide)
  have h11 : a.2.2.2.2.2.2.2.2.2.2.2.1 = b.2.2.2.2.2.2.2.2.2.2.2.1 := h 11 (by decide) (by decide)
  have h12 : a.2.2.2.2.2.2.2.2.2.2.2.2.1 = b.2.2.2.2.2.2.2.2.2.2.2.2.1 := h 12 (by decide) (by decide)
  have h13 : a.2.2.2.2.2.2.2.2.2.2.2.2.2.1 = b.2.2.2.2.2.2.2.2.2.2.2.2.2.1 := h 13 (by decide) (by decide)
  have h14 : a.2.2.2.2.2.2.2.2.2.2.2.2.2.2.1 = b.2.2.2.2.2.2.2.2.2.2.2.2.2.2.1 := h 14 (by decide) (by decide)
  have h15 : a.2.2.2.2.2.2.2.2.2.2.2.2.2.2.2 = b.2.2.2.2.2.2.2.2.2.2.2.2.2.2.2 := h 15 (by decide) (by decide)
  exact Prod.ext h0 (Prod.ext h1 (Prod.ext h2 (Prod.ext h3 (Prod.ext h4 (Prod.ext h5 (Prod.ext h6 (Prod.ext h7 (Prod.ext h8 (Prod.ext h9 (Prod.ext h10 (Prod.ext h11 (Prod.ext h12 (Prod.ext h13 (Prod.ext h14 h15))))))))))))))
theorem t16_rec (a : T16) : t16 (rec16 a) = a := rfl
theorem wb_at (a b c d e : Int) : at16 (wb a b c d e) 0 = 1 ∧ at16 (wb a b c d e) 1 = a ∧ at16 (wb a b c d e) 2 = b ∧ at16 (wb a b c d e) 3 = c ∧ at16 (wb a b c d e) 4 = d ∧ at16 (wb a b c d e) 5 = e ∧ at16 (wb a b c d e) 6 = 1 - a ∧ at16 (wb a b c d e) 7 = 1 - b ∧ at16 (wb a b c d e) 8 = 1 - c ∧ at16 (wb a b c d e) 9 = 1 - d ∧ at16 (wb a b c d e) 10 = 1 - e ∧ at16 (wb a b c d e) 11 = a ∧ at16 (wb a b c d e) 12 = b ∧ at16 (wb a b c d e) 13 = c ∧ at16 (wb a b c d e) 14 = d ∧ at16 (wb a b c d e) 15 = e := ⟨rfl, rfl, rfl, rfl, rfl, rfl, rfl, rfl, rfl, rfl, rfl, rfl, rfl, rfl, rfl, rfl⟩
theorem w16_bit (y j : Int) (h0 : 0 ≤ j) (h1 : j < 16) : at16 (w16 y) j = 0 ∨ at16 (w16 y) j = 1 := by
  unfold w16
  obtain ⟨e0, e1, e2, e3, e4, e5, e6, e7, e8, e9, e10, e11, e12, e13, e14, e15⟩ := wb_at (y / 16 % 2) (y / 8 % 2) (y / 4 % 2) (y / 2 % 2) (y % 2)
  rcases cases16 h0 h1 with rfl | rfl | rfl | rfl | rfl | rfl | rfl | rfl | rfl | rfl | rfl | rfl | rfl | rfl | rfl | rfl
  all_goals first | rw [e0] | rw [e1] | rw [e2] | rw [e3] | rw [e4] | rw [e5] | rw [e6] | rw [e7] | rw [e8] | rw [e9] | rw [e10] | rw [e11] | rw [e12] | rw [e13] | rw [e14] | rw [e15]
  all_goals omega
/-- two words that are alike but for two places are the same -/
theorem near_eq (y z p q : Int) (h : ∀ j, 0 ≤ j → j < 16 → j ≠ p → j ≠ q → at16 (w16 y) j = at16 (w16 z) j) : w16 y = w16 z := by
  have key : ∀ i, 1 ≤ i → i ≤ 5 → (∀ v, at16 (w16 v) (i + 5) = 1 - at16 (w16 v) i ∧ at16 (w16 v) (i + 10) = at16 (w16 v) i) → at16 (w16 y) i = at16 (w16 z) i := by
    intro i i0 i1 hv
    have hy := hv y
    have hz := hv z
    by_cases c1 : i ≠ p ∧ i ≠ q
    · exact h i (by omega) (by omega) c1.1 c1.2
    · by_cases c2 : i + 5 ≠ p ∧ i + 5 ≠ q
      · have := h (i + 5) (by omega) (by omega) c2.1 c2.2
        omega
      · have := h (i + 10) (by omega) (by omega) (by omega) (by omega)
        omega
  have k1 := key 1 (by decide) (by decide) (fun v => ⟨rfl, rfl⟩)
  have k2 := key 2 (by decide) (by decide) (fun v => ⟨rfl, rfl⟩)
  have k3 := key 3 (by decide) (by decide) (fun v => ⟨rfl, rfl⟩)
  have k4 := key 4 (by decide) (by decide) (fun v => ⟨rfl, rfl⟩)
  have k5 := key 5 (by decide) (by decide) (fun v => ⟨rfl, rfl⟩)
  have a1 : y / 16 % 2 = z / 16 % 2 := k1
  have a2 : y / 8 % 2 = z / 8 % 2 := k2
  have a3 : y / 4 % 2 = z / 4 % 2 := k3
  have a4 : y / 2 % 2 = z / 2 % 2 := k4
  have a5 : y % 2 = z % 2 := k5
  unfold w16
  rw [a1, a2, a3, a4, a5]
/-! ### what is done to a word -/
def inv1 (x : T16) (i : Int) : T16 := put16 x i ((1 - at16 x i) % 256)
def lost (L i : Int) : Prop := Go.bits .and .u16 (shr .u16 L i) 1 = 1
instance (L i : Int) : Decidable (lost L i) := inferInstanceAs (Decidable (_ = _))
def lostD (L : Int) : Nat → Int → T16 → T16
  | 0, _, x => x
  | d + 1, i, x => lostD L d (i + 1) (if lost L i then put16 x i 2 else x)
theorem lostD_at (L : Int) (d : Nat) : ∀ (i : Int) (x : T16) (j : Int), 0 ≤ j → j < 16 → 0 ≤ i → at16 (lostD L d i x) j = if i ≤ j ∧ j < i + d ∧ lost L j then 2 else at16 x j := by
  induction d with
  | zero =>
    intro i x j h0 h1 hi
    rw [lostD, if_neg (by omega)]
  | succ d ih =>
    intro i x j h0 h1 hi
    rw [lostD, ih (i + 1) _ j h0 h1 (by omega)]
    by_cases e : i = j
    · subst e
      rw [if_neg (by omega)]
      by_cases c : lost L i
      · rw [if_pos c, at_put16 x i 2 i h0 h1, if_pos rfl, if_pos ⟨by omega, by omega, c⟩]
      · rw [if_neg c, if_neg (fun h => c h.2.2)]
    · have e2 : at16 (if lost L i then put16 x i 2 else x) j = at16 x j := by
        by_cases c : lost L i
        · rw [if_pos c, at_put16 x i 2 j h0 h1, if_neg e]
        · rw [if_neg c]
      rw [e2]
      by_cases c : i ≤ j ∧ j < i + ((d + 1 : Nat) : Int) ∧ lost L j
      · rw [if_pos c, if_pos ⟨by omega, by omega, c.2.2⟩]
      · rw [if_neg c, if_neg (fun h => c ⟨by omega, by omega, h.2.2⟩)]
def two (w : T16) (p q : Int) : T16 := if q < 16 ∧ q ≠ p then inv1 (if p < 16 then inv1 w p else w) q else (if p < 16 then inv1 w p else w)
theorem inv1_at (x : T16) (i j : Int) (h0 : 0 ≤ j) (h1 : j < 16) : at16 (inv1 x i) j = if i = j then (1 - at16 x i) % 256 else at16 x j := at_put16 x i _ j h0 h1
theorem two_at (w : T16) (p q : Int) (hp : 0 ≤ p) (hq : 0 ≤ q) (j : Int) (h0 : 0 ≤ j) (h1 : j < 16) : at16 (two w p q) j = if j = p ∨ j = q then (1 - at16 w j) % 256 else at16 w j := by
  have one : at16 (if p < 16 then inv1 w p else w) j = if j = p then (1 - at16 w j) % 256 else at16 w j := by
    by_cases c : p < 16
    · rw [if_pos c, inv1_at w p j h0 h1]
      by_cases e : p = j
      · rw [if_pos e, if_pos e.symm, e]
      · rw [if_neg e, if_neg (fun h => e h.symm)]
    · rw [if_neg c, if_neg (by omega)]
  unfold two
  by_cases c : q < 16 ∧ q ≠ p
  · rw [if_pos c, inv1_at _ q j h0 h1]
    by_cases e : q = j
    · subst e
      rw [if_pos rfl, one, if_neg c.2, if_pos (.inr rfl)]
    · rw [if_neg e, one]
      by_cases e2 : j = p
      · rw [if_pos e2, if_pos (.inl e2)]
      · rw [if_neg e2, if_neg (by omega)]
  · rw [if_neg c, one]
    by_cases e2 : j = p
    · rw [if_pos e2, if_pos (.inl e2)]
    · rw [if_neg e2, if_neg (by omega)]
/-- the word as it arrives -/
def dmg (w : T16) (p q L : Int) : T16 := lostD L 16 0 (two w p q)
theorem dmg_at (y p q L : Int) (hp : 0 ≤ p) (hq : 0 ≤ q) (j : Int) (h0 : 0 ≤ j) (h1 : j < 16) : at16 (dmg (w16 y) p q L) j = if lost L j then 2 else (if j = p ∨ j = q then 1 - at16 (w16 y) j else at16 (w16 y) j) := by
  unfold dmg
  have hb := w16_bit y j h0 h1
  rw [lostD_at L 16 0 _ j h0 h1 (by omega), two_at _ p q hp hq j h0 h1]
  by_cases c : lost L j
  · rw [if_pos ⟨h0, by omega, c⟩, if_pos c]
  · rw [if_neg (fun h => c h.2.2), if_neg c]
    by_cases e : j = p ∨ j = q
    · rw [if_pos e, if_pos e]; omega
    · rw [if_neg e, if_neg e]
theorem dmg_word (y p q L : Int) (hp : 0 ≤ p) (hq : 0 ≤ q) (z : Int) (h : dmg (w16 y) p q L = w16 z) : dmg (w16 y) p q L = w16 y := by
  rw [h]
  refine (near_eq z y p q fun j h0 h1 hjp hjq => ?_)
  have e := dmg_at y p q L hp hq j h0 h1
  rw [h] at e
  rw [e]
  by_cases c : lost L j
  · rw [if_pos c] at e
    have := w16_bit z j h0 h1
    omega
  · rw [if_neg c, if_neg (by omega)]
theorem dmg_ok (y p q L : Int) (hp : 0 ≤ p) (hq : 0 ≤ q) : okBits (dmg (w16 y) p q L) := by
  have h : ∀ j, 0 ≤ j → j < 16 → 0 ≤ at16 (dmg (w16 y) p q L) j := by
    intro j h0 h1
    rw [dmg_at y p q L hp hq j h0 h1]
    have := w16_bit y j h0 h1
    by_cases c : lost L j
    · rw [if_pos c]; decide
    · rw [if_neg c]
      by_cases e : j = p ∨ j = q
      · rw [if_pos e]; omega
      · rw [if_neg e]; omega
  exact ⟨h 1 (by decide) (by decide), h 2 (by decide) (by decide), h 3 (by decide) (by decide), h 4 (by decide) (by decide), h 5 (by decide) (by decide)⟩
theorem recv_bad (lk : Bool) (n : Int) (y p q L : Int) (hp : 0 ≤ p) (hq : 0 ≤ q) (hne : dmg (w16 y) p q L ≠ w16 y) (h0 : 0 ≤ n) (h1 : n < 32767) : recv lk n (dmg (w16 y) p q L) = (true, n + 1, 0, false) := by
  unfold recv
  rw [keyOf_none _ (fun ⟨z, _, _, hz⟩ => hne (dmg_word y p q L hp hq z hz)), if_neg (by decide), if_pos h1, wrap_id (n + 1) (by omega) (by omega)]
theorem recv_word (lk : Bool) (n : Int) (y : Int) (h0 : 0 ≤ y) (h1 : y < 32) : recv lk n (w16 y) = if lk = true then (y != 18, n, 0, false) else (lk, n, y, true) := by
  unfold recv
  rw [keyOf_word y h0 h1, if_pos rfl]
theorem run_one (t : S22) (lk : Bool) (n : Int) (out : List Int) : runAll [t] lk n out = if (recv lk n (t16 t)).2.2.2 = true then (out ++ [(recv lk n (t16 t)).2.2.1], (recv lk n (t16 t)).1, (recv lk n (t16 t)).2.1) else (out, (recv lk n (t16 t)).1, (recv lk n (t16 t)).2.1) := rfl
def d0 (k : Nat) (l : List S46) (ws : List S22) (want : List Int) (i : Int) (s0 : Bool) (s1 : Int) := perilunelaw32_UplinkDamage.l0 k l ws want i s0 s1
def d1 (k : Nat) (l : List S46) (ws : List S22) (want : List Int) (i m : Int) (s0 : Bool) (s1 : Int) (v x : T16) := perilunelaw32_UplinkDamage.j1 k l ws want i m s0 s1 v.1 v.2.1 v.2.2.1 v.2.2.2.1 v.2.2.2.2.1 v.2.2.2.2.2.1 v.2.2.2.2.2.2.1 v.2.2.2.2.2.2.2.1 v.2.2.2.2.2.2.2.2.1 v.2.2.2.2.2.2.2.2.2.1 v.2.2.2.2.2.2.2.2.2.2.1 v.2.2.2.2.2.2.2.2.2.2.2.1 v.2.2.2.2.2.2.2.2.2.2.2.2.1 v.2.2.2.2.2.2.2.2.2.2.2.2.2.1 v.2.2.2.2.2.2.2.2.2.2.2.2.2.2.1 v.2.2.2.2.2.2.2.2.2.2.2.2.2.2.2 x.1 x.2.1 x.2.2.1 x.2.2.2.1 x.2.2.2.2.1 x.2.2.2.2.2.1 x.2.2.2.2.2.2.1 x.2.2.2.2.2.2.2.1 x.2.2.2.2.2.2.2.2.1 x.2.2.2.2.2.2.2.2.2.1 x.2.2.2.2.2.2.2.2.2.2.1 x.2.2.2.2.2.2.2.2.2.2.2.1 x.2.2.2.2.2.2.2.2.2.2.2.2.1 x.2.2.2.2.2.2.2.2.2.2.2.2.2.1 x.2.2.2.2.2.2.2.2.2.2.2.2.2.2.1 x.2.2.2.2.2.2.2.2.2.2.2.2.2.2.2
def d2 (k : Nat) (l : List S46) (ws : List S22) (want : List Int) (i m : Int) (b : Bool) (s0 : Bool) (s1 : Int) (v x : T16) := perilunelaw32_UplinkDamage.j2 k l ws want i m b s0 s1 v.1 v.2.1 v.2.2.1 v.2.2.2.1 v.2.2.2.2.1 v.2.2.2.2.2.1 v.2.2.2.2.2.2.1 v.2.2.2.2.2.2.2.1 v.2.2.2.2.2.2.2.2.1 v.2.2.2.2.2.2.2.2.2.1 v.2.2.2.2.2.2.2.2.2.2.1 v.2.2.2.2.2.2.2.2.2.2.2.1 v.2.2.2.2.2.2.2.2.2.2.2.2.1 v.2.2.2.2.2.2.2.2.2.2.2.2.2.1 v.2.2.2.2.2.2.2.2.2.2.2.2.2.2.1 v.2.2.2.2.2.2.2.2.2.2.2.2.2.2.2 x.1 x.2.1 x.2.2.1 x.2.2.2.1 x.2.2.2.2.1 x.2.2.2.2.2.1 x.2.2.2.2.2.2.1 x.2.2.2.2.2.2.2.1 x.2.2.2.2.2.2.2.2.1 x.2.2.2.2.2.2.2.2.2.1 x.2.2.2.2.2.2.2.2.2.2.1 x.2.2.2.2.2.2.2.2.2.2.2.1 x.2.2.2.2.2.2.2.2.2.2.2.2.1 x.2.2.2.2.2.2.2.2.2.2.2.2.2.1 x.2.2.2.2.2.2.2.2.2.2.2.2.2.2.1 x.2.2.2.2.2.2.2.2.2.2.2.2.2.2.2
def d3 (k : Nat) (l : List S46) (ws : List S22) (want : List Int) (i m : Int) (s0 : Bool) (s1 : Int) (v x : T16) := perilunelaw32_UplinkDamage.j3 k l ws want i m s0 s1 v.1 v.2.1 v.2.2.1 v.2.2.2.1 v.2.2.2.2.1 v.2.2.2.2.2.1 v.2.2.2.2.2.2.1 v.2.2.2.2.2.2.2.1 v.2.2.2.2.2.2.2.2.1 v.2.2.2.2.2.2.2.2.2.1 v.2.2.2.2.2.2.2.2.2.2.1 v.2.2.2.2.2.2.2.2.2.2.2.1 v.2.2.2.2.2.2.2.2.2.2.2.2.1 v.2.2.2.2.2.2.2.2.2.2.2.2.2.1 v.2.2.2.2.2.2.2.2.2.2.2.2.2.2.1 v.2.2.2.2.2.2.2.2.2.2.2.2.2.2.2 x.1 x.2.1 x.2.2.1 x.2.2.2.1 x.2.2.2.2.1 x.2.2.2.2.2.1 x.2.2.2.2.2.2.1 x.2.2.2.2.2.2.2.1 x.2.2.2.2.2.2.2.2.1 x.2.2.2.2.2.2.2.2.2.1 x.2.2.2.2.2.2.2.2.2.2.1 x.2.2.2.2.2.2.2.2.2.2.2.1 x.2.2.2.2.2.2.2.2.2.2.2.2.1 x.2.2.2.2.2.2.2.2.2.2.2.2.2.1 x.2.2.2.2.2.2.2.2.2.2.2.2.2.2.1 x.2.2.2.2.2.2.2.2.2.2.2.2.2.2.2
def d4 (k : Nat) (l : List S46) (ws : List S22) (want : List Int) (i m t : Int) (s0 : Bool) (s1 : Int) (v x : T16) := perilunelaw32_UplinkDamage.l1 k l ws want i m t s0 s1 v.1 v.2.1 v.2.2.1 v.2.2.2.1 v.2.2.2.2.1 v.2.2.2.2.2.1 v.2.2.2.2.2.2.1 v.2.2.2.2.2.2.2.1 v.2.2.2.2.2.2.2.2.1 v.2.2.2.2.2.2.2.2.2.1 v.2.2.2.2.2.2.2.2.2.2.1 v.2.2.2.2.2.2.2.2.2.2.2.1 v.2.2.2.2.2.2.2.2.2.2.2.2.1 v.2.2.2.2.2.2.2.2.2.2.2.2.2.1 v.2.2.2.2.2.2.2.2.2.2.2.2.2.2.1 v.2.2.2.2.2.2.2.2.2.2.2.2.2.2.2 x.1 x.2.1 x.2.2.1 x.2.2.2.1 x.2.2.2.2.1 x.2.2.2.2.2.1 x.2.2.2.2.2.2.1 x.2.2.2.2.2.2.2.1 x.2.2.2.2.2.2.2.2.1 x.2.2.2.2.2.2.2.2.2.1 x.2.2.2.2.2.2.2.2.2.2.1 x.2.2.2.2.2.2.2.2.2.2.2.1 x.2.2.2.2.2.2.2.2.2.2.2.2.1 x.2.2.2.2.2.2.2.2.2.2.2.2.2.1 x.2.2.2.2.2.2.2.2.2.2.2.2.2.2.1 x.2.2.2.2.2.2.2.2.2.2.2.2.2.2.2
def ne16 (x v : T16) : Bool := (!(x.1 == v.1) || (!(x.2.1 == v.2.1) || (!(x.2.2.1 == v.2.2.1) || (!(x.2.2.2.1 == v.2.2.2.1) || (!(x.2.2.2.2.1 == v.2.2.2.2.1) || (!(x.2.2.2.2.2.1 == v.2.2.2.2.2.1) || (!(x.2.2.2.2.2.2.1 == v.2.2.2.2.2.2.1) || (!(x.2.2.2.2.2.2.2.1 == v.2.2.2.2.2.2.2.1) || (!(x.2.2.2.2.2.2.2.2.1 == v.2.2.2.2.2.2.2.2.1) || (!(x.2.2.2.2.2.2.2.2.2.1 == v.2.2.2.2.2.2.2.2.2.1) || (!(x.2.2.2.2.2.2.2.2.2.2.1 == v.2.2.2.2.2.2.2.2.2.2.1) || (!(x.2.2.2.2.2.2.2.2.2.2.2.1 == v.2.2.2.2.2.2.2.2.2.2.2.1) || (!(x.2.2.2.2.2.2.2.2.2.2.2.2.1 == v.2.2.2.2.2.2.2.2.2.2.2.2.1) || (!(x.2.2.2.2.2.2.2.2.2.2.2.2.2.1 == v.2.2.2.2.2.2.2.2.2.2.2.2.2.1) || (!(x.2.2.2.2.2.2.2.2.2.2.2.2.2.2.1 == v.2.2.2.2.2.2.2.2.2.2.2.2.2.2.1) || (!(x.2.2.2.2.2.2.2.2.2.2.2.2.2.2.2 == v.2.2.2.2.2.2.2.2.2.2.2.2.2.2.2)))))))))))))))))
theorem ne16_iff (x v : T16) : ne16 x v = true ↔ x ≠ v := by
  obtain ⟨x0, x1, x2, x3, x4, x5, x6, x7, x8, x9, x10, x11, x12, x13, x14, x15⟩ := x
  obtain ⟨v0, v1, v2, v3, v4, v5, v6, v7, v8, v9, v10, v11, v12, v13, v14, v15⟩ := v
  unfold ne16
  simp only [ne_eq, Prod.mk.injEq, Bool.or_eq_true, Bool.not_eq_true', beq_eq_false_iff_ne]
  omega
def word17 (r : T17) : T16 := (r.1, r.2.1, r.2.2.1, r.2.2.2.1, r.2.2.2.2.1, r.2.2.2.2.2.1, r.2.2.2.2.2.2.1, r.2.2.2.2.2.2.2.1, r.2.2.2.2.2.2.2.2.1, r.2.2.2.2.2.2.2.2.2.1, r.2.2.2.2.2.2.2.2.2.2.1, r.2.2.2.2.2.2.2.2.2.2.2.1, r.2.2.2.2.2.2.2.2.2.2.2.2.1, r.2.2.2.2.2.2.2.2.2.2.2.2.2.1, r.2.2.2.2.2.2.2.2.2.2.2.2.2.2.1, r.2.2.2.2.2.2.2.2.2.2.2.2.2.2.2.1)
theorem word17_ext (t : T16) (e : Int) : word17 (ext t e) = t := rfl
theorem d0_succ (k : Nat) (l : List S46) (ws : List S22) (want : List Int) (i : Int) (s0 : Bool) (s1 : Int) : d0 (k + 1) l ws want i s0 s1 = if i < (l.length : Int) then (if 0 ≤ i then ((uplink_Word.f k (Int.tmod (wrap64 (rd_T46 l i).f0) 32)).bind fun r => (if (rd_T46 l i).f1 < 16 then (if 0 ≤ (rd_T46 l i).f1 then d1 k l ws want i (Int.tmod (wrap64 (rd_T46 l i).f0) 32) s0 s1 (word17 r) (inv1 (word17 r) (rd_T46 l i).f1) else none) else d1 k l ws want i (Int.tmod (wrap64 (rd_T46 l i).f0) 32) s0 s1 (word17 r) (word17 r))) else none) else ((uplink_All.f k ws).bind fun r => ((periluneref32_Same.f k r.1 want).bind fun e => (if e = true then (if (r.2.1 == s0 && (r.2.2 == s1)) = true then ((perilunelaw32_awake.f k).bind fun e => some e) else some false) else some false))) := rfl
theorem d1_succ (k : Nat) (l : List S46) (ws : List S22) (want : List Int) (i m : Int) (s0 : Bool) (s1 : Int) (v x : T16) : d1 (k + 1) l ws want i m s0 s1 v x = if 0 ≤ i then (if i < (l.length : Int) then (if (rd_T46 l i).f2 < 16 then d2 k l ws want i m ((rd_T46 l i).f2 != (rd_T46 l i).f1) s0 s1 v x else d2 k l ws want i m false s0 s1 v x) else none) else none := rfl
theorem d2_succ (k : Nat) (l : List S46) (ws : List S22) (want : List Int) (i m : Int) (b : Bool) (s0 : Bool) (s1 : Int) (v x : T16) : d2 (k + 1) l ws want i m b s0 s1 v x = if b = true then (if 0 ≤ i then (if i < (l.length : Int) then (if 0 ≤ (rd_T46 l i).f2 then (if (rd_T46 l i).f2 < 16 then d3 k l ws want i m s0 s1 v (inv1 x (rd_T46 l i).f2) else none) else none) else none) else none) else d3 k l ws want i m s0 s1 v x := rfl
theorem d3_succ (k : Nat) (l : List S46) (ws : List S22) (want : List Int) (i m : Int) (s0 : Bool) (s1 : Int) (v x : T16) : d3 (k + 1) l ws want i m s0 s1 v x = d4 k l ws want i m 0 s0 s1 v x := rfl
theorem d4_succ (k : Nat) (l : List S46) (ws : List S22) (want : List Int) (i m t : Int) (s0 : Bool) (s1 : Int) (v x : T16) : d4 (k + 1) l ws want i m t s0 s1 v x = if t < 16 then (if 0 ≤ i then (if i < (l.length : Int) then (if 0 ≤ t then (if lost (rd_T46 l i).f3 t then d4 k l ws want i m (wrap64 (t + 1)) s0 s1 v (put16 x t 2) else d4 k l ws want i m (wrap64 (t + 1)) s0 s1 v x) else none) else none) else none) else (if ws.length < 8796093022208 then ((some (ws ++ [rec16 x]) : Option (List S22)).bind fun y => (if ne16 x v = true then d0 k l y want (wrap64 (i + 1)) true (wrap64 (s1 + 1)) else (if s0 = true then d0 k l y want (wrap64 (i + 1)) (m != 18) s1 else (if want.length < 17592186044416 then d0 k l y (want ++ [m]) (wrap64 (i + 1)) s0 s1 else none)))) else none) := rfl
theorem d4_loop (l : List S46) (ws : List S22) (want : List Int) (i m : Int) (s0 : Bool) (s1 : Int) (v : T16) (h0 : 0 ≤ i) (h1 : i < (l.length : Int)) (d : Nat) : ∀ (k : Nat) (t : Int) (x : T16), 0 ≤ t → t ≤ 16 → 16 - t = d → d4 (k + d) l ws want i m t s0 s1 v x = d4 k l ws want i m 16 s0 s1 v (lostD (rd_T46 l i).f3 d t x) := by
  induction d with
  | zero =>
    intro k t x t0 t1 hd
    obtain rfl : t = 16 := by omega
    rfl
  | succ d ih =>
    intro k t x t0 t1 hd
    have e : k + (d + 1) = (k + d) + 1 := by omega
    rw [e, d4_succ, if_pos (by omega), if_pos h0, if_pos h1, if_pos t0, wrap_id (t + 1) (by omega) (by omega), lostD]
    by_cases c : lost (rd_T46 l i).f3 t
    · rw [if_pos c, if_pos c]
      exact ih k (t + 1) _ (by omega) (by omega) (by omega)
    · rw [if_neg c, if_neg c]
      exact ih k (t + 1) _ (by omega) (by omega) (by omega)
theorem d1_at (l : List S46) (ws : List S22) (want : List Int) (i m : Int) (s0 : Bool) (s1 : Int) (v x : T16) (h0 : 0 ≤ i) (h1 : i < (l.length : Int)) (hq : 0 ≤ (rd_T46 l i).f2) (k : Nat) : d1 (k + 3) l ws want i m s0 s1 v x = d4 k l ws want i m 0 s0 s1 v (if (rd_T46 l i).f2 < 16 ∧ (rd_T46 l i).f2 ≠ (rd_T46 l i).f1 then inv1 x (rd_T46 l i).f2 else x) := by
  rw [d1_succ, if_pos h0, if_pos h1]
  by_cases c : (rd_T46 l i).f2 < 16
  · rw [if_pos c, d2_succ]
    by_cases e : (rd_T46 l i).f2 = (rd_T46 l i).f1
    · rw [if_neg (show ¬ ((rd_T46 l i).f2 != (rd_T46 l i).f1) = true from by simp [e]), if_neg (fun h => h.2 e), d3_succ]
    · rw [if_pos (show ((rd_T46 l i).f2 != (rd_T46 l i).f1) = true from by simpa using e), if_pos h0, if_pos h1, if_pos hq, if_pos c, if_pos ⟨c, e⟩, d3_succ]
  · rw [if_neg c, d2_succ, if_neg (by decide), if_neg (fun h => c h.1), d3_succ]
def okS (l : List S46) : Prop := ∀ t ∈ l, 0 ≤ t.f0 ∧ t.f0 ≤ 255 ∧ 0 ≤ t.f1 ∧ 0 ≤ t.f2
theorem okS_rd {l : List S46} (h : okS l) (i : Int) (h0 : 0 ≤ i) (h1 : i < (l.length : Int)) : 0 ≤ (rd_T46 l i).f0 ∧ (rd_T46 l i).f0 ≤ 255 ∧ 0 ≤ (rd_T46 l i).f1 ∧ 0 ≤ (rd_T46 l i).f2 := by
  have hi : i.toNat < l.length := by omega
  have e : rd_T46 l i = l[i.toNat] := by unfold rd_T46; simp [hi]
  rw [e]
  exact h _ (List.getElem_mem hi)
theorem d0_at (l : List S46) (hs : okS l) (hl : l.length ≤ 400) (d : Nat) : ∀ (k : Nat) (i : Int) (ws : List S22) (want : List Int) (s0 : Bool) (s1 : Int), 0 ≤ i → i ≤ l.length → (l.length : Int) - i = d → 30 * d + 1000 ≤ k → (ws.length : Int) = i → (want.length : Int) ≤ i → 0 ≤ s1 → s1 ≤ i → okL ws → runAll ws false 0 [] = (want, s0, s1) → d0 k l ws want i s0 s1 = some true := by
  induction d with
  | zero =>
    intro k i ws want s0 s1 h0 h1 hd hk hw hwt hs0 hs1 hok hr
    obtain ⟨k, rfl⟩ : ∃ q, k = q + 1 := ⟨k - 1, by omega⟩
    rw [d0_succ, if_neg (by omega), all_at ws hok (by omega) k (by omega), hr, Option.bind_some, same_at want (by omega) k (by omega), Option.bind_some, if_pos rfl, if_pos (by simp), awake_at k (by omega)]
    rfl
  | succ d ih =>
    intro k i ws want s0 s1 h0 h1 hd hk hw hwt hs0 hs1 hok hr
    obtain ⟨k, rfl⟩ : ∃ q, k = q + 21 := ⟨k - 21, by omega⟩
    have hi : i < (l.length : Int) := by omega
    obtain ⟨f0, f0', f1, f2⟩ := okS_rd hs i h0 hi
    have hm : Int.tmod (wrap64 (rd_T46 l i).f0) 32 = (rd_T46 l i).f0 % 32 := by
      rw [wrap_id _ (by omega) (by omega)]
      exact Int.tmod_eq_emod_of_nonneg f0
    rw [d0_succ, if_pos hi, if_pos h0, hm]
    have hy0 : 0 ≤ (rd_T46 l i).f0 % 32 := by omega
    have hy1 : (rd_T46 l i).f0 % 32 < 32 := by omega
    generalize (rd_T46 l i).f0 % 32 = y at hy0 hy1 ⊢
    rw [word_at y hy0 hy1 (k + 20) (by omega), Option.bind_some, word17_ext]
    have go : (if (rd_T46 l i).f1 < 16 then (if 0 ≤ (rd_T46 l i).f1 then d1 (k + 20) l ws want i y s0 s1 (w16 y) (inv1 (w16 y) (rd_T46 l i).f1) else none) else d1 (k + 20) l ws want i y s0 s1 (w16 y) (w16 y)) = d4 (k + 1) l ws want i y 16 s0 s1 (w16 y) (dmg (w16 y) (rd_T46 l i).f1 (rd_T46 l i).f2 (rd_T46 l i).f3) := by
      have go2 : ∀ x, d1 (k + 20) l ws want i y s0 s1 (w16 y) x = d4 (k + 1) l ws want i y 16 s0 s1 (w16 y) (lostD (rd_T46 l i).f3 16 0 (if (rd_T46 l i).f2 < 16 ∧ (rd_T46 l i).f2 ≠ (rd_T46 l i).f1 then inv1 x (rd_T46 l i).f2 else x)) := by
        intro x
        rw [show k + 20 = ((k + 1) + 16) + 3 from by omega, d1_at l ws want i y s0 s1 (w16 y) x h0 hi f2, d4_loop l ws want i y s0 s1 (w16 y) h0 hi 16 (k + 1) 0 _ (by omega) (by omega) (by omega)]
      unfold dmg two
      by_cases c : (rd_T46 l i).f1 < 16
      · rw [if_pos c, if_pos f1, go2, if_pos c]
      · rw [if_neg c, go2, if_neg c]
    rw [go, d4_succ, if_neg (by omega), if_pos (by omega), Option.bind_some, wrap_id (i + 1) (by omega) (by omega), wrap_id (s1 + 1) (by omega) (by omega)]
    have hx := dmg_ok y (rd_T46 l i).f1 (rd_T46 l i).f2 (rd_T46 l i).f3 f1 f2
    have hb := recv_bad s0 s1 y (rd_T46 l i).f1 (rd_T46 l i).f2 (rd_T46 l i).f3 f1 f2
    have hrec := run_one (rec16 (dmg (w16 y) (rd_T46 l i).f1 (rd_T46 l i).f2 (rd_T46 l i).f3)) s0 s1 want
    have hap := runAll_append ws [rec16 (dmg (w16 y) (rd_T46 l i).f1 (rd_T46 l i).f2 (rd_T46 l i).f3)] false 0 []
    rw [hr, hrec, t16_rec] at hap
    generalize dmg (w16 y) (rd_T46 l i).f1 (rd_T46 l i).f2 (rd_T46 l i).f3 = x at hx hb hap ⊢
    have hok2 : okL (ws ++ [rec16 x]) := by
      intro t ht
      rcases List.mem_append.1 ht with h | h
      · exact hok t h
      · rw [List.mem_singleton.1 h, t16_rec]; exact hx
    have hlen : ((ws ++ [rec16 x]).length : Int) = i + 1 := by simp; omega
    by_cases c : x = w16 y
    · rw [if_neg (fun h => (ne16_iff x (w16 y)).1 h c)]
      rw [c, recv_word s0 s1 y hy0 hy1] at hap
      rw [← c] at hap
      by_cases c2 : s0 = true
      · rw [if_pos c2] at hap ⊢
        rw [if_neg (show ¬ (y != 18, s1, (0 : Int), false).2.2.2 = true from Bool.false_ne_true)] at hap
        exact ih k (i + 1) _ want _ s1 (by omega) (by omega) (by omega) (by omega) hlen (by omega) hs0 (by omega) hok2 hap
      · rw [if_neg c2] at hap ⊢
        rw [if_pos (show (s0, s1, y, true).2.2.2 = true from rfl)] at hap
        rw [if_pos (by omega)]
        exact ih k (i + 1) _ _ s0 s1 (by omega) (by omega) (by omega) (by omega) hlen (by simp; omega) hs0 (by omega) hok2 hap
    · rw [if_pos ((ne16_iff x (w16 y)).2 c)]
      rw [hb c hs0 (by omega), if_neg (show ¬ (true, s1 + 1, (0 : Int), false).2.2.2 = true from Bool.false_ne_true)] at hap
      exact ih k (i + 1) _ want true (s1 + 1) (by omega) (by omega) (by omega) (by omega) hlen (by omega) (by omega) (by omega) hok2 hap
theorem UplinkDamage_pure (l : List S46) (hs : okS l) : perilunelaw32_UplinkDamage.f 14000 l = some true := by
  unfold perilunelaw32_UplinkDamage.f
  by_cases c : (l.length : Int) > 400
  · rw [if_pos c, awake_at 14000 (by omega)]
    rfl
  · rw [if_neg c]
    exact d0_at l hs (by omega) l.length 14000 0 [] [] false 0 (by omega) (by omega) (by omega) (by omega) rfl (by simp) (by omega) (by omega) (fun t ht => by cases ht) rfl
end Go.Proofs.Ytdncfnlhkacpaaa.Plain
