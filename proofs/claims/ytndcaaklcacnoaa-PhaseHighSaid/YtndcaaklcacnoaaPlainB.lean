/- Plain facts on writing cells, and the laws PhaseGets, PhaseBack, PhaseDamage, PhaseHigh over numbers and lists. No condition but that a word lies between 0 and 65535. -/
import Derived.Test.YtndcaaklcacnoaaPlain
namespace Go.Proofs.Ytndcaaklcacnoaa.Plain
open Go.RowKit Go.Proofs.Ytndcaaklcacnoaa.P Go.Proofs.YtndcaaklcacnoaaW.PrintWords Go.Proofs.YtndcaaklcacnoaaW.PrintLast

theorem rd_set (l : List Int) (i j v : Int) (h0 : 0 ≤ i) (h1 : i < (l.length : Int)) (j0 : 0 ≤ j) : rd (l.set i.toNat v) j = if j = i then v else rd l j := by
  unfold rd
  rw [List.getD_eq_getElem?_getD, List.getD_eq_getElem?_getD, List.getElem?_set]
  by_cases h : j = i
  · subst h
    rw [if_pos rfl, if_pos (by omega), if_pos rfl]
    rfl
  · rw [if_neg (by omega), if_neg h]

theorem getS_congr {l m : List Int} (g : Int) (hlen : l.length = m.length) (h1 : 1 ≤ g → rd l (2000 + 2 * (g - 1)) % 32768 = rd m (2000 + 2 * (g - 1)) % 32768) (h2 : 1 ≤ g → rd l (2001 + 2 * (g - 1)) % 32768 = rd m (2001 + 2 * (g - 1)) % 32768) : getS l g = getS m g := by
  unfold getS
  rw [hlen]
  by_cases hg : g < 1
  · rw [if_pos (.inl hg), if_pos (.inl hg)]
  · rw [h1 (by omega), h2 (by omega)]

theorem xor15 (a : Int) (h0 : 0 ≤ a) (h1 : a < 65536) : Go.bits .xor .u16 a 32768 % 32768 = a % 32768 ∧ 0 ≤ Go.bits .xor .u16 a 32768 ∧ Go.bits .xor .u16 a 32768 < 65536 := by
  rw [u16_xor a 32768 h0 h1 (by decide) (by decide)]
  have e : (a.toNat ^^^ (32768 : Int).toNat) % 2 ^ 15 = a.toNat % 2 ^ 15 := by
    rw [Nat.xor_mod_two_pow, show (32768 : Int).toNat % 2 ^ 15 = 0 from by decide, Nat.xor_zero]
  have b : a.toNat ^^^ (32768 : Int).toNat < 2 ^ 16 := Nat.xor_lt_two_pow (by omega) (by decide)
  omega

theorem write_two (m : List Int) (a v u : Int) (k : Nat) (hk : 2 < k) (hm : m.length ≤ 4000) (h0 : 0 ≤ a) (h1 : a + 1 < (m.length : Int)) :
    periluneref25_Write.f k m [⟨a, v⟩, ⟨a + 1, u⟩] = some ((m.set a.toNat v).set (a + 1).toNat u) := by
  obtain ⟨k, rfl⟩ : ∃ q, k = q + 3 := ⟨k - 3, by omega⟩
  unfold periluneref25_Write.f
  rw [if_pos (by simp; omega)]
  simp only [periluneref25_Write.l0, List.nil_append, List.length_cons, List.length_nil, rd_T42, show (0 : Int).toNat = 0 from rfl, List.getD_cons_zero]
  rw [if_pos (by decide), if_pos (by decide), if_pos (by omega), if_pos (by omega), if_pos (by omega), wrap_id (0 + 1) (by decide) (by decide)]
  simp only [show (0 + 1 : Int) = 1 from rfl, show (1 : Int).toNat = 1 from rfl, List.getD_cons_zero, List.getD_cons_succ, List.length_set]
  rw [if_pos (by decide), if_pos (by decide), if_pos (by omega), if_pos (by omega), if_pos (by omega), wrap_id (1 + 1) (by decide) (by decide), if_neg (by decide)]

theorem getS_two (m : List Int) (g v u : Int) (h1 : 1 ≤ g) (h6 : g ≤ 6) (hL : 2000 + 2 * g ≤ (m.length : Int)) :
    getS ((m.set (2000 + 2 * (g - 1)).toNat v).set (2001 + 2 * (g - 1)).toNat u) g = if v % 32768 ≤ 31 ∧ u % 32768 = 32767 - v % 32768 then (v % 32768, 0) else (0, 10) := by
  have e1 : rd ((m.set (2000 + 2 * (g - 1)).toNat v).set (2001 + 2 * (g - 1)).toNat u) (2000 + 2 * (g - 1)) = v := by
    rw [rd_set _ _ _ _ (by omega) (by rw [List.length_set]; omega) (by omega), if_neg (by omega), rd_set _ _ _ _ (by omega) (by omega) (by omega), if_pos rfl]
  have e2 : rd ((m.set (2000 + 2 * (g - 1)).toNat v).set (2001 + 2 * (g - 1)).toNat u) (2001 + 2 * (g - 1)) = u := by
    rw [rd_set _ _ _ _ (by omega) (by rw [List.length_set]; omega) (by omega), if_pos rfl]
  unfold getS
  rw [if_neg (by rw [List.length_set, List.length_set]; omega), e1, e2]

theorem getS_other (m : List Int) (g g' v u : Int) (h1 : 1 ≤ g) (h6 : g ≤ 6) (hL : 2012 ≤ (m.length : Int)) (hne : g' ≠ g) :
    getS ((m.set (2000 + 2 * (g - 1)).toNat v).set (2001 + 2 * (g - 1)).toNat u) g' = getS m g' := by
  refine getS_congr g' (by rw [List.length_set, List.length_set]) (fun h => ?_) (fun h => ?_)
  · rw [rd_set _ _ _ _ (by omega) (by rw [List.length_set]; omega) (by omega), if_neg (by omega), rd_set _ _ _ _ (by omega) (by omega) (by omega), if_neg (by omega)]
  · rw [rd_set _ _ _ _ (by omega) (by rw [List.length_set]; omega) (by omega), if_neg (by omega), rd_set _ _ _ _ (by omega) (by omega) (by omega), if_neg (by omega)]

/-! ### Gets -/
theorem gets_loop (m : List Int) (hm : m.length ≤ 2047) (n e : Int) (d : Nat) : ∀ (k : Nat) (i : Int), 0 ≤ i → i ≤ m.length → (m.length : Int) - i = d → d + 10 < k → perilunelaw25_PhaseGets.l0 k m n e n e m i = some true := by
  induction d with
  | zero =>
    intro k i h0 h1 hd hk
    obtain ⟨k, rfl⟩ : ∃ q, k = q + 1 := ⟨k - 1, by omega⟩
    simp only [perilunelaw25_PhaseGets.l0]
    rw [if_neg (by omega), if_pos trivial, if_pos trivial, live_ok k (by omega)]
    rfl
  | succ d ih =>
    intro k i h0 h1 hd hk
    obtain ⟨k, rfl⟩ : ∃ q, k = q + 1 := ⟨k - 1, by omega⟩
    simp only [perilunelaw25_PhaseGets.l0]
    rw [if_pos (by omega), if_pos h0, if_pos (by omega), if_pos trivial, wrap_id (i + 1) (by omega) (by omega)]
    exact ih k (i + 1) (by omega) (by omega) (by omega) (by omega)

theorem PhaseGets_pure (a0 : Int) (l : List Int) (hl : U16 l) (a1 : Int) : ∃ k, perilunelaw25_PhaseGets.f k a0 l a1 = some true := by
  obtain ⟨m, e, hu, hlen⟩ := mem_ok a0 l hl 3000 (by decide)
  refine ⟨3000, ?_⟩
  unfold perilunelaw25_PhaseGets.f
  rw [e]
  simp only [Option.bind_some]
  rw [get_ok m hu a1 3000 (by decide), refGet_ok m hu a1 3000 (by decide)]
  simp only [Option.bind_some]
  exact gets_loop m (by omega) _ _ m.length 3000 0 (by omega) (by omega) (by omega) (by omega)

/-! ### Back -/
theorem back_loop (m y : List Int) (hm : U16 m) (hy : U16 y) (g n : Int) (hg : getS y g = (n, 0)) (ho : ∀ g', g' ≠ g → getS y g' = getS m g') (d : Nat) :
    ∀ (k : Nat) (i : Int), 1 ≤ i → i ≤ 7 → 7 - i = d → 2 * d + 10 < k → perilunelaw25_PhaseBack.l0 k g n m y i = some true := by
  induction d with
  | zero =>
    intro k i h0 h1 hd hk
    obtain ⟨k, rfl⟩ : ∃ q, k = q + 1 := ⟨k - 1, by omega⟩
    simp only [perilunelaw25_PhaseBack.l0]
    rw [if_neg (by omega), live_ok k (by omega)]
    rfl
  | succ d ih =>
    intro k i h0 h1 hd hk
    obtain ⟨k, rfl⟩ : ∃ q, k = q + 2 := ⟨k - 2, by omega⟩
    simp only [perilunelaw25_PhaseBack.l0]
    rw [if_pos (by omega), get_ok y hy i _ (by omega)]
    simp only [Option.bind_some]
    by_cases h : i = g
    · subst h
      rw [if_pos rfl, hg, if_pos rfl]
      simp only [perilunelaw25_PhaseBack.j1]
      rw [if_neg (by decide), wrap_id (i + 1) (by omega) (by omega)]
      exact ih k (i + 1) (by omega) (by omega) (by omega) (by omega)
    · rw [if_neg h, get_ok m hm i _ (by omega), ho i h]
      simp only [Option.bind_some]
      rw [if_pos trivial, if_pos trivial, wrap_id (i + 1) (by omega) (by omega)]
      exact ih (k + 1) (i + 1) (by omega) (by omega) (by omega) (by omega)

theorem PhaseBack_pure (a0 : Int) (l : List Int) (hl : U16 l) (g n : Int) : ∃ k, perilunelaw25_PhaseBack.f k a0 l g n = some true := by
  obtain ⟨m, e, hu, hlen⟩ := mem_ok 2047 l hl 3000 (by decide)
  have hL : (m.length : Int) = 2047 := by rw [hlen, IntKind.wrap_u64]; decide
  refine ⟨3000, ?_⟩
  unfold perilunelaw25_PhaseBack.f
  rw [e]
  simp only [Option.bind_some]
  by_cases h : g < 1 ∨ 6 < g ∨ n < 0 ∨ 31 < n
  · rw [set_bad g n 3000 (by decide) h]
    simp only [Option.bind_some]
    rw [live_ok 3000 (by decide), if_neg (by decide)]
    simp only [List.length_nil, Option.bind_some]
    by_cases h1 : g < 1
    · rw [if_pos h1]; rfl
    rw [if_neg h1]
    by_cases h2 : g > 6
    · rw [if_pos h2]; rfl
    rw [if_neg h2]
    by_cases h3 : n < 0
    · rw [if_pos h3]; rfl
    rw [if_neg h3, if_pos (by omega)]; rfl
  · rw [set_ok g n 3000 (by decide) (by omega) (by omega) (by omega) (by omega)]
    simp only [Option.bind_some]
    rw [if_pos trivial, show 2001 + 2 * (g - 1) = 2000 + 2 * (g - 1) + 1 from by omega, write_two m _ _ _ 3000 (by decide) (by omega) (by omega) (by omega), show 2000 + 2 * (g - 1) + 1 = 2001 + 2 * (g - 1) from by omega]
    simp only [Option.bind_some]
    refine back_loop m _ hu ((hu.set _ _ (by omega) (by omega)).set _ _ (by omega) (by omega)) g n ?_ (fun g' hne => getS_other m g g' _ _ (by omega) (by omega) (by omega) hne) 6 3000 1 (by omega) (by omega) (by omega) (by omega)
    rw [getS_two m g _ _ (by omega) (by omega) (by omega), if_pos (by omega)]
    rw [show n % 32768 = n from by omega]

/-! ### Damage -/
theorem damage_end (g n x : Int) (b : Bool) (h1 : 1 ≤ g) (h6 : g ≤ 6) (h0 : 0 ≤ n) (h31 : n ≤ 31) (x0 : 0 ≤ x) (x1 : x < 65536) (k : Nat) (hk : 20 < k) :
    perilunelaw25_PhaseDamage.j1 k g x [⟨2000 + 2 * (g - 1), n⟩, ⟨2001 + 2 * (g - 1), 32767 - n⟩] (if b = true then 1 else 0) = some true := by
  obtain ⟨k, rfl⟩ : ∃ q, k = q + 1 := ⟨k - 1, by omega⟩
  simp only [perilunelaw25_PhaseDamage.j1]
  have hz : U16 (List.replicate 2012 0) := U16.zeros 2012
  have hzl : ((List.replicate 2012 (0 : Int)).length : Int) = 2012 := by rw [List.length_replicate]; rfl
  cases b with
  | true =>
    simp only [if_true, List.length_cons, List.length_nil, rd_T42, show (1 : Int).toNat = 1 from rfl, List.getD_cons_zero, List.getD_cons_succ, List.set_cons_succ, List.set_cons_zero]
    rw [if_pos (by decide), if_pos (by decide), tmod_pos x _ x0]
    by_cases hx : x % 32768 = 32767 - n
    · rw [if_pos hx, live_ok k (by omega)]; rfl
    · rw [if_neg hx, if_pos (by decide), show 2001 + 2 * (g - 1) = 2000 + 2 * (g - 1) + 1 from by omega, write_two _ _ _ _ k (by omega) (by omega) (by omega) (by omega), show 2000 + 2 * (g - 1) + 1 = 2001 + 2 * (g - 1) from by omega]
      simp only [Option.bind_some]
      rw [get_ok _ ((hz.set _ _ (by omega) (by omega)).set _ _ (by omega) (by omega)) g k (by omega), getS_two _ g _ _ h1 h6 (by omega), if_neg (by omega)]
      simp only [Option.bind_some]
      rw [if_pos trivial, if_pos trivial, live_ok k (by omega)]; rfl
  | false =>
    simp only [Bool.false_eq_true, if_false, List.length_cons, List.length_nil, rd_T42, show (0 : Int).toNat = 0 from rfl, List.getD_cons_zero, List.set_cons_zero]
    rw [if_pos (by decide), if_pos (by decide), tmod_pos x _ x0]
    by_cases hx : x % 32768 = n
    · rw [if_pos hx, live_ok k (by omega)]; rfl
    · rw [if_neg hx, if_pos (by decide), show 2001 + 2 * (g - 1) = 2000 + 2 * (g - 1) + 1 from by omega, write_two _ _ _ _ k (by omega) (by omega) (by omega) (by omega), show 2000 + 2 * (g - 1) + 1 = 2001 + 2 * (g - 1) from by omega]
      simp only [Option.bind_some]
      rw [get_ok _ ((hz.set _ _ (by omega) (by omega)).set _ _ (by omega) (by omega)) g k (by omega), getS_two _ g _ _ h1 h6 (by omega), if_neg (by omega)]
      simp only [Option.bind_some]
      rw [if_pos trivial, if_pos trivial, live_ok k (by omega)]; rfl

theorem PhaseDamage_pure (g n : Int) (b : Bool) (x : Int) (x0 : 0 ≤ x) (x1 : x < 65536) : ∃ k, perilunelaw25_PhaseDamage.f k g n b x = some true := by
  refine ⟨50, ?_⟩
  unfold perilunelaw25_PhaseDamage.f
  by_cases h : g < 1 ∨ 6 < g ∨ n < 0 ∨ 31 < n
  · rw [set_bad g n 50 (by decide) h]
    simp only [Option.bind_some]
    rw [if_neg (by decide)]
    simp only [perilunelaw25_PhaseDamage.j0]
    rw [if_pos trivial, if_pos trivial, live_ok 49 (by decide)]; rfl
  · rw [set_ok g n 50 (by decide) (by omega) (by omega) (by omega) (by omega)]
    simp only [Option.bind_some]
    rw [if_pos trivial]
    simp only [perilunelaw25_PhaseDamage.j0, List.length_cons, List.length_nil]
    rw [if_neg (by decide)]
    have := damage_end g n x b (by omega) (by omega) (by omega) (by omega) x0 x1 49 (by decide)
    cases b with
    | true => rw [if_pos rfl]; simpa using this
    | false => rw [if_neg (by decide)]; simpa using this

/-! ### High -/
theorem getS_flip (m : List Int) (hm : U16 m) (g i : Int) (h0 : 0 ≤ i) (h1 : i < (m.length : Int)) : getS (m.set i.toNat (Go.bits .xor .u16 (rd m i) 32768)) g = getS m g := by
  have hx := xor15 (rd m i) (rd_range hm i).1 (rd_range hm i).2
  have key : ∀ j, 0 ≤ j → rd (m.set i.toNat (Go.bits .xor .u16 (rd m i) 32768)) j % 32768 = rd m j % 32768 := fun j hj => by
    rw [rd_set m i j _ h0 h1 hj]
    by_cases e : j = i
    · rw [if_pos e, e]; exact hx.1
    · rw [if_neg e]
  exact getS_congr g (by rw [List.length_set]) (fun h => key _ (by omega)) (fun h => key _ (by omega))

theorem idx (a n : Int) (h0 : 0 < n) (h1 : n ≤ 2047) : IntKind.u64.wrap n = n ∧ ¬ IntKind.u64.wrap n = 0 ∧ wrap64 (Int.tmod (IntKind.u64.wrap a) (IntKind.u64.wrap n)) = IntKind.u64.wrap a % n ∧ 0 ≤ IntKind.u64.wrap a % n ∧ IntKind.u64.wrap a % n < n := by
  have e : IntKind.u64.wrap n = n := by rw [IntKind.wrap_u64]; omega
  have w0 : 0 ≤ IntKind.u64.wrap a := by rw [IntKind.wrap_u64]; omega
  have m0 : 0 ≤ IntKind.u64.wrap a % n := Int.emod_nonneg _ (by omega)
  have m1 : IntKind.u64.wrap a % n < n := Int.emod_lt_of_pos _ h0
  rw [e, tmod_pos _ _ w0, wrap_id _ (by omega) (by omega)]
  exact ⟨rfl, by omega, rfl, m0, m1⟩

theorem high_end (m : List Int) (hm : U16 m) (hl : m.length ≤ 2047) (g a n e : Int) (h : getS m g = (n, e)) (k : Nat) (hk : 20 < k) : perilunelaw25_PhaseHigh.j0 k g a m n e = some true := by
  obtain ⟨k, rfl⟩ : ∃ q, k = q + 1 := ⟨k - 1, by omega⟩
  simp only [perilunelaw25_PhaseHigh.j0]
  by_cases hL : (m.length : Int) > 2000
  · obtain ⟨e1, e2, e3, i0, i1⟩ := idx a ((m.length : Int) - 2000) (by omega) (by omega)
    rw [if_pos hL, wrap_id ((m.length : Int) - 2000) (by omega) (by omega), if_neg e2, e3, wrap_id (2000 + IntKind.u64.wrap a % ((m.length : Int) - 2000)) (by omega) (by omega), if_pos (by omega), if_pos (by omega)]
    have hx := xor15 (rd m (2000 + IntKind.u64.wrap a % ((m.length : Int) - 2000))) (rd_range hm _).1 (rd_range hm _).2
    rw [get_ok _ (hm.set _ _ hx.2.1 hx.2.2) g k (by omega), getS_flip m hm g _ (by omega) (by omega), h]
    simp only [Option.bind_some]
    rw [if_pos trivial, if_pos trivial, live_ok k (by omega)]; rfl
  · rw [if_neg hL, get_ok m hm g k (by omega), h]
    simp only [Option.bind_some]
    rw [if_pos trivial, if_pos trivial, live_ok k (by omega)]; rfl

theorem PhaseHigh_pure (a0 : Int) (l : List Int) (hl : U16 l) (g a : Int) : ∃ k, perilunelaw25_PhaseHigh.f k a0 l g a = some true := by
  obtain ⟨m, e, hu, hlen⟩ := mem_ok a0 l hl 3000 (by decide)
  refine ⟨3000, ?_⟩
  unfold perilunelaw25_PhaseHigh.f
  rw [e]
  simp only [Option.bind_some]
  rw [get_ok m hu g 3000 (by decide)]
  simp only [Option.bind_some]
  by_cases hL : (m.length : Int) > 0
  · obtain ⟨e1, e2, e3, i0, i1⟩ := idx a (m.length : Int) (by omega) (by omega)
    rw [if_pos hL, if_neg e2, e3, if_pos i0, if_pos i1]
    have hx := xor15 (rd m (IntKind.u64.wrap a % (m.length : Int))) (rd_range hu _).1 (rd_range hu _).2
    exact high_end _ (hu.set _ _ hx.2.1 hx.2.2) (by rw [List.length_set]; omega) g a _ _ (by rw [getS_flip m hu g _ i0 i1]) 3000 (by decide)
  · rw [if_neg hL]
    exact high_end m hu (by omega) g a _ _ rfl 3000 (by decide)
end Go.Proofs.Ytndcaaklcacnoaa.Plain
