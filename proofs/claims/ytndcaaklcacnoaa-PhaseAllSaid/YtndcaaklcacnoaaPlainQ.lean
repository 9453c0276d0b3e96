/- Plain facts on what the printed functions of package phase and of its reference answer (the second print, with arrays), over numbers and lists. No condition but that a word lies between 0 and 65535. -/
import Derived.Test.YtndcaaklcacnoaaQx4
import Derived.Test.YtndcaaklcacnoaaQx5
import Derived.Test.YtndcaaklcacnoaaQx6
import Derived.Laws.BitsAllLaws
namespace Go.Proofs.Ytndcaaklcacnoaa.PlainQ
open Go.RowKit Go.Proofs.Ytndcaaklcacnoaa.Q Go.Proofs.YtndcaaklcacnoaaW.PrintWords Go.Proofs.YtndcaaklcacnoaaW.PrintLast

def U16 (l : List Int) : Prop := ∀ x ∈ l, 0 ≤ x ∧ x < 65536

theorem u16_of_wf {l : List Int} (h : ∀ x ∈ l, (Lit.int .u16 x).wf = true) : U16 l := by
  intro x hx
  have := h x hx
  simp [Lit.wf, IntKind.min, IntKind.max, IntKind.signed, IntKind.bits] at this
  omega

theorem rd_range {l : List Int} (h : U16 l) (i : Int) : 0 ≤ rd l i ∧ rd l i < 65536 := by
  unfold rd
  by_cases hi : i.toNat < l.length
  · have : l.getD i.toNat 0 ∈ l := by rw [List.getD_eq_getElem?_getD, List.getElem?_eq_getElem hi]; exact List.getElem_mem hi
    exact h _ this
  · rw [List.getD_eq_getElem?_getD, List.getElem?_eq_none (by omega)]
    decide

theorem wrap_id (x : Int) (h0 : -9223372036854775808 ≤ x) (h1 : x ≤ 9223372036854775807) : wrap64 x = x := by unfold wrap64; omega
theorem wrap16_id (x : Int) (h0 : 0 ≤ x) (h1 : x < 65536) : IntKind.u16.wrap x = x := by rw [IntKind.wrap_u16]; omega

theorem and15 (a : Int) (h0 : 0 ≤ a) (h1 : a < 65536) : Go.bits .and .u16 a 32767 = a % 32768 := by
  rw [u16_and a 32767 h0 h1 (by decide) (by decide)]
  have e : (32767 : Int).toNat = 2 ^ 15 - 1 := by decide
  rw [e, Nat.and_two_pow_sub_one_eq_mod]
  omega

theorem neg_small (a : Int) (h0 : 0 ≤ a) (h1 : a ≤ 31) : onescomp_Neg.f a = some (32767 - a) := by
  have H : ∀ j : Fin 32, onescomp_Neg.f (j.val : Int) = some (32767 - (j.val : Int)) := by decide +kernel
  have := H ⟨a.toNat, by omega⟩
  simp only at this
  rwa [show ((a.toNat : Nat) : Int) = a from by omega] at this

theorem tmod_pos (a b : Int) (h : 0 ≤ a) : Int.tmod a b = a % b := Int.tmod_eq_emod_of_nonneg h

theorem live_ok (k : Nat) (h : 10 ≤ k) : perilunelaw25_live.f k = some true :=
  at_rounds (g := fun k => perilunelaw25_live.f k) (fun k => perilunelaw25_live.mono k) h (by decide +kernel)

/-- the answer of Get -/
def getS (l : List Int) (g : Int) : Int × Int :=
  if g < 1 ∨ 6 < g ∨ (l.length : Int) < 2000 + 2 * g then (0, 3)
  else if rd l (2000 + 2 * (g - 1)) % 32768 ≤ 31 ∧ rd l (2001 + 2 * (g - 1)) % 32768 = 32767 - rd l (2000 + 2 * (g - 1)) % 32768 then (rd l (2000 + 2 * (g - 1)) % 32768, 0)
  else (0, 10)

theorem at_val (g : Int) (h1 : 1 ≤ g) (h6 : g ≤ 6) : phase_at.f g = some (2000 + 2 * (g - 1)) := by
  unfold phase_at.f
  rw [wrap_id (g - 1) (by omega) (by omega), wrap_id (2 * (g - 1)) (by omega) (by omega), wrap_id _ (by omega) (by omega)]

theorem get_ok (l : List Int) (hl : U16 l) (g : Int) (k : Nat) (hk : 0 < k) : phase_Get.f k l g = some (getS l g) := by
  obtain ⟨k, rfl⟩ : ∃ m, k = m + 1 := ⟨k - 1, by omega⟩
  have hj : phase_Get.j0 (k + 1) l g true = some (0, 3) := by simp only [phase_Get.j0, if_true]
  unfold phase_Get.f getS
  by_cases h1 : g < 1
  · rw [if_pos h1, hj, if_pos (.inl h1)]
  rw [if_neg h1]
  by_cases h6 : g > 6
  · rw [if_pos h6, hj, if_pos (.inr (.inl h6))]
  rw [if_neg h6, at_val g (by omega) (by omega)]
  simp only [Option.bind_some]
  rw [wrap_id (2000 + 2 * (g - 1) + 2) (by omega) (by omega)]
  by_cases hL : (l.length : Int) < 2000 + 2 * (g - 1) + 2
  · rw [decide_eq_true hL, hj, if_pos (.inr (.inr (by omega)))]
  rw [decide_eq_false hL, if_neg (by omega)]
  simp only [phase_Get.j0]
  rw [if_neg (by simp), at_val g (by omega) (by omega)]
  simp only [Option.bind_some]
  have r0 := rd_range hl (2000 + 2 * (g - 1))
  have r1 := rd_range hl (2001 + 2 * (g - 1))
  rw [if_pos (by omega), if_pos (by omega), and15 _ r0.1 r0.2]
  by_cases hw : rd l (2000 + 2 * (g - 1)) % 32768 > 31
  · rw [if_pos hw, if_neg (by omega)]
  rw [if_neg hw, wrap_id (2000 + 2 * (g - 1) + 1) (by omega) (by omega), if_pos (by omega), if_pos (by omega), neg_small _ (by omega) (by omega)]
  simp only [Option.bind_some]
  rw [show 2000 + 2 * (g - 1) + 1 = 2001 + 2 * (g - 1) from by omega, and15 _ r1.1 r1.2]
  by_cases hv : rd l (2001 + 2 * (g - 1)) % 32768 = 32767 - rd l (2000 + 2 * (g - 1)) % 32768
  · rw [if_pos hv, if_pos ⟨by omega, hv⟩, wrap_id _ (by omega) (by omega)]
  · rw [if_neg hv, if_neg (fun h => hv h.2)]

theorem refSet_ok (g n : Int) (h1 : 1 ≤ g) (h6 : g ≤ 6) (h0 : 0 ≤ n) (h31 : n ≤ 31) :
    periluneref25_Set.f g n = some ([⟨2000 + 2 * (g - 1), n⟩, ⟨2001 + 2 * (g - 1), 32767 - n⟩], 0) := by
  unfold periluneref25_Set.f
  rw [if_neg (by omega), if_neg (by omega), if_neg (by omega), if_neg (by omega), wrap_id (g - 1) (by omega) (by omega), wrap_id (2 * (g - 1)) (by omega) (by omega), wrap_id (2000 + 2 * (g - 1)) (by omega) (by omega),
    wrap_id (2000 + 2 * (g - 1) + 1) (by omega) (by omega), wrap_id (32767 - n) (by omega) (by omega), wrap16_id _ (by omega) (by omega), wrap16_id _ (by omega) (by omega)]
  rw [show 2000 + 2 * (g - 1) + 1 = 2001 + 2 * (g - 1) from by omega]

theorem set_ok (g n : Int) (k : Nat) (hk : 0 < k) (h1 : 1 ≤ g) (h6 : g ≤ 6) (h0 : 0 ≤ n) (h31 : n ≤ 31) :
    phase_Set.f k g n = some ([⟨2000 + 2 * (g - 1), n⟩, ⟨2001 + 2 * (g - 1), 32767 - n⟩], 0) := by
  obtain ⟨k, rfl⟩ : ∃ m, k = m + 1 := ⟨k - 1, by omega⟩
  unfold phase_Set.f
  rw [if_neg (by omega), if_neg (by omega), if_neg (by omega), decide_eq_false (by omega)]
  simp only [phase_Set.j0]
  rw [if_neg (by simp), at_val g h1 h6]
  simp only [Option.bind_some]
  rw [wrap16_id _ (by omega) (by omega), neg_small n h0 h31]
  simp only [Option.bind_some]
  rw [wrap_id _ (by omega) (by omega), show 2000 + 2 * (g - 1) + 1 = 2001 + 2 * (g - 1) from by omega]

theorem set_bad (g n : Int) (k : Nat) (hk : 0 < k) (h : g < 1 ∨ 6 < g ∨ n < 0 ∨ 31 < n) : phase_Set.f k g n = some ([], 3) := by
  obtain ⟨k, rfl⟩ : ∃ m, k = m + 1 := ⟨k - 1, by omega⟩
  have hj : phase_Set.j0 (k + 1) g n true = some ([], 3) := by simp only [phase_Set.j0, if_true]
  unfold phase_Set.f
  by_cases h1 : g < 1
  · rw [if_pos h1, hj]
  rw [if_neg h1]
  by_cases h2 : g > 6
  · rw [if_pos h2, hj]
  rw [if_neg h2]
  by_cases h3 : n < 0
  · rw [if_pos h3, hj]
  rw [if_neg h3, decide_eq_true (by omega), hj]

theorem refGet_loop (l : List Int) (hl : U16 l) (g : Int) (h1 : 1 ≤ g) (h6 : g ≤ 6) (hL : 2000 + 2 * g ≤ (l.length : Int)) (d : Nat) :
    ∀ (k : Nat) (n : Int), 0 ≤ n → n ≤ 32 → 32 - n = d → d < k → (∀ m, 0 ≤ m → m < n → ¬ (rd l (2000 + 2 * (g - 1)) % 32768 = m ∧ rd l (2001 + 2 * (g - 1)) % 32768 = 32767 - m)) → periluneref25_Get.l0 k l g n = some (getS l g) := by
  have hS : getS l g = if rd l (2000 + 2 * (g - 1)) % 32768 ≤ 31 ∧ rd l (2001 + 2 * (g - 1)) % 32768 = 32767 - rd l (2000 + 2 * (g - 1)) % 32768 then (rd l (2000 + 2 * (g - 1)) % 32768, 0) else (0, 10) := by
    unfold getS; rw [if_neg (by omega)]
  have r0 := rd_range hl (2000 + 2 * (g - 1))
  have r1 := rd_range hl (2001 + 2 * (g - 1))
  induction d with
  | zero =>
    intro k n h0 h32 hd hk hno
    obtain ⟨k, rfl⟩ : ∃ m, k = m + 1 := ⟨k - 1, by omega⟩
    simp only [periluneref25_Get.l0]
    rw [if_neg (by omega), hS, if_neg]
    rintro ⟨ha, hb⟩
    exact hno _ (by omega) (by omega) ⟨rfl, hb⟩
  | succ d ih =>
    intro k n h0 h32 hd hk hno
    obtain ⟨k, rfl⟩ : ∃ m, k = m + 1 := ⟨k - 1, by omega⟩
    simp only [periluneref25_Get.l0]
    rw [if_pos (by omega), refSet_ok g n h1 h6 h0 (by omega)]
    simp only [Option.bind_some, rd_T42, List.length_cons, List.length_nil, show (0 : Int).toNat = 0 from rfl, show (1 : Int).toNat = 1 from rfl, List.getD_cons_zero, List.getD_cons_succ]
    rw [if_pos (by decide), if_pos (by omega), if_pos (by omega), tmod_pos _ _ r0.1]
    have step : (∀ m, 0 ≤ m → m < n + 1 → ¬ (rd l (2000 + 2 * (g - 1)) % 32768 = m ∧ rd l (2001 + 2 * (g - 1)) % 32768 = 32767 - m)) → periluneref25_Get.l0 k l g (wrap64 (n + 1)) = some (getS l g) := by
      rw [wrap_id (n + 1) (by omega) (by omega)]
      exact ih k (n + 1) (by omega) (by omega) (by omega) (by omega)
    by_cases ha : rd l (2000 + 2 * (g - 1)) % 32768 = n
    · rw [if_pos ha, if_pos (by decide), if_pos (by omega), if_pos (by omega), tmod_pos _ _ r1.1]
      by_cases hb : rd l (2001 + 2 * (g - 1)) % 32768 = 32767 - n
      · rw [if_pos hb, hS, if_pos ⟨by omega, by rw [ha]; exact hb⟩, ha]
      · rw [if_neg hb]
        refine step fun m m0 m1 hm => ?_
        by_cases e : m = n
        · subst e; exact hb hm.2
        · exact hno m m0 (by omega) hm
    · rw [if_neg ha]
      refine step fun m m0 m1 hm => ?_
      by_cases e : m = n
      · subst e; exact ha hm.1
      · exact hno m m0 (by omega) hm

theorem refGet_ok (l : List Int) (hl : U16 l) (g : Int) (k : Nat) (hk : 40 < k) : periluneref25_Get.f k l g = some (getS l g) := by
  obtain ⟨k, rfl⟩ : ∃ m, k = m + 1 := ⟨k - 1, by omega⟩
  have hj : periluneref25_Get.j0 (k + 1) l g true = some (0, 3) := by simp only [periluneref25_Get.j0, if_true]
  unfold periluneref25_Get.f
  by_cases h1 : g < 1
  · rw [if_pos h1, hj]; unfold getS; rw [if_pos (.inl h1)]
  rw [if_neg h1]
  by_cases h6 : g > 6
  · rw [if_pos h6, hj]; unfold getS; rw [if_pos (.inr (.inl h6))]
  rw [if_neg h6, wrap_id (2 * g) (by omega) (by omega), wrap_id (2000 + 2 * g) (by omega) (by omega)]
  by_cases hL : (l.length : Int) < 2000 + 2 * g
  · rw [decide_eq_true hL, hj]; unfold getS; rw [if_pos (.inr (.inr hL))]
  rw [decide_eq_false hL]
  simp only [periluneref25_Get.j0]
  rw [if_neg (by simp)]
  exact refGet_loop l hl g (by omega) (by omega) (by omega) 32 k 0 (by omega) (by omega) (by omega) (by omega) (fun m h0 h1 => by omega)

theorem U16.set {l : List Int} (h : U16 l) (i : Nat) (v : Int) (h0 : 0 ≤ v) (h1 : v < 65536) : U16 (l.set i v) := by
  intro x hx
  rcases List.mem_or_eq_of_mem_set hx with hx | rfl
  · exact h x hx
  · exact ⟨h0, h1⟩

theorem U16.zeros (n : Nat) : U16 (List.replicate n 0) := by
  intro x hx
  rw [List.eq_of_mem_replicate hx]
  decide

theorem mem_loop (l : List Int) (hl : U16 l) (d : Nat) : ∀ (k : Nat) (m : List Int) (i a : Int), U16 m → m.length ≤ 2047 → 0 ≤ i → i ≤ 2047 → 2047 - i = d → d < k →
    ∃ m', perilunelaw25_memory.l0 k m i a l = some m' ∧ U16 m' ∧ m'.length = m.length := by
  induction d with
  | zero =>
    intro k m i a hm hlen h0 h1 hd hk
    obtain ⟨k, rfl⟩ : ∃ m, k = m + 1 := ⟨k - 1, by omega⟩
    refine ⟨m, ?_, hm, rfl⟩
    simp only [perilunelaw25_memory.l0]
    rw [wrap_id (2000 + i) (by omega) (by omega), if_neg (show ¬ 2000 + i < (m.length : Int) from by omega)]
    simp
  | succ d ih =>
    intro k m i a hm hlen h0 h1 hd hk
    obtain ⟨k, rfl⟩ : ∃ m, k = m + 1 := ⟨k - 1, by omega⟩
    simp only [perilunelaw25_memory.l0]
    rw [wrap_id (2000 + i) (by omega) (by omega), wrap_id (i + 1) (by omega) (by omega)]
    by_cases ha : i < (l.length : Int)
    · rw [if_pos ha]
      by_cases hb : 2000 + i < (m.length : Int)
      · rw [if_pos hb, if_pos h0, if_pos (by omega)]
        obtain ⟨m', e, hu, hlen'⟩ := ih k (m.set (2000 + i).toNat (rd l i)) (i + 1) a (hm.set _ _ (rd_range hl i).1 (rd_range hl i).2) (by rw [List.length_set]; exact hlen) (by omega) (by omega) (by omega) (by omega)
        exact ⟨m', e, hu, by rw [hlen', List.length_set]⟩
      · rw [if_neg hb]
        exact ⟨m, rfl, hm, rfl⟩
    · rw [if_neg ha]
      exact ⟨m, rfl, hm, rfl⟩

theorem mem_ok (a : Int) (l : List Int) (hl : U16 l) (k : Nat) (hk : 2047 < k) :
    ∃ m, perilunelaw25_memory.f k a l = some m ∧ U16 m ∧ (m.length : Int) = IntKind.u64.wrap a % 2048 := by
  have w0 : 0 ≤ IntKind.u64.wrap a := by rw [IntKind.wrap_u64]; omega
  unfold perilunelaw25_memory.f
  rw [tmod_pos _ _ w0, wrap_id _ (by omega) (by omega), if_pos (by omega), if_pos (by omega)]
  obtain ⟨m, e, hu, hlen⟩ := mem_loop l hl 2047 k (List.replicate (IntKind.u64.wrap a % 2048).toNat 0) 0 a (U16.zeros _) (by rw [List.length_replicate]; omega) (by omega) (by omega) (by omega) hk
  exact ⟨m, e, hu, by rw [hlen, List.length_replicate]; omega⟩
theorem rd_set (l : List Int) (i j v : Int) (h0 : 0 ≤ i) (h1 : i < (l.length : Int)) (j0 : 0 ≤ j) : rd (l.set i.toNat v) j = if j = i then v else rd l j := by
  unfold rd
  rw [List.getD_eq_getElem?_getD, List.getD_eq_getElem?_getD, List.getElem?_set]
  by_cases h : j = i
  · subst h
    rw [if_pos rfl, if_pos (by omega), if_pos rfl]
    rfl
  · rw [if_neg (by omega), if_neg h]


/-! ### the arrays -/
theorem all_both (m : List Int) (hm : U16 m) (d : Nat) : ∀ (k : Nat) (i a b c x y z : Int), 0 ≤ i → i ≤ 6 → 6 - i = d → d + 50 < k →
    ∃ r, phase_All.l0 k m i a b c x y z = some r ∧ periluneref25_All.l0 k m (i + 1) a b c x y z = some r := by
  induction d with
  | zero =>
    intro k i a b c x y z h0 h1 hd hk
    obtain ⟨k, rfl⟩ : ∃ q, k = q + 1 := ⟨k - 1, by omega⟩
    refine ⟨(a, b, c, x, y, z, 0, 0), ?_, ?_⟩
    · simp only [phase_All.l0]; rw [if_neg (by omega)]
    · simp only [periluneref25_All.l0]; rw [if_neg (by omega)]
  | succ d ih =>
    intro k i a b c x y z h0 h1 hd hk
    obtain ⟨k, rfl⟩ : ∃ q, k = q + 1 := ⟨k - 1, by omega⟩
    simp only [phase_All.l0, periluneref25_All.l0]
    rw [wrap_id (i + 1 - 1) (by omega) (by omega), wrap_id (i + 1) (by omega) (by omega), wrap_id (i + 1 + 1) (by omega) (by omega), if_pos (by omega), if_pos (by omega), get_ok m hm _ k (by omega), refGet_ok m hm _ k (by omega)]
    simp only [Option.bind_some, show i + 1 - 1 = i from by omega]
    by_cases h : (getS m (i + 1)).2 = 0
    · rw [if_pos h, if_pos h, if_pos h0, if_pos h0, if_pos (by omega)]
      exact ih k (i + 1) _ _ _ _ _ _ (by omega) (by omega) (by omega) (by omega)
    · rw [if_neg h, if_neg h]
      exact ⟨_, rfl, rfl⟩

theorem active_both (a b c x y z : Int) (d : Nat) : ∀ (k : Nat) (i : Int) (l : List Int), 0 ≤ i → i ≤ 6 → 6 - i = d → d < k → (l.length : Int) ≤ i →
    ∃ r, phase_Active.l0 k l i a b c x y z = some r ∧ periluneref25_Active.l0 k l (i + 1) a b c x y z = some r ∧ (r.length : Int) ≤ 6 := by
  induction d with
  | zero =>
    intro k i l h0 h1 hd hk hl
    obtain ⟨k, rfl⟩ : ∃ q, k = q + 1 := ⟨k - 1, by omega⟩
    refine ⟨l, ?_, ?_, by omega⟩
    · simp only [phase_Active.l0]; rw [if_neg (by omega)]
    · simp only [periluneref25_Active.l0]; rw [if_neg (by omega)]
  | succ d ih =>
    intro k i l h0 h1 hd hk hl
    obtain ⟨k, rfl⟩ : ∃ q, k = q + 1 := ⟨k - 1, by omega⟩
    simp only [phase_Active.l0, periluneref25_Active.l0]
    rw [wrap_id (i + 1 - 1) (by omega) (by omega), wrap_id (i + 1) (by omega) (by omega), wrap_id (i + 1 + 1) (by omega) (by omega)]
    simp only [show (i + 1 - 1 : Int) = i from by omega, if_pos (show i < 6 by omega), if_pos h0, if_pos (show i + 1 ≤ 6 by omega)]
    by_cases h : pk6 a b c x y z i > 0
    · rw [if_pos h, if_pos h, if_pos (by omega), if_pos (by omega)]
      exact ih k (i + 1) _ (by omega) (by omega) (by omega) (by omega) (by rw [List.length_append]; simp; omega)
    · rw [if_neg h, if_neg h]
      exact ih k (i + 1) _ (by omega) (by omega) (by omega) (by omega) (by omega)

theorem ints_loop (l : List Int) (hl : (l.length : Int) ≤ 6) (d : Nat) : ∀ (k : Nat) (i : Int), 0 ≤ i → i ≤ l.length → (l.length : Int) - i = d → d < k → perilunelaw25_ints.l0 k l l i = some true := by
  induction d with
  | zero =>
    intro k i h0 h1 hd hk
    obtain ⟨k, rfl⟩ : ∃ q, k = q + 1 := ⟨k - 1, by omega⟩
    simp only [perilunelaw25_ints.l0]
    rw [if_neg (by omega)]
  | succ d ih =>
    intro k i h0 h1 hd hk
    obtain ⟨k, rfl⟩ : ∃ q, k = q + 1 := ⟨k - 1, by omega⟩
    simp only [perilunelaw25_ints.l0]
    rw [if_pos (by omega), if_pos h0, if_pos (by omega), if_pos trivial, wrap_id (i + 1) (by omega) (by omega)]
    exact ih k (i + 1) (by omega) (by omega) (by omega) (by omega)

theorem ints_self (l : List Int) (hl : (l.length : Int) ≤ 6) (k : Nat) (hk : 6 < k) : perilunelaw25_ints.f k l l = some true := by
  unfold perilunelaw25_ints.f
  rw [if_pos rfl]
  exact ints_loop l hl l.length k 0 (by omega) (by omega) (by omega) (by omega)

theorem write_loop (cs : List S42) (n : Nat) (hcs : ∀ c ∈ cs, 0 ≤ c.f0 ∧ c.f0 < (n : Int)) (hc : cs.length < 1000) (d : Nat) : ∀ (k : Nat) (x : List Int) (i : Nat), x.length = n → i ≤ cs.length → cs.length - i = d → d < k →
    periluneref25_Write.l0 k cs x (i : Int) = some ((cs.drop i).foldl (fun y c => y.set c.f0.toNat c.f1) x) := by
  induction d with
  | zero =>
    intro k x i hx hi hd hk
    obtain ⟨k, rfl⟩ : ∃ q, k = q + 1 := ⟨k - 1, by omega⟩
    simp only [periluneref25_Write.l0]
    rw [if_neg (by omega), List.drop_eq_nil_of_le (by omega)]
    rfl
  | succ d ih =>
    intro k x i hx hi hd hk
    obtain ⟨k, rfl⟩ : ∃ q, k = q + 1 := ⟨k - 1, by omega⟩
    have hlt : i < cs.length := by omega
    have e : rd_T42 cs (i : Int) = cs[i] := by simp [rd_T42, List.getD_eq_getElem?_getD, List.getElem?_eq_getElem hlt]
    have hb := hcs cs[i] (List.getElem_mem hlt)
    simp only [periluneref25_Write.l0, e]
    rw [if_pos (by omega), if_pos (by omega), if_pos (by omega), if_pos (by omega), if_pos (by omega), wrap_id ((i : Int) + 1) (by omega) (by omega), show ((i : Int) + 1) = ((i + 1 : Nat) : Int) from by omega,
      ih k _ (i + 1) (by rw [List.length_set]; exact hx) (by omega) (by omega) (by omega), List.drop_eq_getElem_cons hlt, List.foldl_cons]

/-- the cells of Clear -/
def clr : List S42 := [⟨2000, 0⟩, ⟨2001, 32767⟩, ⟨2002, 0⟩, ⟨2003, 32767⟩, ⟨2004, 0⟩, ⟨2005, 32767⟩, ⟨2006, 0⟩, ⟨2007, 32767⟩, ⟨2008, 0⟩, ⟨2009, 32767⟩, ⟨2010, 0⟩, ⟨2011, 32767⟩]

theorem clear_ok (k : Nat) (hk : 10 < k) : phase_Clear.f k = some clr := by
  have h := at_rounds (g := fun k => phase_Clear.f k) (fun k => phase_Clear.mono k) (show 10 ≤ k by omega) (r := clr) ?_
  · exact h
  · simp only [phase_Clear.f, phase_Clear.l0]
    rw [wrap_id (0 + 1) (by decide) (by decide)]
    simp (config := { decide := true }) only [wrap_id, set_ok _ _ 9, set_ok _ _ 8, set_ok _ _ 7, set_ok _ _ 6, set_ok _ _ 5, set_ok _ _ 4, Option.bind_some, if_true, if_false, clr, List.nil_append, List.cons_append, List.length_cons, List.length_nil]
    rfl

theorem written (m : List Int) (hL : (m.length : Int) = 2047) (k : Nat) (hk : 20 < k) :
    periluneref25_Write.f k m clr = some (clr.foldl (fun y c => y.set c.f0.toNat c.f1) m) := by
  unfold periluneref25_Write.f
  rw [if_pos (by simp; omega), List.nil_append]
  exact write_loop clr m.length (by intro c hc; simp only [clr, List.mem_cons, List.not_mem_nil, or_false] at hc; rcases hc with rfl | rfl | rfl | rfl | rfl | rfl | rfl | rfl | rfl | rfl | rfl | rfl <;> simp <;> omega) (by decide) 12 k m 0 rfl (by decide) (by decide) (by omega)

theorem cleared (m : List Int) (hL : (m.length : Int) = 2047) (g : Int) (h1 : 1 ≤ g) (h6 : g ≤ 6) : getS (clr.foldl (fun y c => y.set c.f0.toNat c.f1) m) g = (0, 0) := by
  have hlen : ((clr.foldl (fun y c => y.set c.f0.toNat c.f1) m).length : Int) = 2047 := by simp only [clr, List.foldl_cons, List.foldl_nil, List.length_set]; exact hL
  have key : ∀ j : Int, 0 ≤ j → rd (clr.foldl (fun y c => y.set c.f0.toNat c.f1) m) j = if j = 2011 then 32767 else if j = 2010 then 0 else if j = 2009 then 32767 else if j = 2008 then 0 else if j = 2007 then 32767 else if j = 2006 then 0 else if j = 2005 then 32767 else if j = 2004 then 0 else if j = 2003 then 32767 else if j = 2002 then 0 else if j = 2001 then 32767 else if j = 2000 then 0 else rd m j := by
    intro j hj
    simp only [clr, List.foldl_cons, List.foldl_nil]
    rw [rd_set _ _ _ _ (by decide) (by simp only [List.length_set]; omega) hj, rd_set _ _ _ _ (by decide) (by simp only [List.length_set]; omega) hj, rd_set _ _ _ _ (by decide) (by simp only [List.length_set]; omega) hj, rd_set _ _ _ _ (by decide) (by simp only [List.length_set]; omega) hj, rd_set _ _ _ _ (by decide) (by simp only [List.length_set]; omega) hj, rd_set _ _ _ _ (by decide) (by simp only [List.length_set]; omega) hj, rd_set _ _ _ _ (by decide) (by simp only [List.length_set]; omega) hj, rd_set _ _ _ _ (by decide) (by simp only [List.length_set]; omega) hj, rd_set _ _ _ _ (by decide) (by simp only [List.length_set]; omega) hj, rd_set _ _ _ _ (by decide) (by simp only [List.length_set]; omega) hj, rd_set _ _ _ _ (by decide) (by simp only [List.length_set]; omega) hj, rd_set _ _ _ _ (by decide) (by omega) hj]
  unfold getS
  rw [if_neg (by omega), key _ (by omega), key _ (by omega)]
  obtain rfl | rfl | rfl | rfl | rfl | rfl : g = 1 ∨ g = 2 ∨ g = 3 ∨ g = 4 ∨ g = 5 ∨ g = 6 := (by omega) <;> rfl

theorem U16.clr {m : List Int} (h : U16 m) : U16 (clr.foldl (fun y c => y.set c.f0.toNat c.f1) m) := by
  simp only [PlainQ.clr, List.foldl_cons, List.foldl_nil]
  iterate 12 refine U16.set ?_ _ _ (by decide) (by decide)
  exact h

theorem all_clear (y : List Int) (hy : U16 y) (hg : ∀ g, 1 ≤ g → g ≤ 6 → getS y g = (0, 0)) (d : Nat) : ∀ (k : Nat) (i : Int), 0 ≤ i → i ≤ 6 → 6 - i = d → d < k → phase_All.l0 k y i 0 0 0 0 0 0 = some (0, 0, 0, 0, 0, 0, 0, 0) := by
  induction d with
  | zero =>
    intro k i h0 h1 hd hk
    obtain ⟨k, rfl⟩ : ∃ q, k = q + 1 := ⟨k - 1, by omega⟩
    simp only [phase_All.l0]
    rw [if_neg (by omega)]
  | succ d ih =>
    intro k i h0 h1 hd hk
    obtain ⟨k, rfl⟩ : ∃ q, k = q + 1 := ⟨k - 1, by omega⟩
    simp only [phase_All.l0]
    rw [wrap_id (i + 1) (by omega) (by omega), if_pos (by omega), get_ok y hy _ k (by omega), hg _ (by omega) (by omega)]
    have hp : ∀ c : Int, pt c i (0 : Int) 0 = 0 := fun c => by unfold pt; split <;> rfl
    simp only [Option.bind_some, hp]
    rw [if_pos trivial, if_pos h0]
    exact ih k (i + 1) (by omega) (by omega) (by omega) (by omega)
end Go.Proofs.Ytndcaaklcacnoaa.PlainQ
