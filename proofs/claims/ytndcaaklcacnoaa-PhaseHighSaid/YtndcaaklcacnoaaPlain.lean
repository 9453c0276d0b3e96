/- Plain facts on what the printed functions of package phase and of its reference answer, over numbers and lists. No condition but that a word lies between 0 and 65535. -/
import Derived.Test.YtndcaaklcacnoaaPx5
import Derived.Laws.BitsAllLaws
namespace Go.Proofs.Ytndcaaklcacnoaa.Plain
open Go.RowKit Go.Proofs.Ytndcaaklcacnoaa.P Go.Proofs.YtndcaaklcacnoaaW.PrintWords Go.Proofs.YtndcaaklcacnoaaW.PrintLast

def U16 (l : List Int) : Prop := ∀ x ∈ l, 0 ≤ x ∧ x < 65536

theorem u16_of_wf {l : List Int} (h : ∀ x ∈ l, (Lit.int .u16 x).wf = true) : U16 l := by
  intro x hx
  have := h x hx
  simp [Lit.wf, IntKind.min, IntKind.max, IntKind.signed, IntKind.bits] at this
  omega

theorem rd_range {l : List Int} (h : U16 l) (i : Int) : 0 ≤ rd l i ∧ rd l i < 65536 := by
  unfold rd
  by_cases hi : i.toNat < l.length
  · have : l.getD i.toNat 0 ∈ l := by rw [List.getD_eq_getElem?_getD, List.getElem?_eq_getElem hi]; exact List.getElem_mem hi
    exact h _ this
  · rw [List.getD_eq_getElem?_getD, List.getElem?_eq_none (by omega)]
    decide

theorem wrap_id (x : Int) (h0 : -9223372036854775808 ≤ x) (h1 : x ≤ 9223372036854775807) : wrap64 x = x := by unfold wrap64; omega
theorem wrap16_id (x : Int) (h0 : 0 ≤ x) (h1 : x < 65536) : IntKind.u16.wrap x = x := by rw [IntKind.wrap_u16]; omega

theorem and15 (a : Int) (h0 : 0 ≤ a) (h1 : a < 65536) : Go.bits .and .u16 a 32767 = a % 32768 := by
  rw [u16_and a 32767 h0 h1 (by decide) (by decide)]
  have e : (32767 : Int).toNat = 2 ^ 15 - 1 := by decide
  rw [e, Nat.and_two_pow_sub_one_eq_mod]
  omega

theorem neg_small (a : Int) (h0 : 0 ≤ a) (h1 : a ≤ 31) : onescomp_Neg.f a = some (32767 - a) := by
  have H : ∀ j : Fin 32, onescomp_Neg.f (j.val : Int) = some (32767 - (j.val : Int)) := by decide +kernel
  have := H ⟨a.toNat, by omega⟩
  simp only at this
  rwa [show ((a.toNat : Nat) : Int) = a from by omega] at this

theorem tmod_pos (a b : Int) (h : 0 ≤ a) : Int.tmod a b = a % b := Int.tmod_eq_emod_of_nonneg h

theorem live_ok (k : Nat) (h : 10 ≤ k) : perilunelaw25_live.f k = some true :=
  at_rounds (g := fun k => perilunelaw25_live.f k) (fun k => perilunelaw25_live.mono k) h (by decide +kernel)

/-- the answer of Get -/
def getS (l : List Int) (g : Int) : Int × Int :=
  if g < 1 ∨ 6 < g ∨ (l.length : Int) < 2000 + 2 * g then (0, 3)
  else if rd l (2000 + 2 * (g - 1)) % 32768 ≤ 31 ∧ rd l (2001 + 2 * (g - 1)) % 32768 = 32767 - rd l (2000 + 2 * (g - 1)) % 32768 then (rd l (2000 + 2 * (g - 1)) % 32768, 0)
  else (0, 10)

theorem at_val (g : Int) (h1 : 1 ≤ g) (h6 : g ≤ 6) : phase_at.f g = some (2000 + 2 * (g - 1)) := by
  unfold phase_at.f
  rw [wrap_id (g - 1) (by omega) (by omega), wrap_id (2 * (g - 1)) (by omega) (by omega), wrap_id _ (by omega) (by omega)]

theorem get_ok (l : List Int) (hl : U16 l) (g : Int) (k : Nat) (hk : 0 < k) : phase_Get.f k l g = some (getS l g) := by
  obtain ⟨k, rfl⟩ : ∃ m, k = m + 1 := ⟨k - 1, by omega⟩
  have hj : phase_Get.j0 (k + 1) l g true = some (0, 3) := by simp only [phase_Get.j0, if_true]
  unfold phase_Get.f getS
  by_cases h1 : g < 1
  · rw [if_pos h1, hj, if_pos (.inl h1)]
  rw [if_neg h1]
  by_cases h6 : g > 6
  · rw [if_pos h6, hj, if_pos (.inr (.inl h6))]
  rw [if_neg h6, at_val g (by omega) (by omega)]
  simp only [Option.bind_some]
  rw [wrap_id (2000 + 2 * (g - 1) + 2) (by omega) (by omega)]
  by_cases hL : (l.length : Int) < 2000 + 2 * (g - 1) + 2
  · rw [decide_eq_true hL, hj, if_pos (.inr (.inr (by omega)))]
  rw [decide_eq_false hL, if_neg (by omega)]
  simp only [phase_Get.j0]
  rw [if_neg (by simp), at_val g (by omega) (by omega)]
  simp only [Option.bind_some]
  have r0 := rd_range hl (2000 + 2 * (g - 1))
  have r1 := rd_range hl (2001 + 2 * (g - 1))
  rw [if_pos (by omega), if_pos (by omega), and15 _ r0.1 r0.2]
  by_cases hw : rd l (2000 + 2 * (g - 1)) % 32768 > 31
  · rw [if_pos hw, if_neg (by omega)]
  rw [if_neg hw, wrap_id (2000 + 2 * (g - 1) + 1) (by omega) (by omega), if_pos (by omega), if_pos (by omega), neg_small _ (by omega) (by omega)]
  simp only [Option.bind_some]
  rw [show 2000 + 2 * (g - 1) + 1 = 2001 + 2 * (g - 1) from by omega, and15 _ r1.1 r1.2]
  by_cases hv : rd l (2001 + 2 * (g - 1)) % 32768 = 32767 - rd l (2000 + 2 * (g - 1)) % 32768
  · rw [if_pos hv, if_pos ⟨by omega, hv⟩, wrap_id _ (by omega) (by omega)]
  · rw [if_neg hv, if_neg (fun h => hv h.2)]

theorem refSet_ok (g n : Int) (h1 : 1 ≤ g) (h6 : g ≤ 6) (h0 : 0 ≤ n) (h31 : n ≤ 31) :
    periluneref25_Set.f g n = some ([⟨2000 + 2 * (g - 1), n⟩, ⟨2001 + 2 * (g - 1), 32767 - n⟩], 0) := by
  unfold periluneref25_Set.f
  rw [if_neg (by omega), if_neg (by omega), if_neg (by omega), if_neg (by omega), wrap_id (g - 1) (by omega) (by omega), wrap_id (2 * (g - 1)) (by omega) (by omega), wrap_id (2000 + 2 * (g - 1)) (by omega) (by omega),
    wrap_id (2000 + 2 * (g - 1) + 1) (by omega) (by omega), wrap_id (32767 - n) (by omega) (by omega), wrap16_id _ (by omega) (by omega), wrap16_id _ (by omega) (by omega)]
  rw [show 2000 + 2 * (g - 1) + 1 = 2001 + 2 * (g - 1) from by omega]

theorem set_ok (g n : Int) (k : Nat) (hk : 0 < k) (h1 : 1 ≤ g) (h6 : g ≤ 6) (h0 : 0 ≤ n) (h31 : n ≤ 31) :
    phase_Set.f k g n = some ([⟨2000 + 2 * (g - 1), n⟩, ⟨2001 + 2 * (g - 1), 32767 - n⟩], 0) := by
  obtain ⟨k, rfl⟩ : ∃ m, k = m + 1 := ⟨k - 1, by omega⟩
  unfold phase_Set.f
  rw [if_neg (by omega), if_neg (by omega), if_neg (by omega), decide_eq_false (by omega)]
  simp only [phase_Set.j0]
  rw [if_neg (by simp), at_val g h1 h6]
  simp only [Option.bind_some]
  rw [wrap16_id _ (by omega) (by omega), neg_small n h0 h31]
  simp only [Option.bind_some]
  rw [wrap_id _ (by omega) (by omega), show 2000 + 2 * (g - 1) + 1 = 2001 + 2 * (g - 1) from by omega]

theorem set_bad (g n : Int) (k : Nat) (hk : 0 < k) (h : g < 1 ∨ 6 < g ∨ n < 0 ∨ 31 < n) : phase_Set.f k g n = some ([], 3) := by
  obtain ⟨k, rfl⟩ : ∃ m, k = m + 1 := ⟨k - 1, by omega⟩
  have hj : phase_Set.j0 (k + 1) g n true = some ([], 3) := by simp only [phase_Set.j0, if_true]
  unfold phase_Set.f
  by_cases h1 : g < 1
  · rw [if_pos h1, hj]
  rw [if_neg h1]
  by_cases h2 : g > 6
  · rw [if_pos h2, hj]
  rw [if_neg h2]
  by_cases h3 : n < 0
  · rw [if_pos h3, hj]
  rw [if_neg h3, decide_eq_true (by omega), hj]

theorem refGet_loop (l : List Int) (hl : U16 l) (g : Int) (h1 : 1 ≤ g) (h6 : g ≤ 6) (hL : 2000 + 2 * g ≤ (l.length : Int)) (d : Nat) :
    ∀ (k : Nat) (n : Int), 0 ≤ n → n ≤ 32 → 32 - n = d → d < k → (∀ m, 0 ≤ m → m < n → ¬ (rd l (2000 + 2 * (g - 1)) % 32768 = m ∧ rd l (2001 + 2 * (g - 1)) % 32768 = 32767 - m)) → periluneref25_Get.l0 k l g n = some (getS l g) := by
  have hS : getS l g = if rd l (2000 + 2 * (g - 1)) % 32768 ≤ 31 ∧ rd l (2001 + 2 * (g - 1)) % 32768 = 32767 - rd l (2000 + 2 * (g - 1)) % 32768 then (rd l (2000 + 2 * (g - 1)) % 32768, 0) else (0, 10) := by
    unfold getS; rw [if_neg (by omega)]
  have r0 := rd_range hl (2000 + 2 * (g - 1))
  have r1 := rd_range hl (2001 + 2 * (g - 1))
  induction d with
  | zero =>
    intro k n h0 h32 hd hk hno
    obtain ⟨k, rfl⟩ : ∃ m, k = m + 1 := ⟨k - 1, by omega⟩
    simp only [periluneref25_Get.l0]
    rw [if_neg (by omega), hS, if_neg]
    rintro ⟨ha, hb⟩
    exact hno _ (by omega) (by omega) ⟨rfl, hb⟩
  | succ d ih =>
    intro k n h0 h32 hd hk hno
    obtain ⟨k, rfl⟩ : ∃ m, k = m + 1 := ⟨k - 1, by omega⟩
    simp only [periluneref25_Get.l0]
    rw [if_pos (by omega), refSet_ok g n h1 h6 h0 (by omega)]
    simp only [Option.bind_some, rd_T42, List.length_cons, List.length_nil, show (0 : Int).toNat = 0 from rfl, show (1 : Int).toNat = 1 from rfl, List.getD_cons_zero, List.getD_cons_succ]
    rw [if_pos (by decide), if_pos (by omega), if_pos (by omega), tmod_pos _ _ r0.1]
    have step : (∀ m, 0 ≤ m → m < n + 1 → ¬ (rd l (2000 + 2 * (g - 1)) % 32768 = m ∧ rd l (2001 + 2 * (g - 1)) % 32768 = 32767 - m)) → periluneref25_Get.l0 k l g (wrap64 (n + 1)) = some (getS l g) := by
      rw [wrap_id (n + 1) (by omega) (by omega)]
      exact ih k (n + 1) (by omega) (by omega) (by omega) (by omega)
    by_cases ha : rd l (2000 + 2 * (g - 1)) % 32768 = n
    · rw [if_pos ha, if_pos (by decide), if_pos (by omega), if_pos (by omega), tmod_pos _ _ r1.1]
      by_cases hb : rd l (2001 + 2 * (g - 1)) % 32768 = 32767 - n
      · rw [if_pos hb, hS, if_pos ⟨by omega, by rw [ha]; exact hb⟩, ha]
      · rw [if_neg hb]
        refine step fun m m0 m1 hm => ?_
        by_cases e : m = n
        · subst e; exact hb hm.2
        · exact hno m m0 (by omega) hm
    · rw [if_neg ha]
      refine step fun m m0 m1 hm => ?_
      by_cases e : m = n
      · subst e; exact ha hm.1
      · exact hno m m0 (by omega) hm

theorem refGet_ok (l : List Int) (hl : U16 l) (g : Int) (k : Nat) (hk : 40 < k) : periluneref25_Get.f k l g = some (getS l g) := by
  obtain ⟨k, rfl⟩ : ∃ m, k = m + 1 := ⟨k - 1, by omega⟩
  have hj : periluneref25_Get.j0 (k + 1) l g true = some (0, 3) := by simp only [periluneref25_Get.j0, if_true]
  unfold periluneref25_Get.f
  by_cases h1 : g < 1
  · rw [if_pos h1, hj]; unfold getS; rw [if_pos (.inl h1)]
  rw [if_neg h1]
  by_cases h6 : g > 6
  · rw [if_pos h6, hj]; unfold getS; rw [if_pos (.inr (.inl h6))]
  rw [if_neg h6, wrap_id (2 * g) (by omega) (by omega), wrap_id (2000 + 2 * g) (by omega) (by omega)]
  by_cases hL : (l.length : Int) < 2000 + 2 * g
  · rw [decide_eq_true hL, hj]; unfold getS; rw [if_pos (.inr (.inr hL))]
  rw [decide_eq_false hL]
  simp only [periluneref25_Get.j0]
  rw [if_neg (by simp)]
  exact refGet_loop l hl g (by omega) (by omega) (by omega) 32 k 0 (by omega) (by omega) (by omega) (by omega) (fun m h0 h1 => by omega)

theorem U16.set {l : List Int} (h : U16 l) (i : Nat) (v : Int) (h0 : 0 ≤ v) (h1 : v < 65536) : U16 (l.set i v) := by
  intro x hx
  rcases List.mem_or_eq_of_mem_set hx with hx | rfl
  · exact h x hx
  · exact ⟨h0, h1⟩

theorem U16.zeros (n : Nat) : U16 (List.replicate n 0) := by
  intro x hx
  rw [List.eq_of_mem_replicate hx]
  decide

theorem mem_loop (l : List Int) (hl : U16 l) (d : Nat) : ∀ (k : Nat) (m : List Int) (i a : Int), U16 m → m.length ≤ 2047 → 0 ≤ i → i ≤ 2047 → 2047 - i = d → d < k →
    ∃ m', perilunelaw25_memory.l0 k m i a l = some m' ∧ U16 m' ∧ m'.length = m.length := by
  induction d with
  | zero =>
    intro k m i a hm hlen h0 h1 hd hk
    obtain ⟨k, rfl⟩ : ∃ m, k = m + 1 := ⟨k - 1, by omega⟩
    refine ⟨m, ?_, hm, rfl⟩
    simp only [perilunelaw25_memory.l0]
    rw [wrap_id (2000 + i) (by omega) (by omega), if_neg (show ¬ 2000 + i < (m.length : Int) from by omega)]
    simp
  | succ d ih =>
    intro k m i a hm hlen h0 h1 hd hk
    obtain ⟨k, rfl⟩ : ∃ m, k = m + 1 := ⟨k - 1, by omega⟩
    simp only [perilunelaw25_memory.l0]
    rw [wrap_id (2000 + i) (by omega) (by omega), wrap_id (i + 1) (by omega) (by omega)]
    by_cases ha : i < (l.length : Int)
    · rw [if_pos ha]
      by_cases hb : 2000 + i < (m.length : Int)
      · rw [if_pos hb, if_pos h0, if_pos (by omega)]
        obtain ⟨m', e, hu, hlen'⟩ := ih k (m.set (2000 + i).toNat (rd l i)) (i + 1) a (hm.set _ _ (rd_range hl i).1 (rd_range hl i).2) (by rw [List.length_set]; exact hlen) (by omega) (by omega) (by omega) (by omega)
        exact ⟨m', e, hu, by rw [hlen', List.length_set]⟩
      · rw [if_neg hb]
        exact ⟨m, rfl, hm, rfl⟩
    · rw [if_neg ha]
      exact ⟨m, rfl, hm, rfl⟩

theorem mem_ok (a : Int) (l : List Int) (hl : U16 l) (k : Nat) (hk : 2047 < k) :
    ∃ m, perilunelaw25_memory.f k a l = some m ∧ U16 m ∧ (m.length : Int) = IntKind.u64.wrap a % 2048 := by
  have w0 : 0 ≤ IntKind.u64.wrap a := by rw [IntKind.wrap_u64]; omega
  unfold perilunelaw25_memory.f
  rw [tmod_pos _ _ w0, wrap_id _ (by omega) (by omega), if_pos (by omega), if_pos (by omega)]
  obtain ⟨m, e, hu, hlen⟩ := mem_loop l hl 2047 k (List.replicate (IntKind.u64.wrap a % 2048).toNat 0) 0 a (U16.zeros _) (by rw [List.length_replicate]; omega) (by omega) (by omega) (by omega) hk
  exact ⟨m, e, hu, by rw [hlen, List.length_replicate]; omega⟩
end Go.Proofs.Ytndcaaklcacnoaa.Plain
