/- Deltas and FromDeltas of package waitlist and the reference's Deltas over lists, and the law WaitDeltas. Condition: a list has at most 5864062014634 elements. -/
import Derived.Test.YteffinafobeefaaPlainInts
import Derived.Test.YteffinafobeefaaPx9
import Derived.Test.YteffinafobeefaaPx10
namespace Go.Proofs.Yteffinafobeefaa.Plain
open Go.RowKit Go.Proofs.Yteffinafobeefaa.P Go.Proofs.YteffinafobeefaaW.PrintWords Go.Proofs.YteffinafobeefaaW.PrintLast

theorem rdI_at (l : List Int) (i : Int) (h0 : 0 ≤ i) (h1 : i < (l.length : Int)) : rd l i = l[i.toNat]'(by omega) := by
  unfold rd
  rw [List.getD_eq_getElem?_getD, List.getElem?_eq_getElem (by omega)]
  rfl

theorem drop_rdI (l : List Int) (i : Int) (h0 : 0 ≤ i) (h1 : i < (l.length : Int)) : l.drop i.toNat = rd l i :: l.drop (i + 1).toNat := by
  rw [List.drop_eq_getElem_cons (by omega), rdI_at l i h0 h1, show (i + 1).toNat = i.toNat + 1 from by omega]

theorem take_set {α : Type} (l : List α) (i : Int) (v : α) (h0 : 0 ≤ i) (h1 : i < (l.length : Int)) : (l.set i.toNat v).take (i + 1).toNat = l.take i.toNat ++ [v] := by
  rw [show (i + 1).toNat = i.toNat + 1 from by omega, List.take_succ_eq_append_getElem (by rw [List.length_set]; omega), List.getElem_set_self, List.take_set_of_le (Nat.le_refl _)]

/-! ### Deltas -/
def dl : Int → List S24 → List Int
  | _, [] => []
  | n, t :: r => (t.f0 - n) :: dl t.f0 r

theorem dl_len : ∀ (n : Int) (l : List S24), (dl n l).length = l.length
  | _, [] => rfl
  | _, t :: r => by simp only [dl, List.length_cons, dl_len t.f0 r]

def deltasS (l : List S24) (n : Int) : List Int × Int := if okV l = true ∧ 0 ≤ n ∧ (0 < l.length → n ≤ (rd_T24 l 0).f0) then (dl n l, 0) else ([], 2)

theorem rd_range (l : List S24) (h : okV l = true) (i : Int) (h0 : 0 ≤ i) (h1 : i < (l.length : Int)) : 0 ≤ (rd_T24 l i).f0 ∧ (rd_T24 l i).f0 ≤ 1099511627776 := by
  rw [rd_at l i h0 h1]
  exact okF_ge 0 l (okV_of h).1 _ (List.getElem_mem _)

theorem deltas_loop (l : List S24) (hv : okV l = true) (d : Nat) : ∀ (k : Nat) (n : Int) (x : List Int) (i : Int), x.length = l.length → 0 ≤ n → (i < l.length → n ≤ 1099511627776) → 0 ≤ i → i ≤ l.length → (l.length : Int) - i = d → d < k →
    waitlist_Deltas.l0 k n x l (l.length : Int) i = some (x.take i.toNat ++ dl n (l.drop i.toNat), 0) := by
  obtain ⟨hF, h9⟩ := okV_of hv
  induction d with
  | zero =>
    intro k n x i hx hn hn2 h0 h1 hd hk
    obtain ⟨k, rfl⟩ : ∃ m, k = m + 1 := ⟨k - 1, by omega⟩
    simp only [waitlist_Deltas.l0]
    rw [if_neg (by omega), List.drop_eq_nil_of_le (by omega), List.take_of_length_le (by omega)]
    simp [dl]
  | succ d ih =>
    intro k n x i hx hn hn2 h0 h1 hd hk
    obtain ⟨k, rfl⟩ : ∃ m, k = m + 1 := ⟨k - 1, by omega⟩
    have hr := rd_range l hv i h0 (by omega)
    have hn3 := hn2 (by omega)
    simp only [waitlist_Deltas.l0]
    rw [if_pos (by omega), if_pos h0, if_pos (by omega), if_pos (by omega), wrap_id (i + 1) (by omega) (by omega), wrap_id ((rd_T24 l i).f0 - n) (by omega) (by omega),
      ih k _ _ (i + 1) (by rw [List.length_set]; exact hx) (by omega) (fun _ => by omega) (by omega) (by omega) (by omega) (by omega), drop_rd l i h0 (by omega), take_set x i _ h0 (by omega)]
    simp [dl]

theorem deltas_ok (l : List S24) (hl : l.length ≤ 5864062014634) (n : Int) (k : Nat) (hk : l.length + 20 < k) : waitlist_Deltas.f k l n = some (deltasS l n) := by
  obtain ⟨k, rfl⟩ : ∃ m, k = m + 1 := ⟨k - 1, by omega⟩
  have hj : waitlist_Deltas.j0 (k + 1) l n true = some ([], 2) := by simp only [waitlist_Deltas.j0, if_true]
  unfold waitlist_Deltas.f deltasS
  rw [valid_ok l hl _ (by omega)]
  simp only [Option.bind_some]
  cases hv : okV l with
  | false => rw [if_neg (by decide), hj, if_neg (by simp)]
  | true =>
    rw [if_pos rfl]
    obtain ⟨hF, h9⟩ := okV_of hv
    by_cases h1 : n < 0
    · rw [if_pos h1, hj, if_neg (by omega)]
    rw [if_neg h1]
    have good : (0 < l.length → n ≤ (rd_T24 l 0).f0) → waitlist_Deltas.j0 (k + 1) l n false = some (dl n l, 0) := by
      intro hg
      simp only [waitlist_Deltas.j0]
      rw [if_neg (by decide), if_pos (by omega), if_pos (by omega), deltas_loop l hv l.length k n _ 0 (by simp) (by omega) (fun h => by have := hg (by omega); have := rd_range l hv 0 (by omega) (by omega); omega) (by omega) (by omega) (by omega) (by omega)]
      simp
    by_cases h2 : (l.length : Int) > 0
    · rw [if_pos h2, if_pos (by omega)]
      by_cases h3 : (rd_T24 l 0).f0 < n
      · rw [decide_eq_true h3, hj, if_neg (fun h => by have := h.2.2 (by omega); omega)]
      · rw [decide_eq_false h3, good (fun _ => by omega), if_pos ⟨rfl, by omega, fun _ => by omega⟩]
    · rw [if_neg h2, good (fun h => by omega), if_pos ⟨rfl, by omega, fun h => by omega⟩]

theorem refDeltas_loop (l : List S24) (hv : okV l = true) (d : Nat) : ∀ (k : Nat) (n : Int) (x : List Int) (i : Int), x.length ≤ i → 0 ≤ n → (i < l.length → n ≤ 1099511627776) → 0 ≤ i → i ≤ l.length → (l.length : Int) - i = d → d < k →
    periluneref24_Deltas.l0 k l n x i = some (x ++ dl n (l.drop i.toNat), 0) := by
  obtain ⟨hF, h9⟩ := okV_of hv
  induction d with
  | zero =>
    intro k n x i hx hn hn2 h0 h1 hd hk
    obtain ⟨k, rfl⟩ : ∃ m, k = m + 1 := ⟨k - 1, by omega⟩
    simp only [periluneref24_Deltas.l0]
    rw [if_neg (by omega), List.drop_eq_nil_of_le (by omega)]
    simp [dl]
  | succ d ih =>
    intro k n x i hx hn hn2 h0 h1 hd hk
    obtain ⟨k, rfl⟩ : ∃ m, k = m + 1 := ⟨k - 1, by omega⟩
    have hr := rd_range l hv i h0 (by omega)
    have hn3 := hn2 (by omega)
    simp only [periluneref24_Deltas.l0]
    rw [if_pos (by omega), if_pos h0, if_pos (by omega), wrap_id (i + 1) (by omega) (by omega), wrap_id ((rd_T24 l i).f0 - n) (by omega) (by omega),
      ih k _ _ (i + 1) (by simp; omega) (by omega) (fun _ => by omega) (by omega) (by omega) (by omega) (by omega), drop_rd l i h0 (by omega)]
    simp [dl]

theorem refDeltas_ok (l : List S24) (n : Int) (k : Nat) (hk : 40 < k) : periluneref24_Deltas.f k l n = some (deltasS l n) := by
  obtain ⟨k, rfl⟩ : ∃ m, k = m + 1 := ⟨k - 1, by omega⟩
  have hj : periluneref24_Deltas.j0 (k + 1) l n true = some ([], 2) := by simp only [periluneref24_Deltas.j0, if_true]
  unfold periluneref24_Deltas.f deltasS
  rw [refValid_ok l _ (by omega)]
  simp only [Option.bind_some]
  cases hv : okV l with
  | false => rw [if_neg (by decide), hj, if_neg (by simp)]
  | true =>
    rw [if_pos rfl]
    obtain ⟨hF, h9⟩ := okV_of hv
    by_cases h1 : n < 0
    · rw [if_pos h1, hj, if_neg (by omega)]
    rw [if_neg h1]
    have good : (0 < l.length → n ≤ (rd_T24 l 0).f0) → periluneref24_Deltas.j0 (k + 1) l n false = some (dl n l, 0) := by
      intro hg
      simp only [periluneref24_Deltas.j0]
      rw [if_neg (by decide), refDeltas_loop l hv l.length k n _ 0 (by simp) (by omega) (fun h => by have := hg (by omega); have := rd_range l hv 0 (by omega) (by omega); omega) (by omega) (by omega) (by omega) (by omega)]
      simp
    by_cases h2 : (l.length : Int) > 0
    · rw [if_pos h2, if_pos (by omega)]
      by_cases h3 : (rd_T24 l 0).f0 < n
      · rw [decide_eq_true h3, hj, if_neg (fun h => by have := h.2.2 (by omega); omega)]
      · rw [decide_eq_false h3, good (fun _ => by omega), if_pos ⟨rfl, by omega, fun _ => by omega⟩]
    · rw [if_neg h2, good (fun h => by omega), if_pos ⟨rfl, by omega, fun h => by omega⟩]

/-! ### FromDeltas -/
def fd : Int → List Int → List Int → List Int → Option (List S24)
  | _, [], _, _ => some []
  | n, d :: ds, ks, gs => if d > 1099511627776 - n then none else (fd (n + d) ds ks.tail gs.tail).map (fun r => ⟨n + d, ks.headD 0, gs.headD 0⟩ :: r)

def fromE (x : Option (List S24)) (acc : List S24) : List S24 × Int := match x with
  | some r => (acc ++ r, 0)
  | none => ([], 4)

def fromS (d : List Int) (n : Int) (ks gs : List Int) : List S24 × Int :=
  if 0 ≤ n ∧ n ≤ 1099511627776 ∧ ks.length = d.length ∧ gs.length = d.length then
    if ∀ x ∈ d, 0 ≤ x then (if d.length ≤ 9 then fromE (fd n d ks gs) [] else ([], 4)) else ([], 2)
  else ([], 2)

theorem from_l1 (d ks gs : List Int) (hk1 : ks.length = d.length) (ha1 : gs.length = d.length) (h9 : d.length ≤ 9) (hpos : ∀ x ∈ d, 0 ≤ x) (e : Nat) :
    ∀ (k : Nat) (n : Int) (x : List S24) (i : Int), x.length = d.length → 0 ≤ n → n ≤ 1099511627776 → 0 ≤ i → i ≤ d.length → (d.length : Int) - i = e → e < k →
    waitlist_FromDeltas.l1 k n ks gs x d (d.length : Int) i = some (fromE (fd n (d.drop i.toNat) (ks.drop i.toNat) (gs.drop i.toNat)) (x.take i.toNat)) := by
  induction e with
  | zero =>
    intro k n x i hx hn hn2 h0 h1 hd hk
    obtain ⟨k, rfl⟩ : ∃ m, k = m + 1 := ⟨k - 1, by omega⟩
    simp only [waitlist_FromDeltas.l1]
    rw [if_neg (by omega), List.drop_eq_nil_of_le (by omega), List.take_of_length_le (by omega)]
    simp [fd, fromE]
  | succ e ih =>
    intro k n x i hx hn hn2 h0 h1 hd hk
    obtain ⟨k, rfl⟩ : ∃ m, k = m + 1 := ⟨k - 1, by omega⟩
    have hr : 0 ≤ rd d i := by rw [rdI_at d i h0 (by omega)]; exact hpos _ (List.getElem_mem _)
    simp only [waitlist_FromDeltas.l1]
    rw [if_pos (by omega), if_pos h0, if_pos (by omega), wrap_id (1099511627776 - n) (by omega) (by omega), wrap_id (i + 1) (by omega) (by omega), drop_rdI d i h0 (by omega), drop_rdI ks i h0 (by omega), drop_rdI gs i h0 (by omega)]
    simp only [fd]
    by_cases hc : rd d i > 1099511627776 - n
    · rw [if_pos hc, if_pos hc]; rfl
    · rw [if_neg hc, if_neg hc, if_pos (by omega), if_pos (by omega), if_pos (by omega), wrap_id (n + rd d i) (by omega) (by omega),
        ih k _ _ (i + 1) (by rw [List.length_set]; exact hx) (by omega) (by omega) (by omega) (by omega) (by omega) (by omega), take_set x i _ h0 (by omega)]
      simp only [List.tail_cons, List.headD_cons]
      cases fd (n + rd d i) (d.drop (i + 1).toNat) (ks.drop (i + 1).toNat) (gs.drop (i + 1).toNat) with
      | none => rfl
      | some r => simp [fromE]

theorem from_l0 (d ks gs : List Int) (hk1 : ks.length = d.length) (ha1 : gs.length = d.length) (hl : d.length ≤ 17592186043904) (n : Int) (hn : 0 ≤ n) (hn2 : n ≤ 1099511627776) (e : Nat) :
    ∀ (k : Nat) (i : Int), (∀ x ∈ d.take i.toNat, 0 ≤ x) → 0 ≤ i → i ≤ d.length → (d.length : Int) - i = e → e + 20 < k →
    waitlist_FromDeltas.l0 k d n ks gs d (d.length : Int) i = some (if ∀ x ∈ d, 0 ≤ x then (if d.length ≤ 9 then fromE (fd n d ks gs) [] else ([], 4)) else ([], 2)) := by
  induction e with
  | zero =>
    intro k i hp h0 h1 hd hk
    obtain ⟨k, rfl⟩ : ∃ m, k = m + 1 := ⟨k - 1, by omega⟩
    have hpos : ∀ x ∈ d, 0 ≤ x := by
      rw [List.take_of_length_le (by omega)] at hp
      exact hp
    simp only [waitlist_FromDeltas.l0]
    rw [if_neg (by omega), if_pos hpos]
    by_cases h9 : (d.length : Int) > 9
    · rw [if_pos h9, if_neg (by omega)]
    · rw [if_neg h9, if_pos (by omega), if_pos (by omega), if_pos (by omega), from_l1 d ks gs hk1 ha1 (by omega) hpos d.length k n _ 0 (by simp) hn hn2 (by omega) (by omega) (by omega) (by omega)]
      simp
  | succ e ih =>
    intro k i hp h0 h1 hd hk
    obtain ⟨k, rfl⟩ : ∃ m, k = m + 1 := ⟨k - 1, by omega⟩
    have hm : rd d i ∈ d := by rw [rdI_at d i h0 (by omega)]; exact List.getElem_mem _
    simp only [waitlist_FromDeltas.l0]
    rw [if_pos (by omega), if_pos h0, if_pos (by omega), wrap_id (i + 1) (by omega) (by omega)]
    by_cases hc : rd d i < 0
    · rw [if_pos hc, if_neg (fun h => by have := h _ hm; omega)]
    · rw [if_neg hc, ih k (i + 1) (fun x hx => ?_) (by omega) (by omega) (by omega) (by omega)]
      have et : d.take (i + 1).toNat = d.take i.toNat ++ [rd d i] := by
        rw [show (i + 1).toNat = i.toNat + 1 from by omega, List.take_succ_eq_append_getElem (by omega), rdI_at d i h0 (by omega)]
      rw [et] at hx
      rcases List.mem_append.1 hx with hx | hx
      · exact hp x hx
      · rw [List.mem_singleton.1 hx]; omega

theorem from_ok (d : List Int) (hl : d.length ≤ 17592186043904) (n : Int) (ks gs : List Int) (k : Nat) (hk : d.length + 40 < k) : waitlist_FromDeltas.f k d n ks gs = some (fromS d n ks gs) := by
  obtain ⟨k, rfl⟩ : ∃ m, k = m + 1 := ⟨k - 1, by omega⟩
  have hj : waitlist_FromDeltas.j0 (k + 1) d n ks gs true = some ([], 2) := by simp only [waitlist_FromDeltas.j0, if_true]
  unfold waitlist_FromDeltas.f fromS
  by_cases h1 : n < 0
  · rw [if_pos h1, hj, if_neg (by omega)]
  rw [if_neg h1]
  by_cases h2 : n > 1099511627776
  · rw [if_pos h2, hj, if_neg (by omega)]
  rw [if_neg h2]
  by_cases h3 : (ks.length : Int) = (d.length : Int)
  · rw [if_pos h3]
    by_cases h4 : (gs.length : Int) = (d.length : Int)
    · rw [bne_eq_false_iff_eq.2 h4, if_pos ⟨by omega, by omega, by omega, by omega⟩]
      simp only [waitlist_FromDeltas.j0]
      rw [if_neg (by decide), from_l0 d ks gs (by omega) (by omega) hl n (by omega) (by omega) d.length k 0 (by simp) (by omega) (by omega) (by omega) (by omega)]
    · rw [bne_iff_ne.2 h4, hj, if_neg (by omega)]
  · rw [if_neg h3, hj, if_neg (by omega)]

/-! ### the law -/
theorem fd_dl : ∀ (n : Int) (l : List S24), okF n l = true → fd n (dl n l) (l.map (·.f1)) (l.map (·.f2)) = some l
  | _, [], _ => rfl
  | n, t :: r, h => by
    simp only [okF, Bool.and_eq_true, decide_eq_true_eq] at h
    simp only [dl, fd, List.map_cons, List.tail_cons, List.headD_cons]
    rw [if_neg (by omega), show n + (t.f0 - n) = t.f0 from by omega, fd_dl t.f0 r h.2.2]
    rfl

theorem dl_pos : ∀ (n : Int) (l : List S24), okF n l = true → ∀ x ∈ dl n l, 0 ≤ x
  | _, [], _, x, hx => by simp [dl] at hx
  | n, t :: r, h, x, hx => by
    simp only [okF, Bool.and_eq_true, decide_eq_true_eq] at h
    simp only [dl] at hx
    rcases List.mem_cons.1 hx with rfl | hx
    · omega
    · exact dl_pos t.f0 r h.2.2 x hx

theorem okF_first {l : List S24} (h : okF 0 l = true) (n : Int) (hn : 0 < l.length → n ≤ (rd_T24 l 0).f0) : okF n l = true := by
  cases l with
  | nil => rfl
  | cons t r =>
    have := hn (by simp)
    simp only [rd_T24, show (0 : Int).toNat = 0 from rfl, List.getD_cons_zero] at this
    simp only [okF, Bool.and_eq_true, decide_eq_true_eq] at h ⊢
    exact ⟨this, h.2⟩

theorem deltas_end (l : List S24) (hv : okV l = true) (n : Int) (hn : 0 ≤ n) (hn2 : n ≤ 1099511627776) (hf : 0 < l.length → n ≤ (rd_T24 l 0).f0) (d : Nat) : ∀ (k : Nat) (i : Int), 0 ≤ i → i ≤ l.length → (l.length : Int) - i = d → d + 80 < k →
    perilunelaw24_WaitDeltas.l0 k l n (dl n l) ((l.take i.toNat).map (·.f1)) ((l.take i.toNat).map (·.f2)) i = some true := by
  obtain ⟨hF, h9⟩ := okV_of hv
  have hFn := okF_first hF n hf
  induction d with
  | zero =>
    intro k i h0 h1 hd hk
    obtain ⟨k, rfl⟩ : ∃ m, k = m + 1 := ⟨k - 1, by omega⟩
    simp only [perilunelaw24_WaitDeltas.l0]
    have e : fromS (dl n l) n (l.map (·.f1)) (l.map (·.f2)) = (l, 0) := by
      unfold fromS
      rw [if_pos ⟨hn, hn2, by simp [dl_len], by simp [dl_len]⟩, if_pos (dl_pos n l hFn), if_pos (by rw [dl_len]; exact h9), fd_dl n l hFn]
      rfl
    rw [if_neg (by omega), List.take_of_length_le (by omega), from_ok _ (by rw [dl_len]; omega) n _ _ k (by rw [dl_len]; omega), e]
    simp only [Option.bind_some]
    rw [if_pos trivial, same_ok l (by omega) k (by omega), live_ok k (by omega)]
    simp
  | succ d ih =>
    intro k i h0 h1 hd hk
    obtain ⟨k, rfl⟩ : ∃ m, k = m + 1 := ⟨k - 1, by omega⟩
    simp only [perilunelaw24_WaitDeltas.l0]
    have e := ih k (i + 1) (by omega) (by omega) (by omega) (by omega)
    rw [take_rd l i h0 (by omega)] at e
    simp only [List.map_append, List.map_cons, List.map_nil] at e
    rw [if_pos (by omega), if_pos h0, if_pos (by simp; omega), if_pos (by simp; omega), wrap_id (i + 1) (by omega) (by omega)]
    exact e

theorem WaitDeltas_pure (l : List S24) (hl : l.length ≤ 5864062014634) (n : Int) : ∃ k, perilunelaw24_WaitDeltas.f k l n = some true := by
  refine ⟨l.length + 202, ?_⟩
  have hlen : (deltasS l n).1.length ≤ l.length := by
    unfold deltasS
    split
    · exact Nat.le_of_eq (dl_len n l)
    · simp
  unfold perilunelaw24_WaitDeltas.f
  rw [deltas_ok l hl n _ (by omega), refDeltas_ok l n _ (by omega)]
  simp only [Option.bind_some]
  rw [ints_ok _ (by omega) _ (by omega)]
  simp only [Option.bind_some, if_true, bne_self_eq_false, perilunelaw24_WaitDeltas.j0, Bool.false_eq_true, if_false]
  by_cases h : okV l = true ∧ 0 ≤ n ∧ (0 < l.length → n ≤ (rd_T24 l 0).f0)
  · have e : deltasS l n = (dl n l, 0) := by unfold deltasS; rw [if_pos h]
    rw [e]
    simp only [if_true]
    by_cases h2 : n > 1099511627776
    · rw [decide_eq_true h2]
      simp only [perilunelaw24_WaitDeltas.j1, if_true]
      rw [live_ok _ (by omega)]; rfl
    · rw [decide_eq_false h2]
      simp only [perilunelaw24_WaitDeltas.j1, Bool.false_eq_true, if_false]
      have := deltas_end l h.1 n h.2.1 (by omega) h.2.2 l.length (l.length + 200) 0 (by omega) (by omega) (by omega) (by omega)
      simpa using this
  · have e : deltasS l n = ([], 2) := by unfold deltasS; rw [if_neg h]
    rw [e]
    simp only []
    rw [if_neg (by decide)]
    simp only [perilunelaw24_WaitDeltas.j1, if_true]
    rw [live_ok _ (by omega)]; rfl
end Go.Proofs.Yteffinafobeefaa.Plain
