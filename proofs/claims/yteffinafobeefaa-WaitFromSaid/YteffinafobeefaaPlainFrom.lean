/- The reference's FromDeltas over lists, and the law WaitFrom. Condition: a slice of numbers has at most 17592186043904 elements. -/
import Derived.Test.YteffinafobeefaaPlainDeltas
import Derived.Test.YteffinafobeefaaPx11
namespace Go.Proofs.Yteffinafobeefaa.Plain
open Go.RowKit Go.Proofs.Yteffinafobeefaa.P Go.Proofs.YteffinafobeefaaW.PrintWords Go.Proofs.YteffinafobeefaaW.PrintLast

theorem refFrom_l1 (d ks gs : List Int) (hk1 : ks.length = d.length) (ha1 : gs.length = d.length) (h9 : d.length ≤ 9) (hpos : ∀ x ∈ d, 0 ≤ x) (e : Nat) :
    ∀ (k : Nat) (n : Int) (x : List S24) (i : Int), x.length ≤ i → 0 ≤ n → n ≤ 1099511627776 → 0 ≤ i → i ≤ d.length → (d.length : Int) - i = e → e < k →
    periluneref24_FromDeltas.l1 k d n ks gs x i = some (fromE (fd n (d.drop i.toNat) (ks.drop i.toNat) (gs.drop i.toNat)) x) := by
  induction e with
  | zero =>
    intro k n x i hx hn hn2 h0 h1 hd hk
    obtain ⟨k, rfl⟩ : ∃ m, k = m + 1 := ⟨k - 1, by omega⟩
    simp only [periluneref24_FromDeltas.l1]
    rw [if_neg (by omega), List.drop_eq_nil_of_le (by omega)]
    simp [fd, fromE]
  | succ e ih =>
    intro k n x i hx hn hn2 h0 h1 hd hk
    obtain ⟨k, rfl⟩ : ∃ m, k = m + 1 := ⟨k - 1, by omega⟩
    have hr : 0 ≤ rd d i := by rw [rdI_at d i h0 (by omega)]; exact hpos _ (List.getElem_mem _)
    simp only [periluneref24_FromDeltas.l1]
    rw [if_pos (by omega), if_pos h0, wrap_id (1099511627776 - n) (by omega) (by omega), wrap_id (i + 1) (by omega) (by omega), drop_rdI d i h0 (by omega), drop_rdI ks i h0 (by omega), drop_rdI gs i h0 (by omega)]
    simp only [fd]
    by_cases hc : rd d i > 1099511627776 - n
    · rw [if_pos hc, if_pos hc]; rfl
    · rw [if_neg hc, if_neg hc, if_pos (by omega), if_pos (by omega), if_pos (by omega), wrap_id (n + rd d i) (by omega) (by omega),
        ih k _ _ (i + 1) (by simp; omega) (by omega) (by omega) (by omega) (by omega) (by omega) (by omega)]
      simp only [List.tail_cons, List.headD_cons]
      cases fd (n + rd d i) (d.drop (i + 1).toNat) (ks.drop (i + 1).toNat) (gs.drop (i + 1).toNat) with
      | none => rfl
      | some r => simp [fromE]

theorem refFrom_l0 (d ks gs : List Int) (hk1 : ks.length = d.length) (ha1 : gs.length = d.length) (hl : d.length ≤ 17592186043904) (n : Int) (hn : 0 ≤ n) (hn2 : n ≤ 1099511627776) (e : Nat) :
    ∀ (k : Nat) (i : Int), (∀ x ∈ d.take i.toNat, 0 ≤ x) → 0 ≤ i → i ≤ d.length → (d.length : Int) - i = e → e + 20 < k →
    periluneref24_FromDeltas.l0 k d n ks gs i = some (if ∀ x ∈ d, 0 ≤ x then (if d.length ≤ 9 then fromE (fd n d ks gs) [] else ([], 4)) else ([], 2)) := by
  induction e with
  | zero =>
    intro k i hp h0 h1 hd hk
    obtain ⟨k, rfl⟩ : ∃ m, k = m + 1 := ⟨k - 1, by omega⟩
    have hpos : ∀ x ∈ d, 0 ≤ x := by
      rw [List.take_of_length_le (by omega)] at hp
      exact hp
    simp only [periluneref24_FromDeltas.l0]
    rw [if_neg (by omega), if_pos hpos]
    by_cases h9 : (d.length : Int) > 9
    · rw [if_pos h9, if_neg (by omega)]
    · rw [if_neg h9, if_pos (by omega), refFrom_l1 d ks gs hk1 ha1 (by omega) hpos d.length k n _ 0 (by simp) hn hn2 (by omega) (by omega) (by omega) (by omega)]
      simp
  | succ e ih =>
    intro k i hp h0 h1 hd hk
    obtain ⟨k, rfl⟩ : ∃ m, k = m + 1 := ⟨k - 1, by omega⟩
    have hm : rd d i ∈ d := by rw [rdI_at d i h0 (by omega)]; exact List.getElem_mem _
    simp only [periluneref24_FromDeltas.l0]
    rw [if_pos (by omega), if_pos h0, wrap_id (i + 1) (by omega) (by omega)]
    by_cases hc : rd d i < 0
    · rw [if_pos hc, if_neg (fun h => by have := h _ hm; omega)]
    · rw [if_neg hc, ih k (i + 1) (fun x hx => ?_) (by omega) (by omega) (by omega) (by omega)]
      have et : d.take (i + 1).toNat = d.take i.toNat ++ [rd d i] := by
        rw [show (i + 1).toNat = i.toNat + 1 from by omega, List.take_succ_eq_append_getElem (by omega), rdI_at d i h0 (by omega)]
      rw [et] at hx
      rcases List.mem_append.1 hx with hx | hx
      · exact hp x hx
      · rw [List.mem_singleton.1 hx]; omega

theorem refFrom_ok (d : List Int) (hl : d.length ≤ 17592186043904) (n : Int) (ks gs : List Int) (k : Nat) (hk : d.length + 40 < k) : periluneref24_FromDeltas.f k d n ks gs = some (fromS d n ks gs) := by
  obtain ⟨k, rfl⟩ : ∃ m, k = m + 1 := ⟨k - 1, by omega⟩
  have hj : periluneref24_FromDeltas.j0 (k + 1) d n ks gs true = some ([], 2) := by simp only [periluneref24_FromDeltas.j0, if_true]
  unfold periluneref24_FromDeltas.f fromS
  by_cases h1 : n < 0
  · rw [if_pos h1, hj, if_neg (by omega)]
  rw [if_neg h1]
  by_cases h2 : n > 1099511627776
  · rw [if_pos h2, hj, if_neg (by omega)]
  rw [if_neg h2]
  by_cases h3 : (d.length : Int) = (ks.length : Int)
  · rw [if_pos h3]
    by_cases h4 : (d.length : Int) = (gs.length : Int)
    · rw [bne_eq_false_iff_eq.2 h4, if_pos ⟨by omega, by omega, by omega, by omega⟩]
      simp only [periluneref24_FromDeltas.j0]
      rw [if_neg (by decide), refFrom_l0 d ks gs (by omega) (by omega) hl n (by omega) (by omega) d.length k 0 (by simp) (by omega) (by omega) (by omega) (by omega)]
    · rw [bne_iff_ne.2 h4, hj, if_neg (by omega)]
  · rw [if_neg h3, hj, if_neg (by omega)]

theorem fd_ok : ∀ (n : Int) (d ks gs : List Int) (r : List S24), (∀ x ∈ d, 0 ≤ x) → fd n d ks gs = some r → okF n r = true ∧ r.length = d.length ∧ dl n r = d
  | _, [], _, _, r, _, h => by
    simp only [fd, Option.some.injEq] at h
    subst h
    exact ⟨rfl, rfl, rfl⟩
  | n, d :: ds, ks, gs, r, hp, h => by
    simp only [fd] at h
    by_cases hc : d > 1099511627776 - n
    · rw [if_pos hc] at h; cases h
    · rw [if_neg hc] at h
      obtain ⟨q, hq, rfl⟩ := Option.map_eq_some_iff.1 h
      obtain ⟨e1, e2, e3⟩ := fd_ok (n + d) ds ks.tail gs.tail q (fun x hx => hp x (List.mem_cons_of_mem _ hx)) hq
      have h0 := hp d List.mem_cons_self
      refine ⟨?_, by simp [e2], ?_⟩
      · simp only [okF, Bool.and_eq_true, decide_eq_true_eq]
        exact ⟨by omega, by omega, e1⟩
      · simp only [dl, e3]
        rw [show n + d - n = d from by omega]

theorem okF_head {n : Int} {l : List S24} (h : okF n l = true) (hl : 0 < l.length) : n ≤ (rd_T24 l 0).f0 := by
  cases l with
  | nil => simp at hl
  | cons t r =>
    simp only [okF, Bool.and_eq_true, decide_eq_true_eq] at h
    exact h.1

theorem okF_lower {p q : Int} {l : List S24} (h : okF q l = true) (hp : p ≤ q) : okF p l = true := by
  cases l with
  | nil => rfl
  | cons t r =>
    simp only [okF, Bool.and_eq_true, decide_eq_true_eq] at h ⊢
    exact ⟨by omega, h.2⟩

theorem WaitFrom_pure (d : List Int) (hl : d.length ≤ 17592186043904) (n : Int) (ks gs : List Int) : ∃ k, perilunelaw24_WaitFrom.f k d n ks gs = some true := by
  refine ⟨d.length + 202, ?_⟩
  have key : (fromS d n ks gs).1.length ≤ 9 ∧ ((fromS d n ks gs).2 = 0 → deltasS (fromS d n ks gs).1 n = (d, 0) ∧ okV (fromS d n ks gs).1 = true) := by
    unfold fromS
    by_cases h1 : 0 ≤ n ∧ n ≤ 1099511627776 ∧ ks.length = d.length ∧ gs.length = d.length
    · rw [if_pos h1]
      by_cases h2 : ∀ x ∈ d, 0 ≤ x
      · rw [if_pos h2]
        by_cases h3 : d.length ≤ 9
        · rw [if_pos h3]
          cases h4 : fd n d ks gs with
          | none => simp [fromE]
          | some r =>
            obtain ⟨e1, e2, e3⟩ := fd_ok n d ks gs r h2 h4
            have hv : okV r = true := by
              unfold okV
              rw [okF_lower e1 h1.1, decide_eq_true (by omega)]; rfl
            simp only [fromE, List.nil_append]
            refine ⟨by omega, fun _ => ⟨?_, hv⟩⟩
            unfold deltasS
            rw [if_pos ⟨hv, h1.1, okF_head e1⟩, e3]
        · rw [if_neg h3]; simp
      · rw [if_neg h2]; simp
    · rw [if_neg h1]; simp
  obtain ⟨hlen, hok⟩ := key
  unfold perilunelaw24_WaitFrom.f
  rw [from_ok d hl n ks gs _ (by omega), refFrom_ok d hl n ks gs _ (by omega)]
  simp only [Option.bind_some]
  rw [same_ok _ (by omega) _ (by omega)]
  simp only [Option.bind_some, if_true, bne_self_eq_false, perilunelaw24_WaitFrom.j0, Bool.false_eq_true, if_false]
  by_cases h : (fromS d n ks gs).2 = 0
  · obtain ⟨h1, h2⟩ := hok h
    rw [if_pos h, deltas_ok _ (by omega) n _ (by omega), h1]
    simp only [Option.bind_some]
    rw [if_pos trivial, ints_ok d hl _ (by omega), valid_ok _ (by omega) _ (by omega), h2, live_ok _ (by omega)]
    simp
  · rw [if_neg h, live_ok _ (by omega)]; rfl
end Go.Proofs.Yteffinafobeefaa.Plain
