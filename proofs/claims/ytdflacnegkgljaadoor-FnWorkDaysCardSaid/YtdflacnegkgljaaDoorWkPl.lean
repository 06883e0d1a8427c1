/- The plain law of working days. -/
import Derived.Test.YtdflacnegkgljaaDoorBase
namespace Go.Proofs.YtdflacnegkgljaaDoor

/-- A working day: neither a weekend nor one of these days. -/
def wkB (H : List Int) (d : Int) : Bool := decide (d % 7 < 5) && !H.contains d
/-- How many of the k days from a on are working days. -/
def cnt (H : List Int) (a : Int) : Nat → Nat
  | 0 => 0
  | k + 1 => cnt H a k + if wkB H (a + k) then 1 else 0
theorem cnt_yes {H : List Int} {a : Int} {k : Nat} (h : wkB H (a + k) = true) : cnt H a (k + 1) = cnt H a k + 1 := by
  show cnt H a k + (if wkB H (a + k) then 1 else 0) = _
  rw [if_pos h]
theorem cnt_no {H : List Int} {a : Int} {k : Nat} (h : wkB H (a + k) = false) : cnt H a (k + 1) = cnt H a k := by
  show cnt H a k + (if wkB H (a + k) then 1 else 0) = _
  rw [h]; rfl
theorem cnt_step (H : List Int) (a : Int) (k : Nat) : cnt H a k ≤ cnt H a (k + 1) ∧ cnt H a (k + 1) ≤ cnt H a k + 1 := by
  cases h : wkB H (a + k) with
  | true => rw [cnt_yes h]; omega
  | false => rw [cnt_no h]; omega
theorem cnt_add (H : List Int) (a : Int) (j k : Nat) : cnt H a (j + k) = cnt H a j + cnt H (a + j) k := by
  induction k with
  | zero => rfl
  | succ k ih =>
    show cnt H a (j + k) + (if wkB H (a + ((j + k : Nat) : Int)) then 1 else 0) = cnt H a j + (cnt H (a + j) k + if wkB H (a + j + k) then 1 else 0)
    rw [ih, show a + ((j + k : Nat) : Int) = a + (j : Int) + (k : Int) by omega, Nat.add_assoc]
theorem cnt_le (H : List Int) (a : Int) (k : Nat) : cnt H a k ≤ k := by
  induction k with
  | zero => exact Nat.le_refl _
  | succ k ih => have := cnt_step H a k; omega
theorem cnt_mono (H : List Int) (a : Int) {j k : Nat} (h : j ≤ k) : cnt H a j ≤ cnt H a k := by
  obtain ⟨d, rfl⟩ := Nat.exists_eq_add_of_le h
  rw [cnt_add]; omega
theorem cnt_per (a q : Int) (k : Nat) : cnt [] (a + 7 * q) k = cnt [] a k := by
  induction k with
  | zero => rfl
  | succ k ih =>
    show cnt [] (a + 7 * q) k + (if wkB [] (a + 7 * q + k) then 1 else 0) = cnt [] a k + (if wkB [] (a + k) then 1 else 0)
    rw [ih]
    have e : wkB [] (a + 7 * q + k) = wkB [] (a + k) := by
      unfold wkB
      rw [show (a + 7 * q + k) % 7 = (a + k) % 7 by omega]
      simp
    rw [e]
theorem cnt_week (a : Int) : cnt [] a 7 = 5 := by
  have h := cnt_per (a % 7) (a / 7) 7
  rw [show a % 7 + 7 * (a / 7) = a by omega] at h
  rw [h]
  have h1 := Int.emod_nonneg a (show (7 : Int) ≠ 0 by decide)
  have h2 := Int.emod_lt_of_pos a (show (0 : Int) < 7 by decide)
  rcases (show a % 7 = 0 ∨ a % 7 = 1 ∨ a % 7 = 2 ∨ a % 7 = 3 ∨ a % 7 = 4 ∨ a % 7 = 5 ∨ a % 7 = 6 by omega) with e | e | e | e | e | e | e <;> rw [e] <;> decide
theorem cnt_weeks (a : Int) (q r : Nat) : 5 * q ≤ cnt [] a (7 * q + r) := by
  induction q generalizing a with
  | zero => omega
  | succ q ih =>
    rw [show 7 * (q + 1) + r = 7 + (7 * q + r) by omega, cnt_add, cnt_week]
    have := ih (a + (7 : Nat))
    omega
theorem cnt_more (h : Int) (H : List Int) (a : Int) (k : Nat) : cnt H a k ≤ cnt (h :: H) a k + (if a ≤ h ∧ h < a + k then 1 else 0) := by
  induction k with
  | zero => simp [cnt]
  | succ k ih =>
    cases e : wkB H (a + k) with
    | false =>
      rw [cnt_no e]
      have := cnt_step (h :: H) a k
      refine Nat.le_trans ih ?_
      split <;> split <;> omega
    | true =>
      rw [cnt_yes e]
      by_cases hk : a + k = h
      · have e' : wkB (h :: H) (a + k) = false := by simp [wkB, hk]
        rw [cnt_no e', if_pos (by omega)]
        rw [if_neg (by omega)] at ih
        omega
      · have e' : wkB (h :: H) (a + k) = true := by
          unfold wkB at e ⊢
          simp at e ⊢
          exact ⟨e.1, hk, e.2⟩
        rw [cnt_yes e']
        split at ih
        · rw [if_pos (by omega)]; omega
        · have : cnt (h :: H) a k + 1 ≤ cnt (h :: H) a k + 1 + (if a ≤ h ∧ h < a + ((k + 1 : Nat) : Int) then 1 else 0) := by omega
          omega
theorem cnt_few (H : List Int) (a : Int) (k : Nat) : k / 7 * 5 ≤ cnt H a k + H.length := by
  induction H with
  | nil =>
    have := cnt_weeks a (k / 7) (k % 7)
    rw [show 7 * (k / 7) + k % 7 = k by omega] at this
    simp; omega
  | cons h H ih =>
    have := cnt_more h H a k
    simp
    split at this <;> omega

/-- The list of the working days of k days from a on. -/
def wkL (H : List Int) (a : Int) : Nat → List Int
  | 0 => []
  | k + 1 => wkL H a k ++ if wkB H (a + k) then [a + (k : Int)] else []
theorem wkL_yes {H : List Int} {a : Int} {k : Nat} (h : wkB H (a + k) = true) : wkL H a (k + 1) = wkL H a k ++ [a + (k : Int)] := by
  show wkL H a k ++ (if wkB H (a + k) then _ else _) = _
  rw [if_pos h]
theorem wkL_no {H : List Int} {a : Int} {k : Nat} (h : wkB H (a + k) = false) : wkL H a (k + 1) = wkL H a k := by
  show wkL H a k ++ (if wkB H (a + k) then _ else _) = _
  rw [h]; simp
theorem wkL_len (H : List Int) (a : Int) (k : Nat) : (wkL H a k).length = cnt H a k := by
  induction k with
  | zero => rfl
  | succ k ih =>
    cases h : wkB H (a + k) with
    | true => rw [wkL_yes h, cnt_yes h]; simp [ih]
    | false => rw [wkL_no h, cnt_no h, ih]
/-- The n-th working day stands where the count comes to n. -/
theorem wkL_at {H : List Int} {a : Int} {k m : Nat} (hk : k < m) (h : wkB H (a + k) = true) : (wkL H a m)[cnt H a k]? = some (a + (k : Int)) := by
  induction m with
  | zero => omega
  | succ m ih =>
    by_cases e : k = m
    · subst e
      rw [wkL_yes h, ← wkL_len H a k]
      simp
    · have := ih (by omega)
      cases hb : wkB H (a + m) with
      | true =>
        rw [wkL_yes hb]
        have hl : cnt H a k < (wkL H a m).length := by
          rcases Nat.lt_or_ge (cnt H a k) (wkL H a m).length with h | h
          · exact h
          · rw [List.getElem?_eq_none h] at this; cases this
        rw [List.getElem?_append_left hl]
        exact this
      | false => rw [wkL_no hb]; exact this
/-- Day a + k is the n-th working day from a on. -/
def Nth (H : List Int) (a : Int) (n k : Nat) : Prop := wkB H (a + k) = true ∧ cnt H a k + 1 = n
theorem Nth.uniq {H : List Int} {a : Int} {n k k' : Nat} (h : Nth H a n k) (h' : Nth H a n k') : k = k' := by
  obtain ⟨h1, h2⟩ := h
  obtain ⟨h3, h4⟩ := h'
  rcases Nat.lt_trichotomy k k' with e | e | e
  · have := cnt_mono H a (show k + 1 ≤ k' by omega)
    rw [cnt_yes h1] at this
    omega
  · exact e
  · have := cnt_mono H a (show k' + 1 ≤ k by omega)
    rw [cnt_yes h3] at this
    omega
theorem nth_ex {H : List Int} {a : Int} {n m : Nat} (hn : 1 ≤ n) (h : n ≤ cnt H a m) : ∃ k, k < m ∧ Nth H a n k := by
  induction m with
  | zero => simp [cnt] at h; omega
  | succ m ih =>
    by_cases hm : n ≤ cnt H a m
    · obtain ⟨k, h1, h2⟩ := ih hm
      exact ⟨k, by omega, h2⟩
    · cases hb : wkB H (a + m) with
      | true => rw [cnt_yes hb] at h; exact ⟨m, by omega, hb, by omega⟩
      | false => rw [cnt_no hb] at h; omega
theorem Nth.le {H : List Int} {a : Int} {n k m : Nat} (h : Nth H a n k) (hm : k < m) : n ≤ cnt H a m := by
  have := cnt_mono H a (show k + 1 ≤ m by omega)
  rw [cnt_yes h.1] at this
  have := h.2
  omega
theorem Nth.cnt_succ {H : List Int} {a : Int} {n k : Nat} (h : Nth H a n k) : cnt H a (k + 1) = n := by
  rw [cnt_yes h.1]; exact h.2
end Go.Proofs.YtdflacnegkgljaaDoor
