/- The calendar as plain numbers: no program in sight. -/
import Derived.Test.YtinemkjoohgmjaaDoorBase
namespace Go.Proofs.YtinemkjoohgmjaaDoor

def lp (y : Int) : Int := if y % 4 = 0 ∧ (y % 100 ≠ 0 ∨ y % 400 = 0) then 1 else 0
def dim (y m : Int) : Int := if m = 2 then 28 + lp y else if m = 4 ∨ m = 6 ∨ m = 9 ∨ m = 11 then 30 else 31
def mds (y m : Int) : Int := if inB y 1 9999 && inB m 1 12 then dim y m else 0
def nyr (y : Int) : Int := 365 * (y - 1) + (y - 1) / 4 - (y - 1) / 100 + (y - 1) / 400
def cum (y m : Int) : Int :=
  if m ≤ 1 then 0 else if m = 2 then 31 else (if m = 3 then 59 else if m = 4 then 90 else if m = 5 then 120 else if m = 6 then 151 else if m = 7 then 181 else if m = 8 then 212
    else if m = 9 then 243 else if m = 10 then 273 else if m = 11 then 304 else if m = 12 then 334 else 365) + lp y
def num (y m d : Int) : Int := nyr y + cum y m + d - 1
def vld (y m d : Int) : Bool := inB d 1 (mds y m)
def leapB (y : Int) : Bool := inB y 1 9999 && lp y == 1

/-- The number of a date's day, or -1. -/
def dnum (y m d : Int) : Int := if vld y m d then num y m d else -1
theorem dnum_yes {y m d : Int} (h : vld y m d = true) : dnum y m d = num y m d := by unfold dnum; rw [if_pos h]
theorem dnum_no {y m d : Int} (h : vld y m d = false) : dnum y m d = -1 := by unfold dnum; rw [h]; rfl

theorem lp_01 (y : Int) : 0 ≤ lp y ∧ lp y ≤ 1 := by unfold lp; split <;> omega
theorem months {m : Int} (h1 : 1 ≤ m) (h2 : m ≤ 12) : m = 1 ∨ m = 2 ∨ m = 3 ∨ m = 4 ∨ m = 5 ∨ m = 6 ∨ m = 7 ∨ m = 8 ∨ m = 9 ∨ m = 10 ∨ m = 11 ∨ m = 12 := by omega
theorem dim_bd (y m : Int) : 28 ≤ dim y m ∧ dim y m ≤ 31 := by
  have := lp_01 y
  unfold dim
  split
  · omega
  · split <;> omega
theorem cum_succ (y m : Int) (h1 : 1 ≤ m) (h2 : m ≤ 12) : cum y (m + 1) = cum y m + dim y m := by
  rcases months h1 h2 with rfl | rfl | rfl | rfl | rfl | rfl | rfl | rfl | rfl | rfl | rfl | rfl <;> simp [cum, dim] <;> omega
theorem cum_1 (y : Int) : cum y 1 = 0 := by simp [cum]
theorem cum_13 (y : Int) : cum y 13 = 365 + lp y := by simp [cum]
theorem cum_bd (y m : Int) (h1 : 1 ≤ m) (h2 : m ≤ 13) : 0 ≤ cum y m ∧ cum y m ≤ 366 ∧ 28 * (m - 1) ≤ cum y m ∧ cum y m ≤ 31 * (m - 1) := by
  have := lp_01 y
  rcases (show m = 13 ∨ m ≤ 12 by omega) with rfl | h3
  · rw [cum_13]; omega
  · rcases months h1 h3 with rfl | rfl | rfl | rfl | rfl | rfl | rfl | rfl | rfl | rfl | rfl | rfl <;> simp [cum] <;> omega
theorem nyr_1 : nyr 1 = 0 := by decide
theorem nyr_10000 : nyr 10000 = 3652059 := by decide
theorem nyr_succ (y : Int) (_ : 1 ≤ y) : nyr (y + 1) = nyr y + 365 + lp y := by
  unfold nyr lp
  split <;> omega
theorem nyr_bd (y : Int) (h1 : 1 ≤ y) : 365 * (y - 1) ≤ nyr y ∧ nyr y ≤ 366 * (y - 1) := by unfold nyr; omega
theorem nyr_mono (a b : Int) (_ : 1 ≤ a) (h : a ≤ b) : nyr a ≤ nyr b := by unfold nyr; omega

theorem mds_in {y m : Int} (h1 : 1 ≤ y) (h2 : y ≤ 9999) (h3 : 1 ≤ m) (h4 : m ≤ 12) : mds y m = dim y m := by
  unfold mds; rw [inB_true h1 h2, inB_true h3 h4]; rfl
theorem mds_out {y m : Int} (h : ¬ (1 ≤ y ∧ y ≤ 9999 ∧ 1 ≤ m ∧ m ≤ 12)) : mds y m = 0 := by
  unfold mds
  rw [if_neg]
  simp [inB_iff]
  omega
theorem mds_bd (y m : Int) : 0 ≤ mds y m ∧ mds y m ≤ 31 := by
  have := dim_bd y m
  unfold mds
  split <;> omega
theorem mds_cases (y m : Int) : (1 ≤ y ∧ y ≤ 9999 ∧ 1 ≤ m ∧ m ≤ 12 ∧ mds y m = dim y m) ∨ (¬ (1 ≤ y ∧ y ≤ 9999 ∧ 1 ≤ m ∧ m ≤ 12) ∧ mds y m = 0) := by
  by_cases h : 1 ≤ y ∧ y ≤ 9999 ∧ 1 ≤ m ∧ m ≤ 12
  · exact .inl ⟨h.1, h.2.1, h.2.2.1, h.2.2.2, mds_in h.1 h.2.1 h.2.2.1 h.2.2.2⟩
  · exact .inr ⟨h, mds_out h⟩
theorem vld_iff {y m d : Int} : vld y m d = true ↔ 1 ≤ y ∧ y ≤ 9999 ∧ 1 ≤ m ∧ m ≤ 12 ∧ 1 ≤ d ∧ d ≤ dim y m := by
  unfold vld
  rw [inB_iff]
  rcases mds_cases y m with ⟨h1, h2, h3, h4, e⟩ | ⟨h, e⟩ <;> rw [e]
  · omega
  · constructor
    · omega
    · intro h'; exact absurd ⟨h'.1, h'.2.1, h'.2.2.1, h'.2.2.2.1⟩ h
theorem num_bd {y m d : Int} (h : vld y m d = true) : 0 ≤ num y m d ∧ num y m d ≤ 3652058 := by
  obtain ⟨h1, h2, h3, h4, h5, h6⟩ := vld_iff.1 h
  have hc := cum_bd y m h3 (by omega)
  have hs := cum_succ y m h3 h4
  have hn := nyr_bd y h1
  have hy := nyr_succ y h1
  have hm := nyr_mono (y + 1) 10000 (by omega) (by omega)
  rw [nyr_10000] at hm
  have hle : cum y (m + 1) ≤ 365 + lp y := by
    rw [← cum_13 y]
    have := lp_01 y
    rcases (show m = 12 ∨ m + 1 ≤ 12 by omega) with rfl | h7
    · exact Int.le_refl _
    · have := months (show 1 ≤ m + 1 by omega) h7
      rcases this with e | e | e | e | e | e | e | e | e | e | e | e <;> rw [e] <;> simp [cum] <;> omega
  unfold num
  omega
theorem cum_mono (y a b : Int) (h1 : 1 ≤ a) (h : a ≤ b) (hb : b ≤ 13) : cum y a ≤ cum y b := by
  obtain ⟨k, rfl⟩ : ∃ k : Nat, b = a + k := ⟨(b - a).toNat, by omega⟩
  induction k with
  | zero => simp
  | succ k ih =>
    have := ih (by omega) (by omega)
    have hs := cum_succ y (a + k) (by omega) (by omega)
    have hd := dim_bd y (a + k)
    rw [show a + ((k + 1 : Nat) : Int) = a + k + 1 by omega, hs]
    omega
theorem num_year {y m d : Int} (h : vld y m d = true) : nyr y ≤ num y m d ∧ num y m d < nyr (y + 1) := by
  obtain ⟨h1, h2, h3, h4, h5, h6⟩ := vld_iff.1 h
  have hs := cum_succ y m h3 h4
  have hc := cum_mono y (m + 1) 13 (by omega) (by omega) (by omega)
  have hc' := cum_bd y m h3 (by omega)
  rw [cum_13] at hc
  rw [nyr_succ y h1]
  unfold num
  omega
theorem num_inj {y m d y' m' d' : Int} (h : vld y m d = true) (h' : vld y' m' d' = true) (e : num y m d = num y' m' d') : y = y' ∧ m = m' ∧ d = d' := by
  have hy := num_year h
  have hy' := num_year h'
  obtain ⟨h1, h2, h3, h4, h5, h6⟩ := vld_iff.1 h
  obtain ⟨k1, k2, k3, k4, k5, k6⟩ := vld_iff.1 h'
  have ey : y = y' := by
    rcases Int.lt_trichotomy y y' with hl | hl | hl
    · have := nyr_mono (y + 1) y' (by omega) (by omega); omega
    · exact hl
    · have := nyr_mono (y' + 1) y (by omega) (by omega); omega
  subst ey
  have e' : cum y m + d = cum y m' + d' := by unfold num at e; omega
  have hs := cum_succ y m h3 h4
  have hs' := cum_succ y m' k3 k4
  have em : m = m' := by
    rcases Int.lt_trichotomy m m' with hl | hl | hl
    · have := cum_mono y (m + 1) m' (by omega) (by omega) (by omega); omega
    · exact hl
    · have := cum_mono y (m' + 1) m (by omega) (by omega) (by omega); omega
  subst em
  exact ⟨rfl, rfl, by omega⟩

/-- Each day has a date. -/
theorem num_surj (n : Nat) (h : n ≤ 3652058) : ∃ y m d, vld y m d = true ∧ num y m d = n := by
  induction n with
  | zero => exact ⟨1, 1, 1, by decide, by decide⟩
  | succ n ih =>
    obtain ⟨y, m, d, hv, hn⟩ := ih (by omega)
    obtain ⟨h1, h2, h3, h4, h5, h6⟩ := vld_iff.1 hv
    have hs := cum_succ y m h3 h4
    by_cases hd : d < dim y m
    · exact ⟨y, m, d + 1, vld_iff.2 ⟨h1, h2, h3, h4, by omega, by omega⟩, by unfold num at *; omega⟩
    have ed : d = dim y m := by omega
    by_cases hm : m < 12
    · exact ⟨y, m + 1, 1, vld_iff.2 ⟨h1, h2, by omega, by omega, by omega, by have := dim_bd y (m + 1); omega⟩, by unfold num at *; omega⟩
    have em : m = 12 := by omega
    subst em
    have h13 := cum_13 y
    have hy := nyr_succ y h1
    by_cases hy2 : y < 9999
    · refine ⟨y + 1, 1, 1, vld_iff.2 ⟨by omega, by omega, by omega, by omega, by omega, by have := dim_bd (y + 1) 1; omega⟩, ?_⟩
      unfold num at *
      rw [cum_1]
      simp at hs
      omega
    · have ey : y = 9999 := by omega
      subst ey
      exfalso
      have e10 := nyr_10000
      simp at hs hy
      unfold num at hn
      omega

open Classical in
/-- The date of a day. -/
noncomputable def dateD (n : Int) : Int × Int × Int := if h : ∃ p : Int × Int × Int, vld p.1 p.2.1 p.2.2 = true ∧ num p.1 p.2.1 p.2.2 = n then h.choose else (0, 0, 0)
noncomputable def yOf (n : Int) : Int := (dateD n).1
noncomputable def mOf (n : Int) : Int := (dateD n).2.1
noncomputable def dOf (n : Int) : Int := (dateD n).2.2
theorem dateD_of {n y m d : Int} (h : vld y m d = true) (e : num y m d = n) : yOf n = y ∧ mOf n = m ∧ dOf n = d := by
  have hex : ∃ p : Int × Int × Int, vld p.1 p.2.1 p.2.2 = true ∧ num p.1 p.2.1 p.2.2 = n := ⟨(y, m, d), h, e⟩
  unfold yOf mOf dOf dateD
  rw [dif_pos hex]
  exact num_inj hex.choose_spec.1 h (hex.choose_spec.2.trans e.symm)
theorem dateD_in {n : Int} (h0 : 0 ≤ n) (h1 : n ≤ 3652058) : vld (yOf n) (mOf n) (dOf n) = true ∧ num (yOf n) (mOf n) (dOf n) = n := by
  obtain ⟨y, m, d, hv, hn⟩ := num_surj n.toNat (by omega)
  rw [Int.toNat_of_nonneg h0] at hn
  obtain ⟨e1, e2, e3⟩ := dateD_of hv hn
  rw [e1, e2, e3]
  exact ⟨hv, hn⟩
theorem guess (n : Int) (h0 : 0 ≤ n) (h1 : n ≤ 3652058) : 1 ≤ n / 366 + 1 ∧ n / 366 + 1 ≤ 9999 ∧ nyr (n / 366 + 1) ≤ n := by
  have := nyr_bd (n / 366 + 1) (by omega)
  omega

end Go.Proofs.YtinemkjoohgmjaaDoor
