/- Plain laws on Easter and on the n-th day of the week of a month. -/
import Derived.Test.YtdflacnegkgljaaDoorCal
import Derived.Test.YtdflacnegkgljaaDoorEa
namespace Go.Proofs.YtdflacnegkgljaaDoor

theorem ea_range (y : Int) : 114 ≤ eaN y ∧ eaN y ≤ 148 := by
  have hd1 : 0 ≤ eaD y ∧ eaD y ≤ 29 := by unfold eaD; omega
  have he1 : 0 ≤ eaE y ∧ eaE y ≤ 6 := by unfold eaE; omega
  unfold eaN
  generalize eaD y = d at *
  generalize eaE y = e at *
  omega
theorem ea_dates (y : Int) :
    (eaN y / 31 = 3 ∧ 22 ≤ eaN y % 31 + 1 ∧ eaN y % 31 + 1 ≤ 31) ∨ (eaN y / 31 = 4 ∧ 1 ≤ eaN y % 31 + 1 ∧ eaN y % 31 + 1 ≤ 25) := by
  have := ea_range y
  generalize eaN y = n at *
  omega
theorem ea_vld (y : Int) (h1 : 1583 ≤ y) (h2 : y ≤ 9999) : vld y (eaN y / 31) (eaN y % 31 + 1) = true := by
  rw [vld_iff]
  rcases ea_dates y with ⟨e, h3, h4⟩ | ⟨e, h3, h4⟩ <;> rw [e] <;> simp [dim] <;> omega
theorem ea_num (y : Int) : num y (eaN y / 31) (eaN y % 31 + 1) = nyr y + lp y + eaN y - 34 := by
  unfold num
  rcases ea_dates y with ⟨e, h3, h4⟩ | ⟨e, h3, h4⟩ <;> rw [e] <;> simp [cum] <;> omega
theorem ea_sunday (y : Int) (h1 : 1583 ≤ y) : num y (eaN y / 31) (eaN y % 31 + 1) % 7 = 6 := by
  rw [ea_num y]
  obtain ⟨k, hk⟩ : ∃ k, eaN y = eaD y + eaE y + 114 - 7 * k := ⟨(y % 19 + 11 * eaD y + 22 * eaE y) / 451, by unfold eaN; omega⟩
  obtain ⟨j, hj⟩ : ∃ j, eaE y = 32 + 2 * (y / 100 % 4) + 2 * (y % 100 / 4) - eaD y - y % 4 - 7 * j := ⟨(32 + 2 * (y / 100 % 4) + 2 * (y % 100 / 4) - eaD y - y % 4) / 7, by unfold eaE; omega⟩
  have hn := nyr_succ y (by omega)
  have hn' : nyr (y + 1) = 365 * y + y / 4 - y / 100 + y / 400 := by unfold nyr; rw [show y + 1 - 1 = y by omega]
  rw [hk, hj]
  generalize eaD y = d
  obtain ⟨q, r, s, t, e, hr, hr', ht, ht', hs, hs'⟩ : ∃ q r s t : Int, y = 100 * (4 * q + r) + 4 * s + t ∧ 0 ≤ r ∧ r ≤ 3 ∧ 0 ≤ t ∧ t ≤ 3 ∧ 0 ≤ s ∧ s ≤ 24 := ⟨y / 400, y / 100 % 4, y % 100 / 4, y % 4, by omega, by omega, by omega, by omega, by omega, by omega, by omega⟩
  have e1 : y / 100 = 4 * q + r := by omega
  have e2 : y / 400 = q := by omega
  have e3 : y / 4 = 25 * (4 * q + r) + s := by omega
  have e4 : y % 4 = t := by omega
  have e5 : y % 100 / 4 = s := by omega
  have e6 : (4 * q + r) % 4 = r := by omega
  rw [e1, e4, e5, e6]
  rw [e1, e2, e3] at hn'
  omega

/-- The first day of a month with a day of the week, as a day of the month. -/
def firstOf (y m wd : Int) : Int := 1 + (wd - (num y m 1 % 7 + 1)) % 7
/-- Are the arguments those of some n-th day? -/
def nthOk (y m wd n : Int) : Bool := !(mds y m == 0) && inB wd 1 7 && (n == -1 || inB n 1 5)
def nthDay (y m wd n : Int) : Int := if n = -1 then firstOf y m wd + (mds y m - firstOf y m wd) / 7 * 7 else firstOf y m wd + 7 * (n - 1)
def nthHas (y m wd n : Int) : Bool := nthOk y m wd n && decide (nthDay y m wd n ≤ mds y m)
end Go.Proofs.YtdflacnegkgljaaDoor
