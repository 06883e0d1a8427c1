/- Rounding as plain numbers: no program in sight. -/
import Derived.Test.YtinemkjoohgmjaaDoorStPl
namespace Go.Proofs.YtinemkjoohgmjaaDoor

theorem S8.loc_mod (x : S8) {u : Int} (hu : unB u = true) : x.loc % u = cms x.h x.mi x.s x.ms % u := by
  unfold S8.loc
  rcases unB_iff.1 hu with rfl | rfl | rfl | rfl <;> omega
theorem dn_is (x : S8) {u : Int} (hu : unB u = true) : dnW u x.loc - 60000 * x.o = x.ins - cms x.h x.mi x.s x.ms % u := by
  unfold dnW S8.ins
  rw [x.loc_mod hu]
  omega
theorem up_is (x : S8) {u : Int} (hu : unB u = true) : upW u x.loc - 60000 * x.o = x.ins + (u - cms x.h x.mi x.s x.ms % u) % u := by
  rw [← x.loc_mod hu]
  unfold upW dnW S8.ins
  rcases unB_iff.1 hu with rfl | rfl | rfl | rfl <;> omega
theorem up_neg (x : S8) {u : Int} (hu : unB u = true) : upW u x.loc - 60000 * x.o = x.ins + -(cms x.h x.mi x.s x.ms % u) % u := by
  rw [up_is x hu]
  rcases unB_iff.1 hu with rfl | rfl | rfl | rfl <;> omega
theorem nr_dn (x : S8) {u : Int} (hu : unB u = true) (h : 2 * (cms x.h x.mi x.s x.ms % u) < u) : nrW u x.loc = dnW u x.loc := by
  rw [← x.loc_mod hu] at h
  unfold nrW dnW
  rcases unB_iff.1 hu with rfl | rfl | rfl | rfl <;> omega
theorem nr_up (x : S8) {u : Int} (hu : unB u = true) (h : ¬ 2 * (cms x.h x.mi x.s x.ms % u) < u) : nrW u x.loc = upW u x.loc := by
  rw [← x.loc_mod hu] at h
  unfold nrW upW dnW
  rcases unB_iff.1 hu with rfl | rfl | rfl | rfl <;> omega
theorem rnd_no {way : Int → Int → Int} {x : S8} {u : Int} (h : (x.ok && unB u) = false) : rnd way x u = (s0, false) := by unfold rnd; rw [h]; rfl
theorem rnd_yes {way : Int → Int → Int} {x : S8} {u : Int} (h : x.ok = true) (hu : unB u = true) : rnd way x u = stAt (way u x.loc - 60000 * x.o) x.o := by unfold rnd; rw [h, hu]; rfl
theorem dnW_bd {u l : Int} (hu : unB u = true) (h : 0 ≤ l) : 0 ≤ dnW u l ∧ dnW u l ≤ l ∧ l - u < dnW u l ∧ dnW u l % u = 0 ∧ dnW u (dnW u l) = dnW u l ∧ dnW u l % 86400000 % u = 0 := by
  unfold dnW
  rcases unB_iff.1 hu with rfl | rfl | rfl | rfl <;> omega
/-- A greater unit rounds again. -/
theorem dnW_two {u l : Int} (hu : unB u = true) (_h : 0 ≤ l) : dnW 86400000 (dnW u l) = dnW 86400000 l := by
  unfold dnW
  rcases unB_iff.1 hu with rfl | rfl | rfl | rfl <;> omega
/-- What rounding down finds. -/
theorem rnd_dn {x y : S8} {u : Int} (h : rnd dnW x u = (y, true)) : x.ok = true ∧ unB u = true ∧ y = stL (dnW u x.loc) x.o ∧ y.ok = true ∧ y.loc = dnW u x.loc ∧ y.o = x.o ∧ cms y.h y.mi y.s y.ms % u = 0 := by
  by_cases hv : (x.ok && unB u) = true
  · have hv' := hv
    simp only [Bool.and_eq_true] at hv'
    obtain ⟨hx, hu⟩ := hv'
    rw [rnd_yes hx hu] at h
    have hl := x.loc_bd hx
    obtain ⟨d0, d1, d2, d3, d4, d5⟩ := dnW_bd hu hl.1
    by_cases hs : stOk (dnW u x.loc - 60000 * x.o) x.o = true
    · rw [stAt_yes hs] at h
      obtain ⟨s1, s2, s3, s4⟩ := stOk_iff.1 hs
      have e : dnW u x.loc - 60000 * x.o + 60000 * x.o = dnW u x.loc := by omega
      rw [e] at h s4
      have ey : y = stL (dnW u x.loc) x.o := ((Prod.mk.inj h).1).symm
      obtain ⟨k1, k2, k3⟩ := stL_ok (o := x.o) d0 s4 (x.ok_in hx).2.2
      obtain ⟨c1, c2⟩ := stL_cms (dnW u x.loc) x.o d0
      rw [ey]
      refine ⟨hx, hu, rfl, k1, k2, rfl, ?_⟩
      rw [c2]
      exact d5
    · rw [stAt_no (by simpa using hs)] at h
      exact absurd (Prod.mk.inj h).2 (by simp)
  · rw [rnd_no (by simpa using hv)] at h
    exact absurd (Prod.mk.inj h).2 (by simp)
theorem stAt_dn {u l o : Int} (hu : unB u = true) (h0 : 0 ≤ l) (h1 : l ≤ 315537897600000) (ho : offB o = true) (hd : l / 86400000 ≤ 3652058) : stAt (dnW u l - 60000 * o) o = (stL (dnW u l) o, true) := by
  obtain ⟨d0, d1, _⟩ := dnW_bd hu h0
  have hob := offB_iff.1 ho
  rw [stAt_yes (stOk_iff.2 ⟨by omega, hob, by omega, ?_⟩)]
  · rw [show dnW u l - 60000 * o + 60000 * o = dnW u l by omega]
  · rw [show dnW u l - 60000 * o + 60000 * o = dnW u l by omega]
    have := Int.ediv_le_ediv (c := 86400000) (by omega) d1
    omega
/-- Rounding down again finds the same. -/
theorem rnd_again {x y : S8} {u : Int} (h : rnd dnW x u = (y, true)) : rnd dnW y u = (y, true) := by
  obtain ⟨hx, hu, ey, hy, hl, ho, _⟩ := rnd_dn h
  have hb := y.loc_bd hy
  have hlx := x.loc_bd hx
  have hh := dnW_bd hu hlx.1
  have hd : y.loc / 86400000 ≤ 3652058 := by
    have h2 := num_bd (y.ok_in hy).1
    have hc := stL_cms (dnW u x.loc) x.o hh.1
    rw [← ey] at hc
    unfold S8.loc
    rw [hc.2]
    omega
  rw [rnd_yes hy hu, stAt_dn hu hb.1 hb.2 (y.ok_in hy).2.2 hd, hl, hh.2.2.2.2.1, ho, ← ey]
/-- The day is found from what a lesser unit has left. -/
theorem rnd_two {x y : S8} {u : Int} (h : rnd dnW x u = (y, true)) : ∃ z, rnd dnW y 86400000 = (z, true) ∧ rnd dnW x 86400000 = (z, true) := by
  obtain ⟨hx, hu, ey, hy, hl, ho, _⟩ := rnd_dn h
  have hb := y.loc_bd hy
  have hlx := x.loc_bd hx
  have hh := dnW_bd hu hlx.1
  have hD : unB 86400000 = true := rfl
  have hd : y.loc / 86400000 ≤ 3652058 := by
    have h2 := num_bd (y.ok_in hy).1
    have hc := stL_cms (dnW u x.loc) x.o hh.1
    rw [← ey] at hc
    unfold S8.loc
    rw [hc.2]
    omega
  have hd' : x.loc / 86400000 ≤ 3652058 := by
    rw [hl] at hd
    have : dnW u x.loc / 86400000 = x.loc / 86400000 := by
      unfold dnW
      rcases unB_iff.1 hu with rfl | rfl | rfl | rfl <;> omega
    omega
  refine ⟨stL (dnW 86400000 x.loc) x.o, ?_, ?_⟩
  · rw [rnd_yes hy hD, stAt_dn hD hb.1 hb.2 (y.ok_in hy).2.2 hd, hl, dnW_two hu hlx.1, ho]
  · rw [rnd_yes hx hD, stAt_dn hD hlx.1 hlx.2 (x.ok_in hx).2.2 hd']
end Go.Proofs.YtinemkjoohgmjaaDoor
