/- Repeats: the laws of their times, plain. -/
import Derived.Test.YtaagomchjklgaaaDoorRa2
namespace Go.Proofs.YtaagomchjklgaaaDoor

/-- The n-th time, by a period's three parts. -/
theorem stP_in {x : S8} {p1 p2 p3 p4 p5 p6 : Int} (hx : x.ok = true) (hp : pvB p1 p2 p3 p4 p5 p6 = true) : stP x p1 p2 p3 p4 p5 p6 = spN x (12 * p1 + p2) p3 ((p4 * 60 + p5) * 60 + p6) := by
  unfold stP
  rw [hx, hp]
  rfl
theorem raP_in {x out : S8} {p1 p2 p3 p4 p5 p6 t k : Int} (h : raP x p1 p2 p3 p4 p5 p6 t k = (out, true)) : rpB x p1 p2 p3 p4 p5 p6 t = true ∧ 0 ≤ k ∧ k ≤ t := by
  unfold raP at h
  cases e1 : rpB x p1 p2 p3 p4 p5 p6 t with
  | false => rw [e1] at h; simp at h
  | true =>
    cases e2 : inB k 0 t with
    | false => rw [e1, e2] at h; simp at h
    | true => exact ⟨rfl, inB_iff.1 e2⟩
theorem raP_eq {x : S8} {p1 p2 p3 p4 p5 p6 t k : Int} (h : rpB x p1 p2 p3 p4 p5 p6 t = true) (hk : 0 ≤ k ∧ k ≤ t) : raP x p1 p2 p3 p4 p5 p6 t k = spN x (12 * (k * p1) + k * p2) (k * p3) ((k * p4 * 60 + k * p5) * 60 + k * p6) := by
  obtain ⟨a1, _⟩ := rpB_iff.1 h
  unfold raP
  rw [h, inB_true hk.1 hk.2]
  exact stP_in a1 (rp_in h hk).2
theorem raP_ok {x out : S8} {p1 p2 p3 p4 p5 p6 t k : Int} (h : raP x p1 p2 p3 p4 p5 p6 t k = (out, true)) : out.ok = true ∧ out.o = x.o := by
  obtain ⟨hv, hk⟩ := raP_in h
  obtain ⟨a1, a2, a3, ⟨a4, a5, a6, a7, a8, a9⟩, a10⟩ := rpB_iff.1 hv
  rw [raP_eq hv hk] at h
  have n1 := Int.mul_nonneg hk.1 a4.1
  have n2 := Int.mul_nonneg hk.1 a5.1
  have n3 := Int.mul_nonneg hk.1 a6.1
  have n4 := Int.mul_nonneg hk.1 a7.1
  have n5 := Int.mul_nonneg hk.1 a8.1
  have n6 := Int.mul_nonneg hk.1 a9.1
  obtain ⟨y1, y2, y3⟩ := spN_yes a1 (show 0 ≤ 12 * (k * p1) + k * p2 by omega) n3 (show 0 ≤ (k * p4 * 60 + k * p5) * 60 + k * p6 by omega) (by rw [h])
  rw [y1] at h
  injection h with h1 _
  rw [← h1]
  exact ⟨y2, rfl⟩
/-- An earlier time is there, and no later. -/
theorem raP_down {x out : S8} {p1 p2 p3 p4 p5 p6 t k m : Int} (h : raP x p1 p2 p3 p4 p5 p6 t k = (out, true)) (hm : 0 ≤ m ∧ m ≤ k) : ∃ z, raP x p1 p2 p3 p4 p5 p6 t m = (z, true) ∧ z.ok = true ∧ z.ins ≤ out.ins := by
  obtain ⟨hv, hk⟩ := raP_in h
  obtain ⟨a1, a2, a3, ⟨a4, a5, a6, a7, a8, a9⟩, a10⟩ := rpB_iff.1 hv
  have hm2 : 0 ≤ m ∧ m ≤ t := by omega
  rw [raP_eq hv hk] at h
  rw [raP_eq hv hm2]
  have n1 := Int.mul_nonneg hm.1 a4.1
  have n2 := Int.mul_nonneg hm.1 a5.1
  have n3 := Int.mul_nonneg hm.1 a6.1
  have n4 := Int.mul_nonneg hm.1 a7.1
  have n5 := Int.mul_nonneg hm.1 a8.1
  have n6 := Int.mul_nonneg hm.1 a9.1
  have q1 := Int.mul_le_mul_of_nonneg_right hm.2 a4.1
  have q2 := Int.mul_le_mul_of_nonneg_right hm.2 a5.1
  have q3 := Int.mul_le_mul_of_nonneg_right hm.2 a6.1
  have q4 := Int.mul_le_mul_of_nonneg_right hm.2 a7.1
  have q5 := Int.mul_le_mul_of_nonneg_right hm.2 a8.1
  have q6 := Int.mul_le_mul_of_nonneg_right hm.2 a9.1
  obtain ⟨d1, d2⟩ := spN_down (x := x) (k := 12 * (k * p1) + k * p2) (dd := k * p3) (sec := (k * p4 * 60 + k * p5) * 60 + k * p6) (k' := 12 * (m * p1) + m * p2) (dd' := m * p3) (sec' := (m * p4 * 60 + m * p5) * 60 + m * p6) a1 (by omega) n3 (by omega) (by omega) q3 (by omega) (by rw [h])
  obtain ⟨y1, y2, y3⟩ := spN_yes (x := x) a1 (show 0 ≤ 12 * (m * p1) + m * p2 by omega) n3 (show 0 ≤ (m * p4 * 60 + m * p5) * 60 + m * p6 by omega) d1
  obtain ⟨z1, z2, z3⟩ := spN_yes (x := x) a1 (show 0 ≤ 12 * (k * p1) + k * p2 by omega) (show 0 ≤ k * p3 by omega) (show 0 ≤ (k * p4 * 60 + k * p5) * 60 + k * p6 by omega) (by rw [h])
  rw [z1] at h
  injection h with h1 _
  rw [← h1]
  exact ⟨_, y1, y2, by rw [y3, z3]; exact d2⟩
/-- The first time is the start, but at 24 hours. -/
theorem raP_first {x out : S8} {p1 p2 p3 p4 p5 p6 t k : Int} (h : raP x p1 p2 p3 p4 p5 p6 t k = (out, true)) : ∃ z, raP x p1 p2 p3 p4 p5 p6 t 0 = (z, true) ∧ (x.h ≠ 24 → z = x) := by
  obtain ⟨hv, hk⟩ := raP_in h
  obtain ⟨a1, _⟩ := rpB_iff.1 hv
  obtain ⟨z, hz, _, _⟩ := raP_down h (m := 0) ⟨Int.le_refl _, hk.1⟩
  refine ⟨z, hz, fun h24 => ?_⟩
  rw [raP_eq hv (by omega)] at hz
  simp only [Int.zero_mul, Int.mul_zero, Int.add_zero] at hz
  rw [spN_0 a1 (by rw [hz]) h24] at hz
  injection hz with hz _
  exact hz.symm
/-- Each time is a number of periods later. -/
theorem raP_plus {x out : S8} {p1 p2 p3 p4 p5 p6 t k : Int} (h : raP x p1 p2 p3 p4 p5 p6 t k = (out, true)) : stP x (k * p1) (k * p2) (k * p3) (k * p4) (k * p5) (k * p6) = (out, true) ∧ pvB (k * p1) (k * p2) (k * p3) (k * p4) (k * p5) (k * p6) = true := by
  obtain ⟨hv, hk⟩ := raP_in h
  unfold raP at h
  rw [hv, inB_true hk.1 hk.2] at h
  exact ⟨h, (rp_in hv hk).2⟩
end Go.Proofs.YtaagomchjklgaaaDoor
