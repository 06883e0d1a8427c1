/- Stamps a period later, as plain numbers: no program in sight. -/
import Derived.Test.YtaagomchjklgaaaDoorStPl
namespace Go.Proofs.YtaagomchjklgaaaDoor

/-- The months since the first one. -/
def mT (y mo k : Int) : Int := 12 * (y - 1) + mo - 1 + k
def mY (t : Int) : Int := t / 12 + 1
def mM (t : Int) : Int := t % 12 + 1
def mD (t d : Int) : Int := if dim (mY t) (mM t) < d then dim (mY t) (mM t) else d
def mS (t : Int) : Int := num (mY t) (mM t) 1
def mN (t d : Int) : Int := num (mY t) (mM t) (mD t d)
theorem mN_eq (t d : Int) : mN t d = mS t + mD t d - 1 := by unfold mN mS num; omega
theorem mD_bd {t d : Int} (h : 1 ≤ d) : 1 ≤ mD t d ∧ mD t d ≤ dim (mY t) (mM t) ∧ mD t d ≤ d := by
  have := dim_bd (mY t) (mM t)
  unfold mD
  split <;> omega
theorem mS_succ {t : Int} (h : 0 ≤ t) : mS (t + 1) = mS t + dim (mY t) (mM t) := by
  rcases (show t % 12 < 11 ∨ t % 12 = 11 by omega) with h1 | h1
  · have e1 : mY (t + 1) = mY t := by unfold mY; omega
    have e2 : mM (t + 1) = mM t + 1 := by unfold mM; omega
    have hs := cum_succ (mY t) (mM t) (by unfold mM; omega) (by unfold mM; omega)
    unfold mS num
    rw [e1, e2, hs]
    omega
  · have e1 : mY (t + 1) = mY t + 1 := by unfold mY; omega
    have e2 : mM (t + 1) = 1 := by unfold mM; omega
    have e3 : mM t = 12 := by unfold mM; omega
    have hs := cum_succ (mY t) 12 (by omega) (by omega)
    have h13 := cum_13 (mY t)
    have hy := nyr_succ (mY t) (by unfold mY; omega)
    unfold mS num
    rw [e1, e2, e3, cum_1]
    simp at hs
    omega
theorem mS_mono {t u : Int} (h : 0 ≤ t) (hu : t ≤ u) : mS t ≤ mS u := by
  obtain ⟨k, rfl⟩ : ∃ k : Nat, u = t + k := ⟨(u - t).toNat, by omega⟩
  induction k with
  | zero => simp
  | succ k ih =>
    have h1 := ih (by omega)
    have h2 := mS_succ (t := t + k) (by omega)
    have h3 := dim_bd (mY (t + k)) (mM (t + k))
    rw [show t + ((k + 1 : Nat) : Int) = t + k + 1 by omega, h2]
    omega
theorem mN_mono {t u d : Int} (h : 0 ≤ t) (hu : t ≤ u) (hd : 1 ≤ d) : mN t d ≤ mN u d := by
  rcases (show t = u ∨ t + 1 ≤ u by omega) with rfl | h1
  · exact Int.le_refl _
  · have a1 := mS_mono (t := t + 1) (by omega) h1
    have a2 := mS_succ h
    have a3 := mD_bd (t := t) hd
    have a4 := mD_bd (t := u) hd
    rw [mN_eq, mN_eq]
    omega
theorem mV {t d : Int} (h : 0 ≤ t) (h1 : t ≤ 119987) (hd : 1 ≤ d) : vld (mY t) (mM t) (mD t d) = true := by
  have a3 := mD_bd (t := t) hd
  exact vld_iff.2 ⟨by unfold mY; omega, by unfold mY; omega, by unfold mM; omega, by unfold mM; omega, a3.1, a3.2.1⟩
theorem mN_0 {y mo d : Int} (h : vld y mo d = true) : mN (mT y mo 0) d = num y mo d := by
  obtain ⟨h1, h2, h3, h4, h5, h6⟩ := vld_iff.1 h
  have e1 : mY (mT y mo 0) = y := by unfold mY mT; omega
  have e2 : mM (mT y mo 0) = mo := by unfold mM mT; omega
  unfold mN mD
  rw [e1, e2, if_neg (by omega)]
/-- A date so many months and days later is one. -/
def dpB (y mo d k dd : Int) : Bool := decide (mT y mo k ≤ 119987) && decide (mN (mT y mo k) d + dd ≤ 3652058)
def dpN (y mo d k dd : Int) : Int := mN (mT y mo k) d + dd
theorem dpB_iff {y mo d k dd : Int} : dpB y mo d k dd = true ↔ mT y mo k ≤ 119987 ∧ dpN y mo d k dd ≤ 3652058 := by
  unfold dpB dpN
  simp
theorem dpN_bd {y mo d k dd : Int} (h : vld y mo d = true) (hk : 0 ≤ k) (hd : 0 ≤ dd) : num y mo d ≤ dpN y mo d k dd := by
  obtain ⟨h1, h2, h3, h4, h5, h6⟩ := vld_iff.1 h
  have := mN_mono (t := mT y mo 0) (u := mT y mo k) (d := d) (by unfold mT; omega) (by unfold mT; omega) h5
  rw [mN_0 h] at this
  unfold dpN
  omega
/-- The instant so much later. -/
def spI (x : S8) (k dd sec : Int) : Int := dpN x.y x.mo x.d k dd * 86400000 + cms x.h x.mi x.s x.ms - 60000 * x.o + 1000 * sec
/-- The stamp so much later. -/
noncomputable def spN (x : S8) (k dd sec : Int) : S8 × Bool := if dpB x.y x.mo x.d k dd then stAt (spI x k dd sec) x.o else (s0, false)
theorem spN_ok {x : S8} {k dd sec : Int} (hx : x.ok = true) (hk : 0 ≤ k) (hd : 0 ≤ dd) (hs : 0 ≤ sec) :
    (spN x k dd sec).2 = true ↔ mT x.y x.mo k ≤ 119987 ∧ dpN x.y x.mo x.d k dd ≤ 3652058 ∧ spI x k dd sec ≤ 315537984000000 ∧ (spI x k dd sec + 60000 * x.o) / 86400000 ≤ 3652058 := by
  obtain ⟨h1, h2, h3⟩ := x.ok_in hx
  have hn := num_bd h1
  have hp := dpN_bd (k := k) (dd := dd) h1 hk hd
  have hb := cvB_bd h2
  have ho := offB_iff.1 h3
  unfold spN
  cases e : dpB x.y x.mo x.d k dd with
  | false =>
    constructor
    · intro h
      simp at h
    · intro h
      rw [dpB_iff.2 ⟨h.1, h.2.1⟩] at e
      simp at e
  | true =>
    have e' := dpB_iff.1 e
    rw [if_pos rfl]
    constructor
    · intro h
      cases e2 : stOk (spI x k dd sec) x.o with
      | false => rw [stAt_no e2] at h; simp at h
      | true =>
        have := stOk_iff.1 e2
        exact ⟨e'.1, e'.2, this.1.2, this.2.2.2⟩
    · intro h
      rw [stAt_yes (stOk_iff.2 ⟨⟨?_, h.2.2.1⟩, ho, ?_, h.2.2.2⟩)]
      · unfold spI
        omega
      · unfold spI
        omega
theorem spN_yes {x : S8} {k dd sec : Int} (hx : x.ok = true) (hk : 0 ≤ k) (hd : 0 ≤ dd) (hs : 0 ≤ sec) (h : (spN x k dd sec).2 = true) :
    spN x k dd sec = (stL (spI x k dd sec + 60000 * x.o) x.o, true) ∧ (stL (spI x k dd sec + 60000 * x.o) x.o).ok = true ∧ (stL (spI x k dd sec + 60000 * x.o) x.o).ins = spI x k dd sec := by
  obtain ⟨a1, a2, a3, a4⟩ := (spN_ok hx hk hd hs).1 h
  obtain ⟨h1, h2, h3⟩ := x.ok_in hx
  have hn := num_bd h1
  have hp := dpN_bd (k := k) (dd := dd) h1 hk hd
  have hb := cvB_bd h2
  have ho := offB_iff.1 h3
  have l0 : -86400000 ≤ spI x k dd sec := by unfold spI; omega
  have l1 : 0 ≤ spI x k dd sec + 60000 * x.o := by unfold spI; omega
  obtain ⟨k1, k2, k3⟩ := stL_ok l1 a4 h3
  refine ⟨?_, k1, by rw [k3]; omega⟩
  unfold spN
  rw [dpB_iff.2 ⟨a1, a2⟩, if_pos rfl, stAt_yes (stOk_iff.2 ⟨⟨l0, a3⟩, ho, l1, a4⟩)]
theorem spN_down {x : S8} {k dd sec k' dd' sec' : Int} (hx : x.ok = true) (hk : 0 ≤ k') (hd : 0 ≤ dd') (hs : 0 ≤ sec') (hk2 : k' ≤ k) (hd2 : dd' ≤ dd) (hs2 : sec' ≤ sec) (h : (spN x k dd sec).2 = true) :
    (spN x k' dd' sec').2 = true ∧ spI x k' dd' sec' ≤ spI x k dd sec := by
  obtain ⟨a1, a2, a3, a4⟩ := (spN_ok hx (by omega) (by omega) (by omega)).1 h
  obtain ⟨h1, h2, h3⟩ := x.ok_in hx
  obtain ⟨b1, b2, b3, b4, b5, b6⟩ := vld_iff.1 h1
  have hm := mN_mono (t := mT x.y x.mo k') (u := mT x.y x.mo k) (d := x.d) (by unfold mT; omega) (by unfold mT; omega) b5
  have hn : dpN x.y x.mo x.d k' dd' ≤ dpN x.y x.mo x.d k dd := by unfold dpN; omega
  have hi : spI x k' dd' sec' ≤ spI x k dd sec := by unfold spI; omega
  refine ⟨(spN_ok hx hk hd hs).2 ⟨by unfold mT at *; omega, by omega, by omega, by omega⟩, hi⟩
theorem spI_0 {x : S8} (hx : x.ok = true) : spI x 0 0 0 = x.ins := by
  obtain ⟨h1, h2, h3⟩ := x.ok_in hx
  unfold spI dpN S8.ins S8.loc
  rw [mN_0 h1]
  omega
/-- No time later is the stamp itself, but at 24 hours. -/
theorem spN_0 {x : S8} (hx : x.ok = true) (h : (spN x 0 0 0).2 = true) (h24 : x.h ≠ 24) : spN x 0 0 0 = (x, true) := by
  obtain ⟨e, _, _⟩ := spN_yes hx (Int.le_refl _) (Int.le_refl _) (Int.le_refl _) h
  rw [e, spI_0 hx, show x.ins + 60000 * x.o = x.loc by unfold S8.ins; omega, stL_loc hx h24]

end Go.Proofs.YtaagomchjklgaaaDoor
