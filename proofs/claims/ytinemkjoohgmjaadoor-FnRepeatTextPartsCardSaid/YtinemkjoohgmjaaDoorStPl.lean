/- Stamps as plain numbers: no program in sight. -/
import Derived.Test.YtinemkjoohgmjaaDoorCal
import Derived.Test.YtinemkjoohgmjaaDoorZnPl
namespace Go.Proofs.YtinemkjoohgmjaaDoor

def c24 (h mi s ms : Int) : Bool := h == 24 && (mi == 0 && (s == 0 && ms == 0))
def c23 (h mi s ms : Int) : Bool := inB h 0 23 && (inB mi 0 59 && (inB s 0 59 && inB ms 0 999))
/-- A time is valid. -/
def cvB (h mi s ms : Int) : Bool := c24 h mi s ms || c23 h mi s ms
def cms (h mi s ms : Int) : Int := ((h * 60 + mi) * 60 + s) * 1000 + ms
theorem cvB_iff {h mi s ms : Int} : cvB h mi s ms = true ↔ (h = 24 ∧ mi = 0 ∧ s = 0 ∧ ms = 0) ∨ (0 ≤ h ∧ h ≤ 23 ∧ 0 ≤ mi ∧ mi ≤ 59 ∧ 0 ≤ s ∧ s ≤ 59 ∧ 0 ≤ ms ∧ ms ≤ 999) := by
  unfold cvB c24 c23
  simp only [Bool.or_eq_true, Bool.and_eq_true, inB_iff, beq_iff_eq]
  omega
theorem cvB_bd {h mi s ms : Int} (hv : cvB h mi s ms = true) : 0 ≤ h ∧ h ≤ 24 ∧ 0 ≤ mi ∧ mi ≤ 59 ∧ 0 ≤ s ∧ s ≤ 59 ∧ 0 ≤ ms ∧ ms ≤ 999 ∧ 0 ≤ cms h mi s ms ∧ cms h mi s ms ≤ 86400000 := by
  have := cvB_iff.1 hv
  unfold cms
  omega

/-- A stamp. -/
structure S8 where
  y : Int
  mo : Int
  d : Int
  h : Int
  mi : Int
  s : Int
  ms : Int
  o : Int
def S8.v (x : S8) : Array Value := #[.int .i64 x.y, .int .i64 x.mo, .int .i64 x.d, .int .i64 x.h, .int .i64 x.mi, .int .i64 x.s, .int .i64 x.ms, .int .i64 x.o]
def S8.ok (x : S8) : Bool := vld x.y x.mo x.d && (cvB x.h x.mi x.s x.ms && offB x.o)
/-- The local time. -/
def S8.loc (x : S8) : Int := num x.y x.mo x.d * 86400000 + cms x.h x.mi x.s x.ms
def S8.ins (x : S8) : Int := x.loc - 60000 * x.o
def s0 : S8 := ⟨0, 0, 0, 0, 0, 0, 0, 0⟩
theorem S8.ok_in {x : S8} (h : x.ok = true) : vld x.y x.mo x.d = true ∧ cvB x.h x.mi x.s x.ms = true ∧ offB x.o = true := by
  unfold S8.ok at h
  simp only [Bool.and_eq_true] at h
  exact ⟨h.1, h.2.1, h.2.2⟩
theorem S8.loc_bd {x : S8} (h : x.ok = true) : 0 ≤ x.loc ∧ x.loc ≤ 315537897600000 := by
  obtain ⟨h1, h2, h3⟩ := x.ok_in h
  have := num_bd h1
  have := cvB_bd h2
  unfold S8.loc
  omega
theorem S8.ins_bd {x : S8} (h : x.ok = true) : -86340000 ≤ x.ins ∧ x.ins ≤ 315537983940000 := by
  have h1 := x.loc_bd h
  have h3 := offB_iff.1 (x.ok_in h).2.2
  unfold S8.ins
  omega

/-- The stamp of a local time. -/
noncomputable def stL (l o : Int) : S8 := ⟨yOf (l / 86400000), mOf (l / 86400000), dOf (l / 86400000), l % 86400000 / 3600000, l % 86400000 / 60000 % 60, l % 86400000 / 1000 % 60, l % 1000, o⟩
def stOk (n o : Int) : Bool := insB n && (offB o && (decide (0 ≤ n + 60000 * o) && decide ((n + 60000 * o) / 86400000 ≤ 3652058)))
/-- The stamp with an instant and an offset. -/
noncomputable def stAt (n o : Int) : S8 × Bool := if stOk n o then (stL (n + 60000 * o) o, true) else (s0, false)
theorem stAt_yes {n o : Int} (h : stOk n o = true) : stAt n o = (stL (n + 60000 * o) o, true) := by unfold stAt; rw [if_pos h]
theorem stAt_no {n o : Int} (h : stOk n o = false) : stAt n o = (s0, false) := by unfold stAt; rw [h]; rfl
theorem stOk_iff {n o : Int} : stOk n o = true ↔ (-86400000 ≤ n ∧ n ≤ 315537984000000) ∧ (-1439 ≤ o ∧ o ≤ 1439) ∧ 0 ≤ n + 60000 * o ∧ (n + 60000 * o) / 86400000 ≤ 3652058 := by
  unfold stOk
  simp only [Bool.and_eq_true, decide_eq_true_eq, offB_iff]
  unfold insB
  rw [inB_iff]
theorem stL_cms (l o : Int) (_h : 0 ≤ l) : cvB (stL l o).h (stL l o).mi (stL l o).s (stL l o).ms = true ∧ cms (stL l o).h (stL l o).mi (stL l o).s (stL l o).ms = l % 86400000 := by
  refine ⟨cvB_iff.2 (.inr ?_), ?_⟩
  · simp only [stL]; omega
  · simp only [stL, cms]; omega
theorem stL_ok {l o : Int} (h0 : 0 ≤ l) (h1 : l / 86400000 ≤ 3652058) (ho : offB o = true) : (stL l o).ok = true ∧ (stL l o).loc = l ∧ (stL l o).ins = l - 60000 * o := by
  obtain ⟨d1, d2⟩ := dateD_in (n := l / 86400000) (by omega) h1
  obtain ⟨k1, k2⟩ := stL_cms l o h0
  have el : (stL l o).loc = l := by
    unfold S8.loc
    rw [k2]
    show num (yOf (l / 86400000)) (mOf (l / 86400000)) (dOf (l / 86400000)) * 86400000 + l % 86400000 = l
    rw [d2]
    omega
  refine ⟨?_, el, ?_⟩
  · unfold S8.ok
    rw [show vld (stL l o).y (stL l o).mo (stL l o).d = true from d1, k1, show offB (stL l o).o = true from ho]
    rfl
  · unfold S8.ins
    rw [el]
    rfl
/-- A stamp is found again by its instant, but at 24 hours. -/
theorem stL_loc {x : S8} (h : x.ok = true) (h24 : x.h ≠ 24) : stL x.loc x.o = x := by
  obtain ⟨h1, h2, h3⟩ := x.ok_in h
  have hn := num_bd h1
  rcases cvB_iff.1 h2 with hc | hc
  · exact absurd hc.1 h24
  have e1 : x.loc / 86400000 = num x.y x.mo x.d := by unfold S8.loc cms; omega
  have e2 : x.loc % 86400000 = cms x.h x.mi x.s x.ms := by unfold S8.loc cms; omega
  have e3 : x.loc % 1000 = x.ms := by unfold S8.loc cms; omega
  obtain ⟨y, mo, d, hh, mi, s, ms, o⟩ := x
  obtain ⟨a1, a2, a3⟩ := dateD_of h1 rfl
  simp only at *
  unfold stL
  rw [e1, e2, e3, a1, a2, a3]
  unfold cms
  congr 1 <;> omega

/-! Rounding. -/
def unB (u : Int) : Bool := u == 1000 || (u == 60000 || (u == 3600000 || u == 86400000))
theorem unB_iff {u : Int} : unB u = true ↔ u = 1000 ∨ u = 60000 ∨ u = 3600000 ∨ u = 86400000 := by
  unfold unB
  simp only [Bool.or_eq_true, beq_iff_eq]
noncomputable def rnd (way : Int → Int → Int) (x : S8) (u : Int) : S8 × Bool := if x.ok && unB u then stAt (way u x.loc - 60000 * x.o) x.o else (s0, false)
def dnW (u l : Int) : Int := l - l % u
def upW (u l : Int) : Int := dnW u (l + u - 1)
def nrW (u l : Int) : Int := dnW u (l + u / 2)
end Go.Proofs.YtinemkjoohgmjaaDoor
