/- Contracts: years, months, dates, numbers of days (the program's and the reference's). -/
import Derived.Test.YtinemkjoohgmjaaDoorCal

namespace Go.Proofs.YtinemkjoohgmjaaDoor
open Go.RowKit

def mtab (i : Nat) : Int := [31, 28, 31, 30, 31, 30, 31, 31, 30, 31, 30, 31].getD i 0
/-- The table of months lies in memory. -/
def MD (w : World) : Prop := ∀ i : Nat, i < 12 → w.cell? ⟨0, i, none⟩ = some (.int .i64 (mtab i))
section
variable {w w' : World}
theorem MD.lt (h : MD w) : 0 < w.heap.size := World.block_lt_of_cell? w _ (h 0 (by omega))
theorem MD.keep (h : MD w) (hk : w'.heap[0]? = w.heap[0]?) : MD w' := fun i hi => (World.cell?_of_block (a := ⟨0, i, none⟩) hk).trans (h i hi)
theorem MD.below (h : MD w) (hb : Below w.heap.size w w') : MD w' := h.keep (hb.block _ h.lt)
theorem MD.below' (h : MD w) {C : Nat} (hb : Below C w w') (hC : 0 < C) : MD w' := h.keep (hb.block _ hC)
theorem MD.alloc (h : MD w) (o : Obj) : MD (w.alloc o) := h.keep (Below.heap_alloc _ _ _ h.lt)
theorem MD.setCell (h : MD w) {p : Addr} (hp : 0 < p.block) (u : Value) : MD (w.setCell p u) := h.keep (Below.heap_setCell _ _ _ _ (by omega))
theorem MD.drew (h : MD w) : MD w.drew := h
theorem MD.drewN (h : MD w) (n : Nat) : MD (w.drewN n) := h
theorem MD.only (h : MD w) {g : Nat} (hb : w.grownBy w' (some g)) (hg : 0 < g) : MD w' := h.keep (hb.block _ h.lt (fun e => by injection e with e; omega))
theorem MD.cell (h : MD w) {y m : Int} (h1 : 1 ≤ m) (h2 : m ≤ 12) (h3 : ¬ (m = 2 ∧ lp y = 1)) : w.cell? ⟨0, (m - 1).toNat, none⟩ = some (.int .i64 (dim y m)) := by
  have := lp_01 y
  rcases months h1 h2 with rfl | rfl | rfl | rfl | rfl | rfl | rfl | rfl | rfl | rfl | rfl | rfl
  all_goals
    refine (h _ (by decide)).trans ?_
    simp [mtab, dim]
  omega
end

theorem yearValid_any (y : Int) (w : World) :
    Calls Tryd.prog 93 #[.int .i64 y] w fun e w' => e = .returned (.bool (inB y 1 9999)) ∧ w = w' := by
  go_enter Tryd.func93, Tryd.ntmps93
  go_wp2_with (go_at_call 58; refine (within_any _ _ _ _).mono ?_; rintro e w' ⟨rfl, rfl⟩)
  go_ret
  exact ⟨rfl, rfl⟩
theorem leap_no {y : Int} (h : ¬ (1 ≤ y ∧ y ≤ 9999)) : leapB y = false := by
  unfold leapB; rw [inB_not.2 h]; rfl
theorem leap_in {y : Int} (h1 : 1 ≤ y) (h2 : y ≤ 9999) : leapB y = (lp y == 1) := by
  unfold leapB; rw [inB_true h1 h2]; rfl

theorem impl_leap (y : Int) (w : World) :
    Calls Tryd.prog 94 #[.int .i64 y] w fun e w' => e = .returned (.bool (leapB y)) ∧ w = w' := by
  by_cases hy : 1 ≤ y ∧ y ≤ 9999
  · obtain ⟨h1, h2⟩ := hy
    have hyv := inB_true h1 h2
    rcases (show y % 4 ≠ 0 ∨ (y % 4 = 0 ∧ y % 100 ≠ 0) ∨ (y % 4 = 0 ∧ y % 100 = 0 ∧ y % 400 = 0) ∨ (y % 4 = 0 ∧ y % 100 = 0 ∧ y % 400 ≠ 0) by omega) with h | ⟨h, h'⟩ | ⟨h, h', h''⟩ | ⟨h, h', h''⟩
    · have HL := hide (show leapB y = false by rw [leap_in h1 h2]; simp [lp, h])
      have g4 : (y % 4 == 0) = false := by simpa using h
      clear h
      go_enter Tryd.func94, Tryd.ntmps94
      go_wp2_with (go_at_call 93; refine (yearValid_any _ _).mono ?_; rintro e w' ⟨rfl, rfl⟩)
      go_ret
      exact ⟨by rw [HL.out]; rfl, rfl⟩
    · have HL := hide (show leapB y = true by rw [leap_in h1 h2]; simp [lp, h, h'])
      have g4 : (y % 4 == 0) = true := by simpa using h
      have g100 : (y % 100 != 0) = true := by simpa using h'
      clear h h'
      go_enter Tryd.func94, Tryd.ntmps94
      go_wp2_with (go_at_call 93; refine (yearValid_any _ _).mono ?_; rintro e w' ⟨rfl, rfl⟩)
      go_ret
      exact ⟨by rw [HL.out]; rfl, rfl⟩
    · have HL := hide (show leapB y = true by rw [leap_in h1 h2]; simp [lp, h, h''])
      have g4 : (y % 4 == 0) = true := by simpa using h
      have g100 : (y % 100 != 0) = false := by simpa using h'
      have g400 : (y % 400 == 0) = true := by simpa using h''
      clear h h' h''
      go_enter Tryd.func94, Tryd.ntmps94
      go_wp2_with (go_at_call 93; refine (yearValid_any _ _).mono ?_; rintro e w' ⟨rfl, rfl⟩)
      go_ret
      exact ⟨by rw [HL.out]; rfl, rfl⟩
    · have HL := hide (show leapB y = false by rw [leap_in h1 h2]; simp [lp, h', h''])
      have g4 : (y % 4 == 0) = true := by simpa using h
      have g100 : (y % 100 != 0) = false := by simpa using h'
      have g400 : (y % 400 == 0) = false := by simpa using h''
      clear h h' h''
      go_enter Tryd.func94, Tryd.ntmps94
      go_wp2_with (go_at_call 93; refine (yearValid_any _ _).mono ?_; rintro e w' ⟨rfl, rfl⟩)
      go_ret
      exact ⟨by rw [HL.out]; rfl, rfl⟩
  · have hyv := inB_not.2 hy
    go_enter Tryd.func94, Tryd.ntmps94
    go_wp2_with (go_at_call 93; refine (yearValid_any _ _).mono ?_; rintro e w' ⟨rfl, rfl⟩)
    go_ret
    exact ⟨by rw [leap_no hy]; rfl, rfl⟩
theorem spec_leap (y : Int) (w : World) :
    Calls Tryd.prog 105 #[.int .i64 y] w fun e w' => e = .returned (.bool (leapB y)) ∧ w = w' := by
  by_cases hy : 1 ≤ y ∧ y ≤ 9999
  · obtain ⟨h1, h2⟩ := hy
    have hyv := inB_true h1 h2
    rcases (show y % 4 ≠ 0 ∨ (y % 4 = 0 ∧ y % 100 ≠ 0) ∨ (y % 4 = 0 ∧ y % 100 = 0 ∧ y % 400 = 0) ∨ (y % 4 = 0 ∧ y % 100 = 0 ∧ y % 400 ≠ 0) by omega) with h | ⟨h, h'⟩ | ⟨h, h', h''⟩ | ⟨h, h', h''⟩
    · have HL := hide (show leapB y = false by rw [leap_in h1 h2]; simp [lp, h])
      have g4 : (y % 4 == 0) = false := by simpa using h
      clear h
      go_enter Tryd.func105, Tryd.ntmps105
      go_wp2_with (go_at_call 56; refine (l6In_any _ _ _ _).mono ?_; rintro e w' ⟨rfl, rfl⟩)
      go_ret
      exact ⟨by rw [HL.out]; rfl, rfl⟩
    · have HL := hide (show leapB y = true by rw [leap_in h1 h2]; simp [lp, h, h'])
      have g4 : (y % 4 == 0) = true := by simpa using h
      have g100 : (y % 100 != 0) = true := by simpa using h'
      clear h h'
      go_enter Tryd.func105, Tryd.ntmps105
      go_wp2_with (go_at_call 56; refine (l6In_any _ _ _ _).mono ?_; rintro e w' ⟨rfl, rfl⟩)
      go_ret
      exact ⟨by rw [HL.out]; rfl, rfl⟩
    · have HL := hide (show leapB y = true by rw [leap_in h1 h2]; simp [lp, h, h''])
      have g4 : (y % 4 == 0) = true := by simpa using h
      have g100 : (y % 100 != 0) = false := by simpa using h'
      have g400 : (y % 400 == 0) = true := by simpa using h''
      clear h h' h''
      go_enter Tryd.func105, Tryd.ntmps105
      go_wp2_with (go_at_call 56; refine (l6In_any _ _ _ _).mono ?_; rintro e w' ⟨rfl, rfl⟩)
      go_ret
      exact ⟨by rw [HL.out]; rfl, rfl⟩
    · have HL := hide (show leapB y = false by rw [leap_in h1 h2]; simp [lp, h', h''])
      have g4 : (y % 4 == 0) = true := by simpa using h
      have g100 : (y % 100 != 0) = false := by simpa using h'
      have g400 : (y % 400 == 0) = false := by simpa using h''
      clear h h' h''
      go_enter Tryd.func105, Tryd.ntmps105
      go_wp2_with (go_at_call 56; refine (l6In_any _ _ _ _).mono ?_; rintro e w' ⟨rfl, rfl⟩)
      go_ret
      exact ⟨by rw [HL.out]; rfl, rfl⟩
  · have hyv := inB_not.2 hy
    go_enter Tryd.func105, Tryd.ntmps105
    go_wp2_with (go_at_call 56; refine (l6In_any _ _ _ _).mono ?_; rintro e w' ⟨rfl, rfl⟩)
    go_ret
    exact ⟨by rw [leap_no hy]; rfl, rfl⟩
end Go.Proofs.YtinemkjoohgmjaaDoor
