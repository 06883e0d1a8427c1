/- A sorted list without what stands twice; the program's instants are the reference's. -/
import Derived.Test.YtjdlffkbhaieaaaDoorZnPl
import Derived.Lib.SlicesCompact
namespace Go.Proofs.YtjdlffkbhaieaaaDoor

theorem compact_upTo (zs : List Int) (hs : zs.Pairwise (· ≤ ·)) : ∀ m, m ≤ zs.length → (Lib.compactUpTo zs.toArray m).Pairwise (· < ·) ∧ ∀ x, x ∈ Lib.compactUpTo zs.toArray m ↔ ∃ j, j < m ∧ zs.getD j 0 = x := by
  have hle : ∀ i j, i < j → j < zs.length → zs.getD i 0 ≤ zs.getD j 0 := by
    intro i j hij hj
    have := List.pairwise_iff_getElem.1 hs i j (by omega) hj hij
    simpa [List.getD, hj, show i < zs.length by omega] using this
  have hd : ∀ j, j < zs.length → zs.toArray[j]! = zs.getD j 0 := by
    intro j hj
    rw [getElem!_pos zs.toArray j (by simpa using hj)]
    simp [List.getD, hj]
  intro m
  induction m with
  | zero =>
    intro _
    refine ⟨by simp [Lib.compactUpTo], fun x => ?_⟩
    simp [Lib.compactUpTo]
  | succ m ih =>
    intro hm
    obtain ⟨h1, h2⟩ := ih (by omega)
    rw [Lib.compactUpTo_succ]
    have hdm := hd m (by omega)
    by_cases h0 : m = 0
    · subst h0
      rw [Lib.keeps_lt_one _ 0 (by omega), if_pos rfl, hdm]
      have e : Lib.compactUpTo zs.toArray 0 = [] := by simp [Lib.compactUpTo]
      rw [e]
      refine ⟨by simp, fun x => ?_⟩
      simp only [List.nil_append, List.mem_singleton]
      constructor
      · rintro rfl; exact ⟨0, by omega, rfl⟩
      · rintro ⟨j, hj, rfl⟩; rw [show j = 0 by omega]
    · have hdp := hd (m - 1) (by omega)
      by_cases he : zs.getD m 0 = zs.getD (m - 1) 0
      · rw [Lib.keeps_neg (by omega) (by rw [hdm, hdp, he])]
        simp only [Bool.false_eq_true, if_false, List.append_nil]
        refine ⟨h1, fun x => ?_⟩
        rw [h2]
        constructor
        · rintro ⟨j, hj, e⟩; exact ⟨j, by omega, e⟩
        · rintro ⟨j, hj, e⟩
          by_cases hjm : j = m
          · subst hjm; exact ⟨j - 1, by omega, by rw [← he, e]⟩
          · exact ⟨j, by omega, e⟩
      · rw [Lib.keeps_pos (by rw [hdm, hdp]; exact he), if_pos rfl, hdm]
        have hlt : zs.getD (m - 1) 0 < zs.getD m 0 := by
          have := hle (m - 1) m (by omega) (by omega)
          omega
        refine ⟨?_, fun x => ?_⟩
        · rw [List.pairwise_append]
          refine ⟨h1, by simp, fun a ha b hb => ?_⟩
          simp only [List.mem_singleton] at hb
          subst hb
          obtain ⟨j, hj, rfl⟩ := (h2 a).1 ha
          by_cases hjm : j = m - 1
          · subst hjm; exact hlt
          · have := hle j (m - 1) (by omega) (by omega)
            omega
        · rw [List.mem_append, h2, List.mem_singleton]
          constructor
          · rintro (⟨j, hj, e⟩ | rfl)
            · exact ⟨j, by omega, e⟩
            · exact ⟨m, by omega, rfl⟩
          · rintro ⟨j, hj, e⟩
            by_cases hjm : j = m
            · subst hjm; exact .inr e.symm
            · exact .inl ⟨j, by omega, e⟩
theorem compact_law (zs : List Int) (hs : zs.Pairwise (· ≤ ·)) : (Lib.compact zs).Pairwise (· < ·) ∧ ∀ x, x ∈ Lib.compact zs ↔ x ∈ zs := by
  obtain ⟨h1, h2⟩ := compact_upTo zs hs zs.length (Nat.le_refl _)
  refine ⟨h1, fun x => ?_⟩
  unfold Lib.compact
  rw [h2]
  constructor
  · rintro ⟨j, hj, rfl⟩
    simp [List.getD, hj]
  · intro hx
    obtain ⟨j, hj, rfl⟩ := List.getElem_of_mem hx
    exact ⟨j, hj, by simp [List.getD, hj]⟩
theorem sorted_of (zs : List Int) : (zs.mergeSort fun x y => decide (x ≤ y)).Pairwise (· ≤ ·) := by
  have := List.pairwise_mergeSort (le := fun x y : Int => decide (x ≤ y)) (by intro a b c; simp; omega) (by intro a b; simp; omega) zs
  exact this.imp (by intro a b h; simpa using h)
/-- The program's instants, sorted and without what stands twice, are the reference's. -/
theorem ins_same {o : Int} {l : List R2} (h : ZV o l) (loc : Int) : Lib.compact ((insP o l loc (l.length + 1)).mergeSort fun x y => decide (x ≤ y)) = insS o l loc (l.length + 1) := by
  obtain ⟨h1, h2⟩ := compact_law _ (sorted_of (insP o l loc (l.length + 1)))
  exact sorted_unique h1 (insS_sorted h loc) fun x => by rw [h2, List.mem_mergeSort, ins_mem h]
end Go.Proofs.YtjdlffkbhaieaaaDoor
