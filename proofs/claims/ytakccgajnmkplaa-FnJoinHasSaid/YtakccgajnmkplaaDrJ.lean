/- Draws of ranges that ascend. -/
import Derived.Test.YtakccgajnmkplaaJn
import Derived.Test.YtakccgajnmkplaaDrR
namespace Go.Proofs.Ytakccgajnmkplaa
open Go.RowKit

theorem putR_bd {c : Int} : ∀ (l : List R2) (x : R2), Bd c l → Bd c [x] → Bd c (putR l x) := by
  intro l
  induction l with
  | nil => intro x _ hx; simpa [putR] using hx
  | cons y t ih =>
    intro x h hx
    have hy := h y (by simp)
    have hx' := hx x (by simp)
    have ht : Bd c t := fun r hr => h r (by simp [hr])
    unfold putR
    split
    · intro r hr
      rcases List.mem_cons.1 hr with rfl | hr
      · exact hy
      · exact ih x ht hx r hr
    · split
      · intro r hr
        rcases List.mem_cons.1 hr with rfl | hr
        · exact hx'
        · exact h r hr
      · refine ih _ ht fun r hr => ?_
        simp at hr
        subst hr
        show -c ≤ min x.1 y.1 ∧ min x.1 y.1 ≤ c ∧ -c ≤ max x.2 y.2 ∧ max x.2 y.2 ≤ c
        omega
theorem joinS_bd {c : Int} (l : List R2) (h : ∀ r ∈ l, rB r = true) (hb : Bd c l) : Bd c (joinS l) := by
  have main : ∀ (l a : List R2), (∀ r ∈ l, rB r = true) → Asc a → Bd c a → Bd c l → Bd c (l.foldl put a) := by
    intro l
    induction l with
    | nil => intro a _ _ ha _; exact ha
    | cons x t ih =>
      intro a hl ha hba hbl
      have hx := hl x (by simp)
      rw [List.foldl_cons, put_eq (by have := rB_iff.1 hx; omega) ha]
      exact ih _ (fun r hr => hl r (by simp [hr])) (putR_law a x ha hx).1 (putR_bd a x hba (fun r hr => by simp at hr; subst hr; exact hbl _ (by simp))) (fun r hr => hbl r (by simp [hr]))
  exact main l [] h asc_nil (fun r hr => by simp at hr) hb
theorem Bd.more {c d : Int} {l : List R2} (h : Bd c l) (hc : c ≤ d) : Bd d l := fun r hr => by have := h r hr; omega
theorem Bd.at {c : Int} {l : List R2} {k : Nat} {x y : Int} (h : Bd c l) (hk : k < l.length) (e : l.getD k (0, 0) = (x, y)) : -c ≤ x ∧ x ≤ c ∧ -c ≤ y ∧ y ≤ c := by
  have hm : (x, y) ∈ l := by rw [← e]; simp [List.getD, hk]
  exact h _ hm
theorem Bd.set_ {c : Int} {l : List R2} {k : Nat} {x y : Int} (h : Bd c l) (hx : -c ≤ x ∧ x ≤ c ∧ -c ≤ y ∧ y ≤ c) : Bd c (l.set k (x, y)) := fun r hr => by
  rcases List.mem_or_eq_of_mem_set hr with hr | rfl
  · exact h r hr
  · exact hx
theorem flatP_set1 (l : List R2) (k : Nat) (x y y' : Int) (hk : k < l.length) (e : l.getD k (0, 0) = (x, y)) : (flatP l).set (k * 2 + 1) (.int .i64 y') = flatP (l.set k (x, y')) := by
  have h := flatP_set l k (x, y') hk
  have hg := (flatP_get l k hk).1
  rw [e] at hg
  have hl : k * 2 < (flatP l).length := by rw [flatP_len]; omega
  have hs : (flatP l).set (k * 2) (.int .i64 x) = flatP l := by
    refine List.ext_getElem? fun j => ?_
    by_cases hj : j = k * 2
    · subst hj; rw [hg]; simp [hl]
    · rw [List.getElem?_set_ne (fun e => hj e.symm)]
  rw [hs] at h
  exact h

set_option maxHeartbeats 2000000 in
theorem l92Joined_any {B g m : Nat} {w : World} (hr : Rd B w g m) (hm : m ≤ 40000) :
    Calls Try.prog 45 #[.pointer (some ⟨g, 0, none⟩)] w (DrawnP 36 w.heap.size 1030 9 B g m 31 w) := by
  have hgl := hr.lt
  go_enter Try.func45, Try.ntmps45
  go_wp2_with fail
  refine (l92Ranges_any hr (by omega)).mono ?_
  rintro e w1 ⟨b1, cap1, l, rfl, ho1, hl9, hBd, hr1, hg1⟩
  have hs1 := hg1.size
  have P1 := Prs.own ho1
  go_wp2_with fail
  refine (spec_join l _ _ _ _ _ rfl P1 (Nat.le_refl _)).mono ?_
  rintro e w2 ⟨b2, cap2, rfl, ho2, hb2⟩
  have hs2 := hb2.size
  have hr2 := hr1.below hb2 (by omega)
  have hg2 := only_below hg1 hb2
  cases hj : joinOk l with
  | false =>
    rw [hj] at ho2
    clear ho1 P1 hg1 hb2 hr1
    go_wp2_with fail
    go_ret
    exact ⟨w2.heap.size, 2, [(10, 25), (30, 60)], rfl, World.ownsRow_lit (base := w.heap.size) (size := 2) (e := 36) w2 #[.int .i64 10, .int .i64 25, .int .i64 30, .int .i64 60] 2 (by omega) (by simp [maxLen]) (by simp), by decide, (by intro r hr; simp at hr; rcases hr with rfl | rfl <;> decide), (hr2.alloc _).more (by omega), only_alloc hg2 _⟩
  | true =>
    obtain ⟨hl8, hall⟩ := joinOk_in hj
    have hJ := joinS_law l hall
    have hBJ := joinS_bd l hall hBd
    have hlen : (joinS l).length ≤ 8 := by have := hJ.2.2.2; omega
    rw [hj] at ho2
    simp only [if_true] at ho2 ⊢
    generalize joinS l = J at ho2 hBJ hlen hJ ⊢
    have HO2 := hide (own_more ho2 (show w.heap.size ≤ w1.heap.size from hs1))
    clear ho1 ho2 P1 hg1 hb2 hr1 hall hBd hJ hj
    by_cases h0 : J.length = 0
    · obtain rfl : J = [] := by cases J; rfl; simp at h0
      clear h0 hlen
      go_wp2_with fail
      go_ret
      exact ⟨b2, cap2, [], rfl, HO2.out, by simp, hBJ.more (by decide), hr2.more (by omega), hg2⟩
    · have g0 : decide ((0 : Int) < (J.length : Int)) = true := by rw [decide_eq_true_iff]; omega
      go_wp2_with fail
      refine (pick_any hr2 (by omega) (by omega)).mono ?_
      rintro e w3 ⟨v3, a3, c3, rfl, hr3, hg3⟩
      have HO3 := hide (own_rd HO2.out hg3 hgl)
      have G3 := only_trans hg2 hg3
      by_cases hv : v3 = 0
      · subst hv
        go_wp2_with fail
        refine (pick_any hr3 (by omega) (by omega)).mono ?_
        rintro e w4 ⟨v4, a4, c4, rfl, hr4, hg4⟩
        have ho4 := own_rd HO3.out hg4 hgl
        have G4 := only_trans G3 hg4
        obtain ⟨k, rfl⟩ := Int.eq_ofNat_of_zero_le a4
        have hk : k < J.length := by omega
        obtain ⟨x, y, hxy⟩ := pair_ex J k
        have hbd := hBJ.at hk hxy
        have hgt := (flatP_get J k hk).2
        rw [hxy] at hgt
        have c1 := (ho4.cellAt (k * 2 + 1) (by omega)).trans hgt
        have f1 := ho4.frozenAt (k * 2 + 1)
        have st := ho4.stored (k * 2 + 1) (.int .i64 (y + 30))
        rw [flatP_set1 J k x y (y + 30) hk hxy] at st
        have hbb := (ho4.lt b2 rfl).1
        have HS := hide st
        have HXY := hide hxy
        clear st hxy hgt hg3 hg4 ho4
        go_wp2_with fail
        go_ret
        have hw := hBJ.more (show (1000 : Int) ≤ 1030 by decide)
        refine ⟨b2, cap2, J.set k (x, y + 30), by rw [List.length_set]; rfl, by rw [List.length_set]; exact HS.out.1, by rw [List.length_set]; omega, hw.set_ ⟨by omega, by omega, by omega, by omega⟩, (hr4.setCell (by show g < b2; omega) _).more (by omega), only_setCell G4 (.inr hbb) _⟩
      · have g1 : (v3 == 0) = false := by simpa using hv
        go_wp2_with fail
        go_ret
        exact ⟨b2, cap2, J, rfl, HO3.out, by omega, hBJ.more (by decide), hr3.more (by omega), G3⟩
end Go.Proofs.Ytakccgajnmkplaa
