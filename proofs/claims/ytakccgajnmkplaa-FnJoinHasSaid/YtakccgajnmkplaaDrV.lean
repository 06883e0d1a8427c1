/- Draws of ranges out of a code. -/
import Derived.Test.YtakccgajnmkplaaDrJ
import Derived.Test.YtakccgajnmkplaaRg5
namespace Go.Proofs.Ytakccgajnmkplaa
open Go.RowKit
attribute [local go_sem] lt_cell

theorem gk {W w' : World} {g b o : Nat} (hg : W.grownBy w' (some g)) (h : b < W.heap.size) (hn : ¬ b = g) : w'.cell? ⟨b, o, none⟩ = W.cell? ⟨b, o, none⟩ := (gcells hg).1 b o h hn

theorem keep2g {W w' : World} {g b : Nat} {u v : Value} (hg : W.grownBy w' (some g)) (hb : b < W.heap.size) (hn : ¬ b = g) (h : W.cell? ⟨b, 0, none⟩ = some u ∧ W.cell? ⟨b, 1, none⟩ = some v) : w'.cell? ⟨b, 0, none⟩ = some u ∧ w'.cell? ⟨b, 1, none⟩ = some v :=
  ⟨(gk hg hb hn).trans h.1, (gk hg hb hn).trans h.2⟩

/-- Drawn ranges. -/
def DrawnL (w : World) (e : Ending) (w' : World) : Prop :=
  ∃ (b cap : Nat) (l : List R2), e = .returned (.slice (some ⟨b, 0, none⟩) l.length cap) ∧ w'.ownsRow w.heap.size 36 2 (.slice (some ⟨b, 0, none⟩) l.length cap) l.length (flatP l) ∧ l.length ≤ 9 ∧ Bd 1030 l ∧ Below w.heap.size w w'
/-- Drawn ranges and a number. -/
def DrawnLN (w : World) (e : Ending) (w' : World) : Prop :=
  ∃ (b cap : Nat) (l : List R2) (n : Int), e = .returned (.tuple #[.slice (some ⟨b, 0, none⟩) l.length cap, .int .i64 n]) ∧ w'.ownsRow w.heap.size 36 2 (.slice (some ⟨b, 0, none⟩) l.length cap) l.length (flatP l) ∧ l.length ≤ 9 ∧ Bd 1030 l ∧ Below w.heap.size w w'
theorem drawValid {B len cap : Nat} {A : Option Addr} {w : World} (hs : Src B w A len) (hB : B ≤ w.heap.size) (hc : len ≤ cap) (hm : cap ≤ maxLen) :
    Calls Try.prog 27 #[.slice A len cap] w (DrawnL w) := by
  go_enter Try.func27, Try.ntmps27
  go_wp2_with fail
  refine (l6Open_any hs hB hc hm).mono ?_
  rintro e w1 ⟨g, rfl, hg, hr1, hb1⟩
  go_wp2_with fail
  refine (l92Joined_any hr1 (by omega)).mono ?_
  rintro e w2 ⟨b, cap', l, rfl, ho, hl, hbd, hr2, hg2⟩
  go_wp2_with fail
  go_ret
  exact ⟨b, cap', l, rfl, own_more ho hb1.size, hl, hbd, bonly hb1 hg2 hg⟩
theorem drawTotal {B len cap : Nat} {A : Option Addr} {w : World} (hs : Src B w A len) (hB : B ≤ w.heap.size) (hc : len ≤ cap) (hm : cap ≤ maxLen) :
    Calls Try.prog 28 #[.slice A len cap] w (DrawnL w) := by
  go_enter Try.func28, Try.ntmps28
  go_wp2_with fail
  refine (l6Open_any hs hB hc hm).mono ?_
  rintro e w1 ⟨g, rfl, hg, hr1, hb1⟩
  go_wp2_with fail
  refine (l92Joined_any hr1 (by omega)).mono ?_
  rintro e w2 ⟨b, cap', l, rfl, ho, hl, hbd, hr2, hg2⟩
  go_wp2_with fail
  go_ret
  exact ⟨b, cap', l, rfl, own_more ho hb1.size, hl, hbd, bonly hb1 hg2 hg⟩

set_option maxHeartbeats 2000000 in
theorem drawHas {B len cap : Nat} {A : Option Addr} {w : World} (hs : Src B w A len) (hB : B ≤ w.heap.size) (hc : len ≤ cap) (hm : cap ≤ maxLen) :
    Calls Try.prog 29 #[.slice A len cap] w (DrawnLN w) := by
  go_enter Try.func29, Try.ntmps29
  go_wp2_with fail
  refine (l6Open_any hs hB hc hm).mono ?_
  rintro e w1 ⟨g, rfl, hg, hr1, hb1⟩
  have hgl1 := hr1.lt
  have hs1 := hb1.size
  go_wp2_with fail
  refine (l92Joined_any hr1 (by omega)).mono ?_
  rintro e w2 ⟨b, cap', J, rfl, ho2, hl, hbd, hr2, hg2⟩
  have B2 := bonly hb1 hg2 hg
  have hgl2 := hr2.lt
  have HO2 := hide ho2
  clear hs ho2 hc
  by_cases h0 : J.length = 0
  · obtain rfl : J = [] := by cases J; rfl; simp at h0
    clear h0 hl
    go_wp2_with fail
    refine (pick_any hr2 (by omega) (by omega)).mono ?_
    rintro e w3 ⟨v3, a3, c3, rfl, hr3, hg3⟩
    go_wp2_with fail
    go_ret2
    exact ⟨b, cap', [], _, rfl, own_more (own_rd HO2.out hg3 hgl1) hs1, by simp, hbd, bonly B2 hg3 hg⟩
  · have g0 : decide ((0 : Int) < (J.length : Int)) = true := by rw [decide_eq_true_iff]; omega
    go_wp2_with fail
    refine (pick_any hr2 (by omega) (by omega)).mono ?_
    rintro e w3 ⟨v3, a3, c3, rfl, hr3, hg3⟩
    have HO3 := hide (own_rd HO2.out hg3 hgl1)
    have B3 := bonly B2 hg3 hg
    by_cases hv : 0 < v3
    · go_wp2_with fail
      refine (pick_any hr3 (by omega) (by omega)).mono ?_
      rintro e w4 ⟨v4, a4, c4, rfl, hr4, hg4⟩
      have ho4 := own_rd HO3.out hg4 hgl1
      have B4 := bonly B3 hg4 hg
      obtain ⟨k, rfl⟩ := Int.eq_ofNat_of_zero_le a4
      have hk : k < J.length := by omega
      obtain ⟨x, y, hxy⟩ := pair_ex J k
      have hbk := hbd.at hk hxy
      have hgt := flatP_get J k hk
      rw [hxy] at hgt
      have d0 := (ho4.cellAt (k * 2) (by omega)).trans hgt.1
      have d1 := (ho4.cellAt (k * 2 + 1) (by omega)).trans hgt.2
      have HO4 := hide ho4
      have hgl4 := hr4.lt
      clear hxy hgt hg3 hg4 ho4 HO3 B3 B2 hg2 hb1
      by_cases hd : y - x < 1
      · have e1 : IntKind.i64.wrap (y - x) = y - x := IntWalk.i64_in _ (by omega)
        have e3 : IntKind.i64.wrap ((if y - x < 1 then 1 else y - x) + 1) = 2 := by rw [if_pos hd]; exact IntWalk.i64_in _ (by omega)
        have e0 : IntKind.i64.wrap 2 = 2 := IntWalk.i64_in _ (by omega)
        go_wp2_with fail
        go_region_held3 (fun w' => w'.cell? ⟨w4.heap.size, 0, none⟩ = some (.int .i64 x) ∧ w'.cell? ⟨w4.heap.size, 1, none⟩ = some (.int .i64 y)) (first | go_keep | (refine keep2g hg5 ?_ ?_ ?_; (simp; done); omega; assumption)) (first | (go_at_call 47; refine (pick_any (by first | assumption | exact Rd.alloc (by assumption) _ | exact Rd.drew (Rd.alloc (by assumption) _)) (by omega) (by omega)).mono ?_; rintro e w5 ⟨v5, a5, c5, rfl, hr5, hg5⟩; have k0 := gk hg5 (b := w4.heap.size) (o := 0) (by simp) (by omega); have k1 := gk hg5 (b := w4.heap.size) (o := 1) (by simp) (by omega); simp at k0 k1))
        go_wp2
        go_ret2
        exact ⟨b, cap', J, _, rfl, own_more (own_rd (HO4.out.alloc _).drew hg5 hgl1) hs1, hl, hbd, bonly (bdrew (bal B4 _)) hg5 hg⟩
      · have e1 : IntKind.i64.wrap (y - x) = y - x := IntWalk.i64_in _ (by omega)
        have e3 : IntKind.i64.wrap ((if y - x < 1 then 1 else y - x) + 1) = y - x + 1 := by rw [if_neg hd]; exact IntWalk.i64_in _ (by omega)
        have e2 : IntKind.i64.wrap (y - x + 1) = y - x + 1 := IntWalk.i64_in _ (by omega)
        go_wp2_with fail
        go_region_held3 (fun w' => w'.cell? ⟨w4.heap.size, 0, none⟩ = some (.int .i64 x) ∧ w'.cell? ⟨w4.heap.size, 1, none⟩ = some (.int .i64 y)) (first | go_keep | (refine keep2g hg5 ?_ ?_ ?_; (simp; done); omega; assumption)) (first | (go_at_call 47; refine (pick_any (by first | assumption | exact Rd.alloc (by assumption) _ | exact Rd.drew (Rd.alloc (by assumption) _)) (by omega) (by omega)).mono ?_; rintro e w5 ⟨v5, a5, c5, rfl, hr5, hg5⟩; have k0 := gk hg5 (b := w4.heap.size) (o := 0) (by simp) (by omega); have k1 := gk hg5 (b := w4.heap.size) (o := 1) (by simp) (by omega); simp at k0 k1))
        go_wp2
        go_ret2
        exact ⟨b, cap', J, _, rfl, own_more (own_rd (HO4.out.alloc _).drew hg5 hgl1) hs1, hl, hbd, bonly (bdrew (bal B4 _)) hg5 hg⟩
    · have g1 : decide ((0 : Int) < v3) = false := by rw [decide_eq_false_iff_not]; omega
      go_wp2_with fail
      refine (pick_any hr3 (by omega) (by omega)).mono ?_
      rintro e w4 ⟨v4, a4, c4, rfl, hr4, hg4⟩
      go_wp2_with fail
      go_ret2
      exact ⟨b, cap', J, _, rfl, own_more (own_rd HO3.out hg4 hgl1) hs1, hl, hbd, bonly B3 hg4 hg⟩
end Go.Proofs.Ytakccgajnmkplaa
