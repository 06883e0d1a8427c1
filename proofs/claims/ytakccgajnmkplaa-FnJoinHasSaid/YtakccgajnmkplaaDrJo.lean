/- The draw of the ranges to be joined. -/
import Derived.Test.YtakccgajnmkplaaDrV
import Derived.Test.YtakccgajnmkplaaMk
import Derived.Test.YtakccgajnmkplaaJf6
namespace Go.Proofs.Ytakccgajnmkplaa
open Go.RowKit

/-- Drawn ranges, of any form. -/
def DrawnJ (w : World) (e : Ending) (w' : World) : Prop :=
  ∃ (b cap : Nat) (l : List R2), e = .returned (.slice (some ⟨b, 0, none⟩) l.length cap) ∧ w'.ownsRow w.heap.size 36 2 (.slice (some ⟨b, 0, none⟩) l.length cap) l.length (flatP l) ∧ l.length ≤ 9 ∧ Bd 1000 l ∧ Below w.heap.size w w'
theorem drawJoin {B len cap : Nat} {A : Option Addr} {w : World} (hs : Src B w A len) (hB : B ≤ w.heap.size) (hc : len ≤ cap) (hm : cap ≤ maxLen) :
    Calls Try.prog 36 #[.slice A len cap] w (DrawnJ w) := by
  go_enter Try.func36, Try.ntmps36
  go_wp2_with fail
  refine (l6Open_any hs hB hc hm).mono ?_
  rintro e w1 ⟨g, rfl, hg, hr1, hb1⟩
  go_wp2_with fail
  refine (l92Ranges_any hr1 (by omega)).mono ?_
  rintro e w2 ⟨b, cap', l, rfl, ho, hl, hbd, hr2, hg2⟩
  go_wp2_with fail
  go_ret
  exact ⟨b, cap', l, rfl, own_more ho hb1.size, hl, hbd, bonly hb1 hg2 hg⟩
theorem joinOk_bool (l : List R2) : joinOk l = true ∨ joinOk l = false := by cases joinOk l <;> simp
theorem Row.nil (w1 w : World) : Row w1 w.heap.size w1.heap.size none 0 0 [] := Row.made (own_nil w1 w.heap.size 36)
theorem joinS_ok {l : List R2} (h : joinOk l = true) : joinOk (joinS l) = true ∧ joinS (joinS l) = joinS l ∧ rvB (joinS l) = true ∧ (joinS l).length ≤ 8 := by
  obtain ⟨h8, hall⟩ := joinOk_in h
  have hJ := joinS_law l hall
  have hlen : (joinS l).length ≤ 8 := by have := hJ.2.2.2; omega
  have hall' : ∀ r ∈ joinS l, rB r = true := hJ.1.1
  refine ⟨?_, join_self hJ.1, ?_, hlen⟩
  · unfold joinOk
    simp only [Bool.and_eq_true, decide_eq_true_eq, List.all_eq_true]
    exact ⟨hlen, hall'⟩
  · unfold rvB
    simp only [Bool.and_eq_true, decide_eq_true_eq]
    exact ⟨hlen, of_asc hJ.1⟩
end Go.Proofs.Ytakccgajnmkplaa
