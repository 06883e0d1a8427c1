/- The program's RangesJoin: is a range invalid. -/
import Derived.Test.YtakccgajnmkplaaRg5
namespace Go.Proofs.Ytakccgajnmkplaa
open Go.RowKit

def badB (r : R2) : Bool := !rB r
theorem badFn_any (x y : Int) (w : World) :
    Calls Try.prog 51 #[.agg #[.int .i64 x, .int .i64 y]] w (RetB (badB (x, y)) w) := by
  go_enter Try.func51, Try.ntmps51
  go_wp2_with fail
  refine (rangeValid_any x y _).mono ?_
  rintro e w1 ⟨rfl, hb1⟩
  have B1 := bto (bal (Below.refl w.heap.size w) (.cells #[.int .i64 x, .int .i64 y] 36)) hb1
  go_wp2_with fail
  go_ret
  exact ⟨rfl, B1⟩
set_option maxHeartbeats 1000000 in
theorem idxBad (l : List R2) (len cap B : Nat) (A : Option Addr) (w : World) (hl : l.length = len) (hP : Prs B w A l) (hB : B ≤ w.heap.size) (hm : len ≤ 2305843009213693951) :
    Calls Try.prog 59 #[.slice A len cap, .func (.func 51) #[] #[]] w (IdxB (l.any badB) w) := by
  have HL := hide hl
  have HF1 : ∀ k : Nat, k < l.length → badB (l.getD k (0, 0)) = true → l.any badB = true := fun k hk hr => List.any_eq_true.2 ⟨l[k], List.getElem_mem hk, by simpa [List.getD, hk] using hr⟩
  have HF0 : (∀ k : Nat, k < l.length → badB (l.getD k (0, 0)) = false) → l.any badB = false := fun h => List.any_eq_false.2 fun x hx => by
    obtain ⟨k, hk, rfl⟩ := List.getElem_of_mem hx
    have := h k hk
    simpa [List.getD, hk] using this
  have HF1 := hide HF1
  have HF0 := hide HF0
  rcases hP.view' with h0 | ⟨b, o, rfl, hbB, hc⟩
  · obtain rfl : len = 0 := by omega
    have HN := hide (HF0.out (by omega))
    clear hl h0 hP
    go_enter Try.func59, Try.ntmps59
    go_wp2
    refine wp_loop_rounds 1 ?_
    rw [rounds_succ]
    go_wp2
    go_ret
    exact ⟨-1, by omega, by omega, by rw [HN.out]; rfl, rfl, Below.refl _ _⟩
  have HC := hide hc
  clear hc hP hl
  go_enter Try.func59, Try.ntmps59
  go_wp2
  go_loopw [8] (fun i wr => ∃ k : Nat, k ≤ len ∧ i = .int .i64 k ∧ Hid (∀ j, j < k → badB (l.getD j (0, 0)) = false) ∧ Below w.heap.size w wr) (fun i _ => len - (intOf i).toNat)
  case atStart => exact ⟨0, by omega, rfl, hide (by omega), Below.refl _ _⟩
  case round =>
    obtain ⟨k, hk, rfl, hno, hb⟩ := hrel
    by_cases hlt : k < len
    · obtain ⟨x, y, hxy⟩ := pair_ex l k
      have hs := hb.size
      have c0 := (hb.cell (p := ⟨b, o + k * 2, none⟩) (show b < w.heap.size by omega)).trans (HC.out k (by rw [HL.out]; omega)).1
      have c1 := (hb.cell (p := ⟨b, o + k * 2 + 1, none⟩) (show b < w.heap.size by omega)).trans (HC.out k (by rw [HL.out]; omega)).2
      rw [hxy] at c0 c1
      have HX := hide hxy
      clear hxy
      go_wp2_with fail
      refine (badFn_any x y _).mono ?_
      rintro e w1 ⟨rfl, hb1⟩
      have hb' := bto hb hb1
      cases hp : badB (x, y) with
      | true =>
        have HT := hide (HF1.out k (by rw [HL.out]; exact hlt) (by rw [HX.out]; exact hp))
        go_wp2
        go_ret
        exact ⟨k, by omega, by omega, by rw [HT.out]; simp, rfl, hb'⟩
      | false =>
        have HN := hide (show badB (l.getD k (0, 0)) = false by rw [HX.out]; exact hp)
        go_wp2
        go_roundw
        case rel => exact ⟨k + 1, by omega, by go_num, hide (upto hno.out HN.out), hb'⟩
        case measure => simp [intOf]; omega
    · obtain rfl : k = len := by omega
      have HN := hide (HF0.out (by rw [HL.out]; exact hno.out))
      go_wp2
      go_ret
      exact ⟨-1, by omega, by omega, by rw [HN.out]; rfl, rfl, hb⟩
theorem contBad (l : List R2) (len cap B : Nat) (A : Option Addr) (w : World) (hl : l.length = len) (hP : Prs B w A l) (hB : B ≤ w.heap.size) (hm : len ≤ 2305843009213693951) :
    Calls Try.prog 43 #[.slice A len cap, .func (.func 51) #[] #[]] w (RetB (l.any badB) w) := by
  go_enter Try.func43, Try.ntmps43
  go_wp2_with fail
  refine (idxBad l len cap B A w hl hP hB hm).mono ?_
  rintro e w1 ⟨z, h1, h2, hz, rfl, hb1⟩
  have HZ := hide hz
  clear hz
  go_wp2_with fail
  go_ret
  exact ⟨ret_bool HZ.out, hb1⟩
end Go.Proofs.Ytakccgajnmkplaa
