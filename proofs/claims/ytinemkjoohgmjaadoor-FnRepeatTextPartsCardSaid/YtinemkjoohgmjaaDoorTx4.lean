/- Contracts: an offset's text. -/
import Derived.Test.YtinemkjoohgmjaaDoorTx3
namespace Go.Proofs.YtinemkjoohgmjaaDoor
open Go.RowKit
attribute [local go_sem] S_mk S_size S_app p1_len p2_len p3_len p4_len lt_cell

/-- An offset's text. -/
def offT (o : Int) : List UInt8 := if o = 0 then [90] else (if o < 0 then 45 else 43) :: (p2 ((if o < 0 then -o else o) / 60) ++ [58] ++ p2 ((if o < 0 then -o else o) % 60))
theorem offT_len (o : Int) : (offT o).length ≤ 6 := by unfold offT; split <;> simp [p2]
theorem offT_0 : offT 0 = [90] := rfl
theorem offT_neg {o : Int} (h : o < 0) : offT o = 45 :: (p2 (-o / 60) ++ [58] ++ p2 (-o % 60)) := by
  unfold offT
  rw [if_neg (by omega), if_pos h, if_pos h]
theorem offT_pos {o : Int} (h : 0 < o) : offT o = 43 :: (p2 (o / 60) ++ [58] ++ p2 (o % 60)) := by
  unfold offT
  rw [if_neg (by omega), if_neg (by omega), if_neg (by omega)]
theorem signOf_any (o : Int) (w : World) :
    Calls Tryd.prog 54 #[.int .i64 o] w fun e w' => e = .returned (.int .u64 (if o = 0 then 1 else if o < 0 then 2 else 0)) ∧ w = w' := by
  rcases (show o = 0 ∨ o < 0 ∨ 0 < o by omega) with rfl | h | h
  · go_enter Tryd.func54, Tryd.ntmps54
    go_wp2
    go_ret
    exact ⟨rfl, rfl⟩
  · have h1 : (o == 0) = false := by simp; omega
    rw [if_neg (by omega), if_pos h]
    go_enter Tryd.func54, Tryd.ntmps54
    go_wp2
    go_ret
    exact ⟨rfl, rfl⟩
  · have h1 : (o == 0) = false := by simp; omega
    have h2 : ¬ o < 0 := by omega
    rw [if_neg (by omega), if_neg h2]
    go_enter Tryd.func54, Tryd.ntmps54
    go_wp2
    go_ret
    exact ⟨rfl, rfl⟩
set_option maxRecDepth 100000 in
set_option maxHeartbeats 1000000 in
theorem impl_offT (o : Int) (w : World) (hv : offB o = true) :
    Calls Tryd.prog 25 #[.int .i64 o] w fun e w' => e = .returned (.string (S (offT o))) ∧ Below w.heap.size w w' := by
  have hb := offB_iff.1 hv
  rcases (show o = 0 ∨ o < 0 ∨ 0 < o by omega) with rfl | h | h
  · go_enter Tryd.func25, Tryd.ntmps25
    go_wp2_with (first | (go_at_call 51; refine (offsetValid_any _ _).mono ?_; rintro e w' ⟨rfl, rfl⟩) | (go_at_call 54; refine (signOf_any _ _).mono ?_; rintro e w' ⟨rfl, rfl⟩))
    go_ret
    exact ⟨rfl, Below.refl _ _⟩
  · obtain ⟨m, rfl⟩ : ∃ m, o = -m := ⟨-o, by omega⟩
    have HT := hide (offT_neg h)
    rw [Int.neg_neg] at HT
    have hs := fun W => signOf_any (-m) W
    rw [if_neg (by omega), if_pos h] at hs
    have k1 : 0 ≤ m := by omega
    have k2 : m ≤ 1439 := by omega
    go_enter Tryd.func25, Tryd.ntmps25
    go_wp2_with (first | (go_at_call 51; refine (offsetValid_any _ _).mono ?_; rintro e w' ⟨rfl, rfl⟩) | (go_at_call 54; refine (hs _).mono ?_; rintro e w' ⟨rfl, rfl⟩))
    refine (digits2 (m / 60) _ (by omega) (by omega)).mono ?_
    rintro e w1 ⟨rfl, hb1⟩
    go_wp2_with fail
    refine (digits2 (m % 60) _ (by omega) (by omega)).mono ?_
    rintro e w2 ⟨rfl, hb2⟩
    go_wp2_with fail
    go_ret
    exact ⟨by rw [HT.out]; simp, bto hb1 hb2⟩
  · have HT := hide (offT_pos h)
    have hs := fun W => signOf_any o W
    rw [if_neg (by omega), if_neg (by omega)] at hs
    have k1 : 0 ≤ o := by omega
    have k2 : o ≤ 1439 := by omega
    go_enter Tryd.func25, Tryd.ntmps25
    go_wp2_with (first | (go_at_call 51; refine (offsetValid_any _ _).mono ?_; rintro e w' ⟨rfl, rfl⟩) | (go_at_call 54; refine (hs _).mono ?_; rintro e w' ⟨rfl, rfl⟩))
    refine (digits2 (o / 60) _ (by omega) (by omega)).mono ?_
    rintro e w1 ⟨rfl, hb1⟩
    go_wp2_with fail
    refine (digits2 (o % 60) _ (by omega) (by omega)).mono ?_
    rintro e w2 ⟨rfl, hb2⟩
    go_wp2_with fail
    go_ret
    exact ⟨by rw [HT.out]; simp, bto hb1 hb2⟩
set_option maxRecDepth 100000 in
set_option maxHeartbeats 1000000 in
theorem spec_offT (o : Int) (w : World) (hv : offB o = true) :
    Calls Tryd.prog 48 #[.int .i64 o] w fun e w' => e = .returned (.string (S (offT o))) ∧ Below w.heap.size w w' := by
  have hb := offB_iff.1 hv
  rcases (show o = 0 ∨ o < 0 ∨ 0 < o by omega) with rfl | h | h
  · go_enter Tryd.func48, Tryd.ntmps48
    go_wp2_with (go_at_call 56; refine (l6In_off _ _).mono ?_; rintro e w' ⟨rfl, rfl⟩)
    go_ret
    exact ⟨rfl, Below.refl _ _⟩
  · obtain ⟨m, rfl⟩ : ∃ m, o = -m := ⟨-o, by omega⟩
    have HT := hide (offT_neg h)
    rw [Int.neg_neg] at HT
    have k1 : 0 ≤ m := by omega
    have k2 : m ≤ 1439 := by omega
    have k3 : (-m == 0) = false := by simp; omega
    go_enter Tryd.func48, Tryd.ntmps48
    go_wp2_with (go_at_call 56; refine (l6In_off _ _).mono ?_; rintro e w' ⟨rfl, rfl⟩)
    refine (put2 (m / 60) _ (by omega) (by omega)).mono ?_
    rintro e w1 ⟨rfl, hb1⟩
    go_wp2_with fail
    refine (put2 (m % 60) _ (by omega) (by omega)).mono ?_
    rintro e w2 ⟨rfl, hb2⟩
    go_wp2_with fail
    go_ret
    exact ⟨by rw [HT.out]; simp, bto hb1 hb2⟩
  · have HT := hide (offT_pos h)
    have k1 : 0 ≤ o := by omega
    have k2 : o ≤ 1439 := by omega
    have k3 : (o == 0) = false := by simp; omega
    have k4 : ¬ o < 0 := by omega
    go_enter Tryd.func48, Tryd.ntmps48
    go_wp2_with (go_at_call 56; refine (l6In_off _ _).mono ?_; rintro e w' ⟨rfl, rfl⟩)
    refine (put2 (o / 60) _ (by omega) (by omega)).mono ?_
    rintro e w1 ⟨rfl, hb1⟩
    go_wp2_with fail
    refine (put2 (o % 60) _ (by omega) (by omega)).mono ?_
    rintro e w2 ⟨rfl, hb2⟩
    go_wp2_with fail
    go_ret
    exact ⟨by rw [HT.out]; simp, bto hb1 hb2⟩
end Go.Proofs.YtinemkjoohgmjaaDoor
