/- The law FnRepeatPart returns true. -/
import Derived.Test.YtlhobebaobaoiaaDoorDrQ
import Derived.Test.YtlhobebaobaoiaaDoorShellD
namespace Go.Proofs.YtlhobebaobaoiaaDoor
open Go.RowKit

/-- A drawn repeat. -/
def DrawnRv (w : World) (e : Ending) (w' : World) : Prop :=
  ∃ y mo d h mi s ms o p1 p2 p3 p4 p5 p6 n : Int, e = .returned (.agg #[.int .i64 y, .int .i64 mo, .int .i64 d, .int .i64 h, .int .i64 mi, .int .i64 s, .int .i64 ms, .int .i64 o, .int .i64 p1, .int .i64 p2, .int .i64 p3, .int .i64 p4, .int .i64 p5, .int .i64 p6, .int .i64 n]) ∧ Below w.heap.size w w'
theorem rpB_none (x : S8) (n : Int) : rpB x 0 0 0 0 0 0 n = false := by
  unfold rpB
  simp
theorem rpB_many (x : S8) (p1 p2 p3 p4 p5 p6 : Int) : rpB x p1 p2 p3 p4 p5 p6 100 = false := by
  unfold rpB
  have h : inB 100 0 99 = false := by decide
  rw [h]
  simp
theorem putD_below {w0 w : World} {k : Nat} (p1 p2 p3 p4 p5 p6 : Int) (h : Below w0.heap.size w0 w) (nb : w0.heap.size ≤ k) : Below w0.heap.size w0 (putD w k p1 p2 p3 p4 p5 p6) := by
  unfold putD
  exact bset (bset (bset (bset (bset (bset h (p := ⟨k, 8, none⟩) nb (.int .i64 p1)) (p := ⟨k, 9, none⟩) nb (.int .i64 p2)) (p := ⟨k, 10, none⟩) nb (.int .i64 p3)) (p := ⟨k, 11, none⟩) nb (.int .i64 p4)) (p := ⟨k, 12, none⟩) nb (.int .i64 p5)) (p := ⟨k, 13, none⟩) nb (.int .i64 p6)
theorem putD_size {w : World} {k : Nat} (p1 p2 p3 p4 p5 p6 : Int) : (putD w k p1 p2 p3 p4 p5 p6).heap.size = w.heap.size := by
  have e : ∀ (W : World) (a : Addr) (u : Value), (W.setCell a u).heap.size = W.heap.size := fun W a u => by simp [World.setCell]
  show (((((((w.setCell _ _).setCell _ _).setCell _ _).setCell _ _).setCell _ _).setCell _ _)).heap.size = _
  rw [e, e, e, e, e, e]
section
attribute [local go_sem ↓] storeD_eq storeR_eq loadR_eq
set_option maxRecDepth 100000 in
set_option maxHeartbeats 4000000 in
theorem drawRV {B len cap : Nat} {A : Option Addr} {w : World} (hs : Src B w A len) (hB : B ≤ w.heap.size) (hc : len ≤ cap) (hm : cap ≤ maxLen) :
    Calls Tryd.prog 28 #[.slice A len cap] w (DrawnRv w) := by
  have R0 := Blk.new w 53 #[.int .i64 0, .int .i64 0, .int .i64 0, .int .i64 0, .int .i64 0, .int .i64 0, .int .i64 0, .int .i64 0, .int .i64 0, .int .i64 0, .int .i64 0, .int .i64 0, .int .i64 0, .int .i64 0, .int .i64 0]
  go_enter Tryd.func28, Tryd.ntmps28
  go_wp2_with fail
  refine (l6Open_any (hs.keep fun p hp => World.cell?_alloc_lt w _ p (by omega)) (by simp; omega) hc hm).mono ?_
  rintro e w1 ⟨g, rfl, hg, hr1, hb1⟩
  have hg' : w.heap.size < g := Nat.lt_of_lt_of_le R0.lt hg
  have R1 := hide (R0.below hb1 R0.lt)
  have B1 := hide (bto (bal (Below.refl w.heap.size w) (.cells #[.int .i64 0, .int .i64 0, .int .i64 0, .int .i64 0, .int .i64 0, .int .i64 0, .int .i64 0, .int .i64 0, .int .i64 0, .int .i64 0, .int .i64 0, .int .i64 0, .int .i64 0, .int .i64 0, .int .i64 0] 53)) hb1)
  clear R0 hb1
  go_wp2_with fail
  refine (l92Repeat_any hr1 (by omega)).mono ?_
  rintro e w2 ⟨y, mo, d, h, mi, s, ms, o, p1, p2, p3, p4, p5, p6, n, rfl, _, hg2⟩
  have R2 := R1.out.grown' hg2 (by omega)
  have B2 := bonly B1.out hg2 (Nat.le_of_lt hg')
  obtain ⟨We, ste, ke, Be⟩ : ∃ W, (storeR (.pointer (some ⟨w.heap.size, 0, none⟩)) (.agg #[.int .i64 y, .int .i64 mo, .int .i64 d, .int .i64 h, .int .i64 mi, .int .i64 s, .int .i64 ms, .int .i64 o, .int .i64 p1, .int .i64 p2, .int .i64 p3, .int .i64 p4, .int .i64 p5, .int .i64 p6, .int .i64 n])).run Tryd.prog w2 = .ok () W ∧ (∀ j, W.cell? ⟨w.heap.size, j, none⟩ = (#[.int .i64 y, .int .i64 mo, .int .i64 d, .int .i64 h, .int .i64 mi, .int .i64 s, .int .i64 ms, .int .i64 o, .int .i64 p1, .int .i64 p2, .int .i64 p3, .int .i64 p4, .int .i64 p5, .int .i64 p6, .int .i64 n] : Array Value)[j]?) ∧ Hid (Below w.heap.size w W) := ⟨_, storeR_rq ⟨_, rfl, R2⟩ _ _ _ _ _ _ _ _ _ _ _ _ _ _ _, fun j => cell_setRow_same _ _ j _ _ _ (0, 0) R2, hide (brow B2 (Nat.le_refl _) _)⟩
  clear R1 B1 R2 B2 hr1 hg2
  go_wp2_with fail
  refine bodyPost_ret (by simp [results, Tryd.results28, go_sem, ke]; try rfl) rfl ?_
  exact ⟨_, _, _, _, _, _, _, _, _, _, _, _, _, _, _, rfl, Be.out⟩
set_option maxRecDepth 100000 in
set_option maxHeartbeats 4000000 in
theorem w_FnRepeatPart (w : World) (hM : MD w) (A : Option Addr) (len cap : Nat) (hs : Src w.heap.size w A len) (hc : len ≤ cap) (hm : cap ≤ maxLen) :
    Calls Tryd.prog 10 #[.slice A len cap] w fun e w' => e = .returned (.bool true) ∧ Below w.heap.size w w' := by
  have hm' := hm
  unfold maxLen at hm'
  by_cases hbig : 1048576 < len
  · go_enter Tryd.func10, Tryd.ntmps10
    go_wp2_with fail
    go_ret
    exact ⟨rfl, Below.refl _ _⟩
  · go_enter Tryd.func10, Tryd.ntmps10
    go_wp2_with fail
    refine (drawRV hs (Nat.le_refl _) hc hm).mono ?_
    rintro e w1 ⟨y, mo, d, h, mi, s, ms, o, p1, p2, p3, p4, p5, p6, n, rfl, hb1⟩
    have hsz1 := hb1.size
    obtain ⟨w2, st2, A2, B2⟩ : ∃ W, (storeR (.pointer (some ⟨w1.heap.size, 0, none⟩)) (.agg #[.int .i64 y, .int .i64 mo, .int .i64 d, .int .i64 h, .int .i64 mi, .int .i64 s, .int .i64 ms, .int .i64 o, .int .i64 p1, .int .i64 p2, .int .i64 p3, .int .i64 p4, .int .i64 p5, .int .i64 p6, .int .i64 n])).run Tryd.prog (w1.alloc (.cells #[.int .i64 0, .int .i64 0, .int .i64 0, .int .i64 0, .int .i64 0, .int .i64 0, .int .i64 0, .int .i64 0, .int .i64 0, .int .i64 0, .int .i64 0, .int .i64 0, .int .i64 0, .int .i64 0, .int .i64 0] 53)) = .ok () W ∧ Hid (Blk W (w1.heap.size) 53 #[.int .i64 y, .int .i64 mo, .int .i64 d, .int .i64 h, .int .i64 mi, .int .i64 s, .int .i64 ms, .int .i64 o, .int .i64 p1, .int .i64 p2, .int .i64 p3, .int .i64 p4, .int .i64 p5, .int .i64 p6, .int .i64 n]) ∧ Hid (Below w.heap.size w W) := ⟨_, storeR_rq ⟨_, rfl, Blk.new w1 53 #[.int .i64 0, .int .i64 0, .int .i64 0, .int .i64 0, .int .i64 0, .int .i64 0, .int .i64 0, .int .i64 0, .int .i64 0, .int .i64 0, .int .i64 0, .int .i64 0, .int .i64 0, .int .i64 0, .int .i64 0]⟩ _ _ _ _ _ _ _ _ _ _ _ _ _ _ _, hide ((Blk.new w1 53 #[.int .i64 0, .int .i64 0, .int .i64 0, .int .i64 0, .int .i64 0, .int .i64 0, .int .i64 0, .int .i64 0, .int .i64 0, .int .i64 0, .int .i64 0, .int .i64 0, .int .i64 0, .int .i64 0, .int .i64 0]).setRow _), hide (brow (bal hb1 (.cells #[.int .i64 0, .int .i64 0, .int .i64 0, .int .i64 0, .int .i64 0, .int .i64 0, .int .i64 0, .int .i64 0, .int .i64 0, .int .i64 0, .int .i64 0, .int .i64 0, .int .i64 0, .int .i64 0, .int .i64 0] 53)) (by omega) _)⟩
    have hld2 := loadR_row A2.out
    obtain ⟨b, eb⟩ : ∃ b, b = rpB ⟨y, mo, d, h, mi, s, ms, o⟩ p1 p2 p3 p4 p5 p6 n := ⟨_, rfl⟩
    have EB := hide eb
    have g0 : (b != b) = false := by simp
    have g1 : (b == b) = true := by simp
    clear eb hb1
    go_wp2_with fail
    refine (impl_rv y mo d h mi s ms o p1 p2 p3 p4 p5 p6 n _ (hM.below B2.out)).mono ?_
    rintro e w3 ⟨rfl, hb3⟩
    rw [← EB.out]
    have A3 := hide (A2.out.below hb3 A2.out.lt)
    have B3 := hide (bto B2.out hb3)
    clear st2 hld2 A2 B2 hb3
    have hld3 := loadR_row A3.out
    go_wp2_with fail
    refine (spec_rv y mo d h mi s ms o p1 p2 p3 p4 p5 p6 n _).mono ?_
    rintro e w4 ⟨rfl, hb4⟩
    rw [← EB.out]
    have A4 := hide (A3.out.below hb4 A3.out.lt)
    have hlt4 := A4.out.lt
    have B4 := hide (bto B3.out hb4)
    clear hld3 A3 B3 hb4
    cases b with
    | false =>
      go_wp2_with fail
      go_ret
      exact ⟨rfl, B4.out⟩
    | true =>
      have hld4 := loadR_row A4.out
      obtain ⟨w5, st5, A5, X5, B5, hs5⟩ : ∃ W, (storeR (.pointer (some ⟨w4.heap.size, 0, none⟩)) (.agg #[.int .i64 y, .int .i64 mo, .int .i64 d, .int .i64 h, .int .i64 mi, .int .i64 s, .int .i64 ms, .int .i64 o, .int .i64 p1, .int .i64 p2, .int .i64 p3, .int .i64 p4, .int .i64 p5, .int .i64 p6, .int .i64 n])).run Tryd.prog (w4.alloc (.cells #[.int .i64 0, .int .i64 0, .int .i64 0, .int .i64 0, .int .i64 0, .int .i64 0, .int .i64 0, .int .i64 0, .int .i64 0, .int .i64 0, .int .i64 0, .int .i64 0, .int .i64 0, .int .i64 0, .int .i64 0] 53)) = .ok () W ∧ Hid (Blk W (w1.heap.size) 53 #[.int .i64 y, .int .i64 mo, .int .i64 d, .int .i64 h, .int .i64 mi, .int .i64 s, .int .i64 ms, .int .i64 o, .int .i64 p1, .int .i64 p2, .int .i64 p3, .int .i64 p4, .int .i64 p5, .int .i64 p6, .int .i64 n]) ∧ Hid (Blk W (w4.heap.size) 53 #[.int .i64 y, .int .i64 mo, .int .i64 d, .int .i64 h, .int .i64 mi, .int .i64 s, .int .i64 ms, .int .i64 o, .int .i64 p1, .int .i64 p2, .int .i64 p3, .int .i64 p4, .int .i64 p5, .int .i64 p6, .int .i64 n]) ∧ Hid (Below w.heap.size w W) ∧ W.heap.size = w4.heap.size + 1 := ⟨_, storeR_rq ⟨_, rfl, Blk.new w4 53 #[.int .i64 0, .int .i64 0, .int .i64 0, .int .i64 0, .int .i64 0, .int .i64 0, .int .i64 0, .int .i64 0, .int .i64 0, .int .i64 0, .int .i64 0, .int .i64 0, .int .i64 0, .int .i64 0, .int .i64 0]⟩ _ _ _ _ _ _ _ _ _ _ _ _ _ _ _, hide ((A4.out.alloc (.cells #[.int .i64 0, .int .i64 0, .int .i64 0, .int .i64 0, .int .i64 0, .int .i64 0, .int .i64 0, .int .i64 0, .int .i64 0, .int .i64 0, .int .i64 0, .int .i64 0, .int .i64 0, .int .i64 0, .int .i64 0] 53)).setRow_far (by omega) _), hide ((Blk.new w4 53 #[.int .i64 0, .int .i64 0, .int .i64 0, .int .i64 0, .int .i64 0, .int .i64 0, .int .i64 0, .int .i64 0, .int .i64 0, .int .i64 0, .int .i64 0, .int .i64 0, .int .i64 0, .int .i64 0, .int .i64 0]).setRow _), hide (brow (bal B4.out (.cells #[.int .i64 0, .int .i64 0, .int .i64 0, .int .i64 0, .int .i64 0, .int .i64 0, .int .i64 0, .int .i64 0, .int .i64 0, .int .i64 0, .int .i64 0, .int .i64 0, .int .i64 0, .int .i64 0, .int .i64 0] 53)) (by omega) _), by simp⟩
      obtain ⟨w6, st6, A6, X6, B6, hs6⟩ : ∃ W, (storeD (.pointer (some ⟨w4.heap.size, 8, none⟩)) (.agg #[.int .i64 0, .int .i64 0, .int .i64 0, .int .i64 0, .int .i64 0, .int .i64 0])).run Tryd.prog w5 = .ok () W ∧ Hid (Blk W (w1.heap.size) 53 #[.int .i64 y, .int .i64 mo, .int .i64 d, .int .i64 h, .int .i64 mi, .int .i64 s, .int .i64 ms, .int .i64 o, .int .i64 p1, .int .i64 p2, .int .i64 p3, .int .i64 p4, .int .i64 p5, .int .i64 p6, .int .i64 n]) ∧ Hid (Blk W (w4.heap.size) 53 #[.int .i64 y, .int .i64 mo, .int .i64 d, .int .i64 h, .int .i64 mi, .int .i64 s, .int .i64 ms, .int .i64 o, .int .i64 0, .int .i64 0, .int .i64 0, .int .i64 0, .int .i64 0, .int .i64 0, .int .i64 n]) ∧ Hid (Below w.heap.size w W) ∧ W.heap.size = w4.heap.size + 1 := ⟨_, storeD_mid (X5.out.there 8 6 (by simp)) _ _ _ _ _ _, hide (putD_far _ _ _ _ _ _ A5.out (by omega)), hide (putD_own _ _ _ _ _ _ X5.out), hide (putD_below _ _ _ _ _ _ B5.out (by omega)), by rw [putD_size, hs5]⟩
      have hld6 := loadR_row A6.out
      obtain ⟨w7, st7, A7, X7, Y7, B7⟩ : ∃ W, (storeR (.pointer (some ⟨w4.heap.size + 1, 0, none⟩)) (.agg #[.int .i64 y, .int .i64 mo, .int .i64 d, .int .i64 h, .int .i64 mi, .int .i64 s, .int .i64 ms, .int .i64 o, .int .i64 p1, .int .i64 p2, .int .i64 p3, .int .i64 p4, .int .i64 p5, .int .i64 p6, .int .i64 n])).run Tryd.prog (w6.alloc (.cells #[.int .i64 0, .int .i64 0, .int .i64 0, .int .i64 0, .int .i64 0, .int .i64 0, .int .i64 0, .int .i64 0, .int .i64 0, .int .i64 0, .int .i64 0, .int .i64 0, .int .i64 0, .int .i64 0, .int .i64 0] 53)) = .ok () W ∧ Hid (Blk W (w1.heap.size) 53 #[.int .i64 y, .int .i64 mo, .int .i64 d, .int .i64 h, .int .i64 mi, .int .i64 s, .int .i64 ms, .int .i64 o, .int .i64 p1, .int .i64 p2, .int .i64 p3, .int .i64 p4, .int .i64 p5, .int .i64 p6, .int .i64 n]) ∧ Hid (Blk W (w4.heap.size) 53 #[.int .i64 y, .int .i64 mo, .int .i64 d, .int .i64 h, .int .i64 mi, .int .i64 s, .int .i64 ms, .int .i64 o, .int .i64 0, .int .i64 0, .int .i64 0, .int .i64 0, .int .i64 0, .int .i64 0, .int .i64 n]) ∧ Hid (Blk W (w4.heap.size + 1) 53 #[.int .i64 y, .int .i64 mo, .int .i64 d, .int .i64 h, .int .i64 mi, .int .i64 s, .int .i64 ms, .int .i64 o, .int .i64 p1, .int .i64 p2, .int .i64 p3, .int .i64 p4, .int .i64 p5, .int .i64 p6, .int .i64 n]) ∧ Hid (Below w.heap.size w W) := ⟨_, storeR_rq ⟨_, rfl, Blk.newE hs6⟩ _ _ _ _ _ _ _ _ _ _ _ _ _ _ _, hide ((A6.out.alloc (.cells #[.int .i64 0, .int .i64 0, .int .i64 0, .int .i64 0, .int .i64 0, .int .i64 0, .int .i64 0, .int .i64 0, .int .i64 0, .int .i64 0, .int .i64 0, .int .i64 0, .int .i64 0, .int .i64 0, .int .i64 0] 53)).setRow_far (by omega) _), hide ((X6.out.alloc (.cells #[.int .i64 0, .int .i64 0, .int .i64 0, .int .i64 0, .int .i64 0, .int .i64 0, .int .i64 0, .int .i64 0, .int .i64 0, .int .i64 0, .int .i64 0, .int .i64 0, .int .i64 0, .int .i64 0, .int .i64 0] 53)).setRow_far (by omega) _), hide ((Blk.newE (t := 53) (cs := #[.int .i64 0, .int .i64 0, .int .i64 0, .int .i64 0, .int .i64 0, .int .i64 0, .int .i64 0, .int .i64 0, .int .i64 0, .int .i64 0, .int .i64 0, .int .i64 0, .int .i64 0, .int .i64 0, .int .i64 0]) hs6).setRow _), hide (brow (bal B6.out (.cells #[.int .i64 0, .int .i64 0, .int .i64 0, .int .i64 0, .int .i64 0, .int .i64 0, .int .i64 0, .int .i64 0, .int .i64 0, .int .i64 0, .int .i64 0, .int .i64 0, .int .i64 0, .int .i64 0, .int .i64 0] 53)) (by omega) _)⟩
      have c14 := Y7.out.cell 14
      have f14 := Y7.out.frozen 14
      simp at c14
      have X8 := hide (X7.out.far (p := ⟨w4.heap.size + 1, 14, none⟩) (show w4.heap.size ≠ w4.heap.size + 1 by omega) (.int .i64 100))
      have Y8 := Y7.out.set_ 14 (.int .i64 100)
      simp only [List.setIfInBounds_toArray, List.set_cons_zero, List.set_cons_succ] at Y8
      replace Y8 := hide Y8
      have B8 := hide (bset B7.out (p := ⟨w4.heap.size + 1, 14, none⟩) (show w.heap.size ≤ w4.heap.size + 1 by omega) (.int .i64 100))
      have hld8 := loadR_row X8.out
      clear A4 B4 A5 X5 B5 hs5 A6 X6 B6 A7 X7 Y7 B7
      go_wp2_with fail
      refine (impl_rv y mo d h mi s ms o 0 0 0 0 0 0 n _ (hM.below B8.out)).mono ?_
      rintro e w9 ⟨rfl, hb9⟩
      rw [rpB_none]
      have Y9 := Y8.out.below hb9 Y8.out.lt
      have B9 := hide (bto B8.out hb9)
      have hld9 := loadR_row Y9
      clear hld4 st5 st6 hld6 st7 c14 f14 X8 Y8 B8 hld8 hb9 Y9
      go_wp2_with fail
      refine (impl_rv y mo d h mi s ms o p1 p2 p3 p4 p5 p6 100 _ (hM.below B9.out)).mono ?_
      rintro e w10 ⟨rfl, hb10⟩
      rw [rpB_many]
      have B10 := hide (bto B9.out hb10)
      clear hld9 hb10
      go_wp2_with fail
      go_ret
      exact ⟨rfl, B10.out⟩
end
end Go.Proofs.YtlhobebaobaoiaaDoor
