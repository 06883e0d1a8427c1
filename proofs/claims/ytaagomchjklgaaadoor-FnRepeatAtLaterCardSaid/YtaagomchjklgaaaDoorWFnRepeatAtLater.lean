/- The law FnRepeatAtLater returns true. -/
import Derived.Test.YtaagomchjklgaaaDoorDrA
import Derived.Test.YtaagomchjklgaaaDoorRa3
import Derived.Test.YtaagomchjklgaaaDoorRtPl2
import Derived.Test.YtaagomchjklgaaaDoorShellD
namespace Go.Proofs.YtaagomchjklgaaaDoor
open Go.RowKit

section
attribute [local go_sem ↓] storeR_eq loadR_eq
set_option maxRecDepth 100000 in
set_option maxHeartbeats 4000000 in
theorem w_FnRepeatAtLater (w : World) (hM : MD w) (A : Option Addr) (len cap : Nat) (hs : Src w.heap.size w A len) (hc : len ≤ cap) (hm : cap ≤ maxLen) :
    Calls Tryd.prog 7 #[.slice A len cap] w fun e w' => e = .returned (.bool true) ∧ Below w.heap.size w w' := by
  have hm' := hm
  unfold maxLen at hm'
  by_cases hbig : 1048576 < len
  · go_enter Tryd.func7, Tryd.ntmps7
    go_wp2_with fail
    go_ret
    exact ⟨rfl, Below.refl _ _⟩
  · go_enter Tryd.func7, Tryd.ntmps7
    go_wp2_with fail
    refine (drawRA hs (Nat.le_refl _) hc hm).mono ?_
    rintro e w1 ⟨y, mo, d, h, mi, s, ms, o, p1, p2, p3, p4, p5, p6, n, k, rfl, hb1⟩
    have hsz1 := hb1.size
    obtain ⟨w2, st2, A2, B2⟩ : ∃ W, (storeR (.pointer (some ⟨w1.heap.size, 0, none⟩)) (.agg #[.int .i64 y, .int .i64 mo, .int .i64 d, .int .i64 h, .int .i64 mi, .int .i64 s, .int .i64 ms, .int .i64 o, .int .i64 p1, .int .i64 p2, .int .i64 p3, .int .i64 p4, .int .i64 p5, .int .i64 p6, .int .i64 n])).run Tryd.prog (w1.alloc (.cells #[.int .i64 0, .int .i64 0, .int .i64 0, .int .i64 0, .int .i64 0, .int .i64 0, .int .i64 0, .int .i64 0, .int .i64 0, .int .i64 0, .int .i64 0, .int .i64 0, .int .i64 0, .int .i64 0, .int .i64 0] 40)) = .ok () W ∧ Hid (Blk W w1.heap.size 40 #[.int .i64 y, .int .i64 mo, .int .i64 d, .int .i64 h, .int .i64 mi, .int .i64 s, .int .i64 ms, .int .i64 o, .int .i64 p1, .int .i64 p2, .int .i64 p3, .int .i64 p4, .int .i64 p5, .int .i64 p6, .int .i64 n]) ∧ Hid (Below w.heap.size w W) :=
      ⟨_, storeR_rq ⟨_, rfl, Blk.new w1 40 #[.int .i64 0, .int .i64 0, .int .i64 0, .int .i64 0, .int .i64 0, .int .i64 0, .int .i64 0, .int .i64 0, .int .i64 0, .int .i64 0, .int .i64 0, .int .i64 0, .int .i64 0, .int .i64 0, .int .i64 0]⟩ _ _ _ _ _ _ _ _ _ _ _ _ _ _ _, hide ((Blk.new w1 40 #[.int .i64 0, .int .i64 0, .int .i64 0, .int .i64 0, .int .i64 0, .int .i64 0, .int .i64 0, .int .i64 0, .int .i64 0, .int .i64 0, .int .i64 0, .int .i64 0, .int .i64 0, .int .i64 0, .int .i64 0]).setRow _), hide (brow (bal hb1 (.cells #[.int .i64 0, .int .i64 0, .int .i64 0, .int .i64 0, .int .i64 0, .int .i64 0, .int .i64 0, .int .i64 0, .int .i64 0, .int .i64 0, .int .i64 0, .int .i64 0, .int .i64 0, .int .i64 0, .int .i64 0] 40)) hsz1 _)⟩
    have hld2 := loadR_row A2.out
    obtain ⟨⟨⟨Y, M, D, H, I, S, L, O⟩, okb⟩, hrr⟩ : ∃ r, raP ⟨y, mo, d, h, mi, s, ms, o⟩ p1 p2 p3 p4 p5 p6 n k = r := ⟨_, rfl⟩
    have hSr : ∀ W, Calls Tryd.prog 14 #[.agg #[.int .i64 y, .int .i64 mo, .int .i64 d, .int .i64 h, .int .i64 mi, .int .i64 s, .int .i64 ms, .int .i64 o, .int .i64 p1, .int .i64 p2, .int .i64 p3, .int .i64 p4, .int .i64 p5, .int .i64 p6, .int .i64 n], .int .i64 k] W fun e w' => e = .returned (.tuple #[.agg #[.int .i64 Y, .int .i64 M, .int .i64 D, .int .i64 H, .int .i64 I, .int .i64 S, .int .i64 L, .int .i64 O], .bool okb]) ∧ Below W.heap.size W w' := fun W => by
      have q := spec_ra y mo d h mi s ms o p1 p2 p3 p4 p5 p6 n k W
      rw [hrr] at q
      exact q
    have hIr : ∀ W, MD W → Calls Tryd.prog 15 #[.agg #[.int .i64 y, .int .i64 mo, .int .i64 d, .int .i64 h, .int .i64 mi, .int .i64 s, .int .i64 ms, .int .i64 o, .int .i64 p1, .int .i64 p2, .int .i64 p3, .int .i64 p4, .int .i64 p5, .int .i64 p6, .int .i64 n], .int .i64 k] W fun e w' => e = .returned (.tuple #[.agg #[.int .i64 Y, .int .i64 M, .int .i64 D, .int .i64 H, .int .i64 I, .int .i64 S, .int .i64 L, .int .i64 O], .bool okb]) ∧ Below W.heap.size W w' := fun W hW => by
      have q := impl_ra y mo d h mi s ms o p1 p2 p3 p4 p5 p6 n k W hW
      rw [hrr] at q
      exact q
    have HRR := hide hrr
    have g0 : (okb != okb) = false := by simp
    have g1 : (okb == okb) = true := by simp
    clear hrr hb1
    go_wp2_with fail
    refine (hIr _ (hM.below B2.out)).mono ?_
    rintro e w3 ⟨rfl, hb3⟩
    have A3 := hide ((A2.out.below hb3 A2.out.lt).alloc (.cells #[.int .i64 Y, .int .i64 M, .int .i64 D, .int .i64 H, .int .i64 I, .int .i64 S, .int .i64 L, .int .i64 O] 37))
    have hl3 := (A2.out.below hb3 A2.out.lt).lt
    have S3 := hide (Blk.new w3 37 #[.int .i64 Y, .int .i64 M, .int .i64 D, .int .i64 H, .int .i64 I, .int .i64 S, .int .i64 L, .int .i64 O])
    have B3 := hide (bal (bto B2.out hb3) (.cells #[.int .i64 Y, .int .i64 M, .int .i64 D, .int .i64 H, .int .i64 I, .int .i64 S, .int .i64 L, .int .i64 O] 37))
    clear st2 hld2 A2 B2 hb3 hIr
    have hld3 := loadR_row A3.out
    go_wp2_with fail
    refine (hSr _).mono ?_
    rintro e w4 ⟨rfl, hb4⟩
    have A4 := hide ((A3.out.below hb4 A3.out.lt).alloc (.cells #[.int .i64 Y, .int .i64 M, .int .i64 D, .int .i64 H, .int .i64 I, .int .i64 S, .int .i64 L, .int .i64 O] 37))
    have S4 := hide ((S3.out.below hb4 S3.out.lt).alloc (.cells #[.int .i64 Y, .int .i64 M, .int .i64 D, .int .i64 H, .int .i64 I, .int .i64 S, .int .i64 L, .int .i64 O] 37))
    have T4 := hide (Blk.new w4 37 #[.int .i64 Y, .int .i64 M, .int .i64 D, .int .i64 H, .int .i64 I, .int .i64 S, .int .i64 L, .int .i64 O])
    have hl4 := (S3.out.below hb4 S3.out.lt).lt
    have hla4 := (A3.out.below hb4 A3.out.lt).lt
    have B4 := hide (bal (bto B3.out hb4) (.cells #[.int .i64 Y, .int .i64 M, .int .i64 D, .int .i64 H, .int .i64 I, .int .i64 S, .int .i64 L, .int .i64 O] 37))
    clear hld3 A3 S3 B3 hb4 hSr
    have hld4 := loadR_row A4.out
    have c0 : (w4.alloc (.cells #[.int .i64 Y, .int .i64 M, .int .i64 D, .int .i64 H, .int .i64 I, .int .i64 S, .int .i64 L, .int .i64 O] 37)).cell? ⟨w3.heap.size, 0, none⟩ = some (.int .i64 Y) := S4.out.cell 0
    have c1 : (w4.alloc (.cells #[.int .i64 Y, .int .i64 M, .int .i64 D, .int .i64 H, .int .i64 I, .int .i64 S, .int .i64 L, .int .i64 O] 37)).cell? ⟨w3.heap.size, 1, none⟩ = some (.int .i64 M) := S4.out.cell 1
    have c2 : (w4.alloc (.cells #[.int .i64 Y, .int .i64 M, .int .i64 D, .int .i64 H, .int .i64 I, .int .i64 S, .int .i64 L, .int .i64 O] 37)).cell? ⟨w3.heap.size, 2, none⟩ = some (.int .i64 D) := S4.out.cell 2
    have c3 : (w4.alloc (.cells #[.int .i64 Y, .int .i64 M, .int .i64 D, .int .i64 H, .int .i64 I, .int .i64 S, .int .i64 L, .int .i64 O] 37)).cell? ⟨w3.heap.size, 3, none⟩ = some (.int .i64 H) := S4.out.cell 3
    have c4 : (w4.alloc (.cells #[.int .i64 Y, .int .i64 M, .int .i64 D, .int .i64 H, .int .i64 I, .int .i64 S, .int .i64 L, .int .i64 O] 37)).cell? ⟨w3.heap.size, 4, none⟩ = some (.int .i64 I) := S4.out.cell 4
    have c5 : (w4.alloc (.cells #[.int .i64 Y, .int .i64 M, .int .i64 D, .int .i64 H, .int .i64 I, .int .i64 S, .int .i64 L, .int .i64 O] 37)).cell? ⟨w3.heap.size, 5, none⟩ = some (.int .i64 S) := S4.out.cell 5
    have c6 : (w4.alloc (.cells #[.int .i64 Y, .int .i64 M, .int .i64 D, .int .i64 H, .int .i64 I, .int .i64 S, .int .i64 L, .int .i64 O] 37)).cell? ⟨w3.heap.size, 6, none⟩ = some (.int .i64 L) := S4.out.cell 6
    have c7 : (w4.alloc (.cells #[.int .i64 Y, .int .i64 M, .int .i64 D, .int .i64 H, .int .i64 I, .int .i64 S, .int .i64 L, .int .i64 O] 37)).cell? ⟨w3.heap.size, 7, none⟩ = some (.int .i64 O) := S4.out.cell 7
    cases okb with
    | false =>
      go_wp2_with fail
      go_ret
      exact ⟨rfl, B4.out⟩
    | true =>
      obtain ⟨hv, hk0, hkn⟩ := raP_in HRR.out
      have ht := (rpB_iff.1 hv).2.2.2.2
      by_cases hk : k = 0
      · subst hk
        go_wp2_with fail
        go_ret
        exact ⟨rfl, B4.out⟩
      have hkb : (k == 0) = false := beq_eq_false_iff_ne.2 hk
      obtain ⟨z, hz, hzo, hzi⟩ := raP_down HRR.out (m := k - 1) (by omega)
      have hoo := (raP_ok HRR.out).1
      obtain ⟨z1, z2, z3, z4, z5, z6, z7, z8⟩ := z
      have hI0 : ∀ W, MD W → Calls Tryd.prog 15 #[.agg #[.int .i64 y, .int .i64 mo, .int .i64 d, .int .i64 h, .int .i64 mi, .int .i64 s, .int .i64 ms, .int .i64 o, .int .i64 p1, .int .i64 p2, .int .i64 p3, .int .i64 p4, .int .i64 p5, .int .i64 p6, .int .i64 n], .int .i64 (k - 1)] W fun e w' => e = .returned (.tuple #[.agg #[.int .i64 z1, .int .i64 z2, .int .i64 z3, .int .i64 z4, .int .i64 z5, .int .i64 z6, .int .i64 z7, .int .i64 z8], .bool true]) ∧ Below W.heap.size W w' := fun W hW => by
        have q := impl_ra y mo d h mi s ms o p1 p2 p3 p4 p5 p6 n (k - 1) W hW
        rw [hz] at q
        exact q
      have hL : ∀ W, MD W → Calls Tryd.prog 19 #[.agg #[.int .i64 Y, .int .i64 M, .int .i64 D, .int .i64 H, .int .i64 I, .int .i64 S, .int .i64 L, .int .i64 O], .agg #[.int .i64 z1, .int .i64 z2, .int .i64 z3, .int .i64 z4, .int .i64 z5, .int .i64 z6, .int .i64 z7, .int .i64 z8]] W fun e w' => e = .returned (.bool false) ∧ Below W.heap.size W w' := fun W hW => by
        have q := less_any ⟨Y, M, D, H, I, S, L, O⟩ ⟨z1, z2, z3, z4, z5, z6, z7, z8⟩ W hW hoo hzo
        rw [decide_eq_false (by omega)] at q
        exact q
      clear hz HRR hzo hzi hoo hv
      go_wp2_with fail
      refine (hI0 _ (hM.below B4.out)).mono ?_
      rintro e w5 ⟨rfl, hb5⟩
      have S5 := hide ((S4.out.below hb5 S4.out.lt).alloc (.cells #[.int .i64 z1, .int .i64 z2, .int .i64 z3, .int .i64 z4, .int .i64 z5, .int .i64 z6, .int .i64 z7, .int .i64 z8] 37))
      have hl5 := (S4.out.below hb5 S4.out.lt).lt
      have B5 := hide (bal (bto B4.out hb5) (.cells #[.int .i64 z1, .int .i64 z2, .int .i64 z3, .int .i64 z4, .int .i64 z5, .int .i64 z6, .int .i64 z7, .int .i64 z8] 37))
      have hM5 := hM.below B5.out
      clear c0 c1 c2 c3 c4 c5 c6 c7 A4 S4 T4 B4 hb5 hld4 hI0
      have d0 := S5.out.cell 0
      have d1 := S5.out.cell 1
      have d2 := S5.out.cell 2
      have d3 := S5.out.cell 3
      have d4 := S5.out.cell 4
      have d5 := S5.out.cell 5
      have d6 := S5.out.cell 6
      have d7 := S5.out.cell 7
      simp at d0 d1 d2 d3 d4 d5 d6 d7
      go_wp2_with fail
      refine (hL _ hM5).mono ?_
      rintro e w6 ⟨rfl, hb6⟩
      go_wp2_with fail
      go_ret
      exact ⟨rfl, bto B5.out hb6⟩
end
end Go.Proofs.YtaagomchjklgaaaDoor
