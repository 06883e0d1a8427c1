/- Draws: a repeat. -/
import Derived.Test.YtinemkjoohgmjaaDoorDrP
import Derived.Test.YtinemkjoohgmjaaDoorRp2
namespace Go.Proofs.YtinemkjoohgmjaaDoor
open Go.RowKit

theorem loadR_row {w : World} {g : Nat} {y mo d h mi s ms o p1 p2 p3 p4 p5 p6 n : Int} (hb : Blk w g 46 #[.int .i64 y, .int .i64 mo, .int .i64 d, .int .i64 h, .int .i64 mi, .int .i64 s, .int .i64 ms, .int .i64 o, .int .i64 p1, .int .i64 p2, .int .i64 p3, .int .i64 p4, .int .i64 p5, .int .i64 p6, .int .i64 n]) : (loadR (.pointer (some ⟨g, 0, none⟩))).run Tryd.prog w = .ok (.agg #[.int .i64 y, .int .i64 mo, .int .i64 d, .int .i64 h, .int .i64 mi, .int .i64 s, .int .i64 ms, .int .i64 o, .int .i64 p1, .int .i64 p2, .int .i64 p3, .int .i64 p4, .int .i64 p5, .int .i64 p6, .int .i64 n]) w :=
  run_loadAt_mid _ _ 0 46 [.int .i64 y, .int .i64 mo, .int .i64 d, .int .i64 h, .int .i64 mi, .int .i64 s, .int .i64 ms, .int .i64 o, .int .i64 p1, .int .i64 p2, .int .i64 p3, .int .i64 p4, .int .i64 p5, .int .i64 p6, .int .i64 n] _ (fun j v hv => by rw [Nat.zero_add, hb.cell]; simpa using hv) Tryd.underlying46 rfl repI
section
variable {w : World} {k : Nat} (p1 p2 p3 p4 p5 p6 : Int)
theorem putD_far {g : Nat} {t : TypeId} {c : Array Value} (h : Blk w g t c) (nn : g ≠ k) : Blk (putD w k p1 p2 p3 p4 p5 p6) g t c := by
  unfold putD
  exact (((((h.far (p := ⟨k, 8, none⟩) nn (.int .i64 p1)).far (p := ⟨k, 9, none⟩) nn (.int .i64 p2)).far (p := ⟨k, 10, none⟩) nn (.int .i64 p3)).far (p := ⟨k, 11, none⟩) nn (.int .i64 p4)).far (p := ⟨k, 12, none⟩) nn (.int .i64 p5)).far (p := ⟨k, 13, none⟩) nn (.int .i64 p6)
theorem putD_rd {B g m : Nat} (h : Rd B w g m) (nn : g < k) : Rd B (putD w k p1 p2 p3 p4 p5 p6) g m := by
  unfold putD
  exact (((((h.setCell (a := ⟨k, 8, none⟩) nn (.int .i64 p1)).setCell (a := ⟨k, 9, none⟩) nn (.int .i64 p2)).setCell (a := ⟨k, 10, none⟩) nn (.int .i64 p3)).setCell (a := ⟨k, 11, none⟩) nn (.int .i64 p4)).setCell (a := ⟨k, 12, none⟩) nn (.int .i64 p5)).setCell (a := ⟨k, 13, none⟩) nn (.int .i64 p6)
theorem putD_only {a : World} {row : Option Nat} (h : a.grownBy w row) (nn : a.heap.size ≤ k) : a.grownBy (putD w k p1 p2 p3 p4 p5 p6) row := by
  unfold putD
  exact only_setCell (p := ⟨k, 13, none⟩) (only_setCell (p := ⟨k, 12, none⟩) (only_setCell (p := ⟨k, 11, none⟩) (only_setCell (p := ⟨k, 10, none⟩) (only_setCell (p := ⟨k, 9, none⟩) (only_setCell (p := ⟨k, 8, none⟩) h (.inr nn) (.int .i64 p1)) (.inr nn) (.int .i64 p2)) (.inr nn) (.int .i64 p3)) (.inr nn) (.int .i64 p4)) (.inr nn) (.int .i64 p5)) (.inr nn) (.int .i64 p6)
theorem putD_own {t : TypeId} {y mo d h mi s ms o q1 q2 q3 q4 q5 q6 n : Int} (hb : Blk w k t #[.int .i64 y, .int .i64 mo, .int .i64 d, .int .i64 h, .int .i64 mi, .int .i64 s, .int .i64 ms, .int .i64 o, .int .i64 q1, .int .i64 q2, .int .i64 q3, .int .i64 q4, .int .i64 q5, .int .i64 q6, .int .i64 n]) : Blk (putD w k p1 p2 p3 p4 p5 p6) k t #[.int .i64 y, .int .i64 mo, .int .i64 d, .int .i64 h, .int .i64 mi, .int .i64 s, .int .i64 ms, .int .i64 o, .int .i64 p1, .int .i64 p2, .int .i64 p3, .int .i64 p4, .int .i64 p5, .int .i64 p6, .int .i64 n] := by
  unfold putD
  have q := (((((hb.set_ 8 (.int .i64 p1)).set_ 9 (.int .i64 p2)).set_ 10 (.int .i64 p3)).set_ 11 (.int .i64 p4)).set_ 12 (.int .i64 p5)).set_ 13 (.int .i64 p6)
  simp only [List.setIfInBounds_toArray, List.set_cons_zero, List.set_cons_succ] at q
  exact q
end
/-- A repeat that a reader drew. -/
def DrawnR (B g m k : Nat) (w : World) (e : Ending) (w' : World) : Prop :=
  ∃ y mo d h mi s ms o p1 p2 p3 p4 p5 p6 n : Int, e = .returned (.agg #[.int .i64 y, .int .i64 mo, .int .i64 d, .int .i64 h, .int .i64 mi, .int .i64 s, .int .i64 ms, .int .i64 o, .int .i64 p1, .int .i64 p2, .int .i64 p3, .int .i64 p4, .int .i64 p5, .int .i64 p6, .int .i64 n]) ∧ (-1 ≤ n ∧ n ≤ 100) ∧ Rd B w' g (m + k) ∧ w.grownBy w' (some g)
section
attribute [local go_sem ↓] storeD_eq storeR_eq loadR_eq
set_option maxRecDepth 100000 in
set_option maxHeartbeats 4000000 in
theorem l92Repeat_any {B g m : Nat} {w : World} (hr : Rd B w g m) (hm : m ≤ 50000) :
    Calls Tryd.prog 32 #[.pointer (some ⟨g, 0, none⟩)] w (DrawnR B g m 60 w) := by
  have hgl := hr.lt
  have Rn := hide (Blk.new w 46 #[.int .i64 0, .int .i64 0, .int .i64 0, .int .i64 0, .int .i64 0, .int .i64 0, .int .i64 0, .int .i64 0, .int .i64 0, .int .i64 0, .int .i64 0, .int .i64 0, .int .i64 0, .int .i64 0, .int .i64 0])
  have G := hide (only_alloc (only_refl w (some g)) (.cells #[.int .i64 0, .int .i64 0, .int .i64 0, .int .i64 0, .int .i64 0, .int .i64 0, .int .i64 0, .int .i64 0, .int .i64 0, .int .i64 0, .int .i64 0, .int .i64 0, .int .i64 0, .int .i64 0, .int .i64 0] 46))
  have T := hide (hr.alloc (.cells #[.int .i64 0, .int .i64 0, .int .i64 0, .int .i64 0, .int .i64 0, .int .i64 0, .int .i64 0, .int .i64 0, .int .i64 0, .int .i64 0, .int .i64 0, .int .i64 0, .int .i64 0, .int .i64 0, .int .i64 0] 46))
  go_enter Tryd.func32, Tryd.ntmps32
  go_wp2_with fail
  refine (l91Sound_any T.out (by omega)).mono ?_
  rintro e w1 ⟨⟨y, mo, d, h, mi, s, ms, o⟩, _, rfl, hr1, hg1⟩
  simp only [S8.v]
  replace Rn := hide (Rn.out.grown' hg1 (by omega))
  replace G := hide (only_trans G.out hg1)
  replace T := hide hr1
  clear hr1 hg1
  go_wp2_with fail
  refine (l92Period_any T.out (by omega)).mono ?_
  rintro e w2 ⟨p1, p2, p3, p4, p5, p6, rfl, hr2, hg2⟩
  replace Rn := hide (Rn.out.grown' hg2 (by omega))
  replace G := hide (only_trans G.out hg2)
  replace T := hide hr2
  clear hr2 hg2
  go_wp2_with fail
  refine (pick_any T.out (by omega) (by omega)).mono ?_
  rintro e w3 ⟨n, a3, b3, rfl, hr3, hg3⟩
  have hlt3 := hr3.lt
  replace Rn := hide (Rn.out.grown' hg3 (by omega))
  have hrl3 := Rn.out.lt
  replace G := hide (only_trans G.out hg3)
  replace T := hide hr3
  clear hr3 hg3
  obtain ⟨w4, st4, XN, RN, TN, GN⟩ : ∃ W, (storeR (.pointer (some ⟨w3.heap.size, 0, none⟩)) (.agg #[.int .i64 y, .int .i64 mo, .int .i64 d, .int .i64 h, .int .i64 mi, .int .i64 s, .int .i64 ms, .int .i64 o, .int .i64 p1, .int .i64 p2, .int .i64 p3, .int .i64 p4, .int .i64 p5, .int .i64 p6, .int .i64 n])).run Tryd.prog (w3.alloc (.cells #[.int .i64 0, .int .i64 0, .int .i64 0, .int .i64 0, .int .i64 0, .int .i64 0, .int .i64 0, .int .i64 0, .int .i64 0, .int .i64 0, .int .i64 0, .int .i64 0, .int .i64 0, .int .i64 0, .int .i64 0] 46)) = .ok () W ∧ Hid (Blk W (w3.heap.size) 46 #[.int .i64 y, .int .i64 mo, .int .i64 d, .int .i64 h, .int .i64 mi, .int .i64 s, .int .i64 ms, .int .i64 o, .int .i64 p1, .int .i64 p2, .int .i64 p3, .int .i64 p4, .int .i64 p5, .int .i64 p6, .int .i64 n]) ∧ Hid (Blk W (w.heap.size) 46 #[.int .i64 0, .int .i64 0, .int .i64 0, .int .i64 0, .int .i64 0, .int .i64 0, .int .i64 0, .int .i64 0, .int .i64 0, .int .i64 0, .int .i64 0, .int .i64 0, .int .i64 0, .int .i64 0, .int .i64 0]) ∧ Hid (Rd B W g (m + 40 + 12 + 1)) ∧ Hid (w.grownBy W (some g)) := ⟨_, storeR_rq ⟨_, rfl, Blk.new w3 46 #[.int .i64 0, .int .i64 0, .int .i64 0, .int .i64 0, .int .i64 0, .int .i64 0, .int .i64 0, .int .i64 0, .int .i64 0, .int .i64 0, .int .i64 0, .int .i64 0, .int .i64 0, .int .i64 0, .int .i64 0]⟩ _ _ _ _ _ _ _ _ _ _ _ _ _ _ _, hide ((Blk.new w3 46 #[.int .i64 0, .int .i64 0, .int .i64 0, .int .i64 0, .int .i64 0, .int .i64 0, .int .i64 0, .int .i64 0, .int .i64 0, .int .i64 0, .int .i64 0, .int .i64 0, .int .i64 0, .int .i64 0, .int .i64 0]).setRow _), hide ((Rn.out.alloc (.cells #[.int .i64 0, .int .i64 0, .int .i64 0, .int .i64 0, .int .i64 0, .int .i64 0, .int .i64 0, .int .i64 0, .int .i64 0, .int .i64 0, .int .i64 0, .int .i64 0, .int .i64 0, .int .i64 0, .int .i64 0] 46)).setRow_far (by omega) _), hide ((T.out.alloc (.cells #[.int .i64 0, .int .i64 0, .int .i64 0, .int .i64 0, .int .i64 0, .int .i64 0, .int .i64 0, .int .i64 0, .int .i64 0, .int .i64 0, .int .i64 0, .int .i64 0, .int .i64 0, .int .i64 0, .int .i64 0] 46)).setRow (by omega) _), hide (Blk.onlyRow (only_alloc G.out (.cells #[.int .i64 0, .int .i64 0, .int .i64 0, .int .i64 0, .int .i64 0, .int .i64 0, .int .i64 0, .int .i64 0, .int .i64 0, .int .i64 0, .int .i64 0, .int .i64 0, .int .i64 0, .int .i64 0, .int .i64 0] 46)) (by omega) _)⟩
  clear Rn T G
  have Xn := XN
  have Rn := RN
  have T := TN
  have G := GN
  clear XN RN TN GN
  have hld := loadR_row Xn.out
  go_wp2_with fail
  refine (spec_rv y mo d h mi s ms o p1 p2 p3 p4 p5 p6 n _).mono ?_
  rintro e w5 ⟨rfl, hb5⟩
  generalize rpB ⟨y, mo, d, h, mi, s, ms, o⟩ p1 p2 p3 p4 p5 p6 n = b
  have hxl := Xn.out.lt
  replace Xn := hide (Xn.out.below hb5 Xn.out.lt)
  replace Rn := hide (Rn.out.below hb5 Rn.out.lt)
  have htl := T.out.lt
  replace T := hide (T.out.below hb5 htl)
  replace G := hide (only_below G.out hb5)
  clear hb5 hld st4 hxl htl
  cases b with
  | true =>
    go_wp2_with fail
    refine (pick_any T.out (by omega) (by omega)).mono ?_
    rintro e w6 ⟨v6, a6, b6, rfl, hr6, hg6⟩
    replace Xn := hide (Xn.out.grown' hg6 (by omega))
    replace Rn := hide (Rn.out.grown' hg6 (by omega))
    replace G := hide (only_trans G.out hg6)
    replace T := hide hr6
    clear hr6 hg6
    by_cases z6 : v6 = 0
    · subst z6
      go_wp2_with fail
      have hlt6 := T.out.lt
      replace Xn := hide (Xn.out.alloc (.cells #[.int .i64 (-1), .int .i64 99, .int .i64 100] 3))
      replace Rn := hide (Rn.out.alloc (.cells #[.int .i64 (-1), .int .i64 99, .int .i64 100] 3))
      replace T := hide (T.out.alloc (.cells #[.int .i64 (-1), .int .i64 99, .int .i64 100] 3))
      replace G := hide (only_alloc G.out (.cells #[.int .i64 (-1), .int .i64 99, .int .i64 100] 3))
      have Ln := Blk.new w6 3 #[Value.int .i64 (-1), .int .i64 99, .int .i64 100]
      refine (pick_any T.out (by omega) (by omega)).mono ?_
      rintro e w7 ⟨v7, a7, b7, rfl, hr7, hg7⟩
      replace Xn := hide (Xn.out.grown' hg7 (by omega))
      replace Rn := hide (Rn.out.grown' hg7 (by omega))
      replace G := hide (only_trans G.out hg7)
      replace T := hide hr7
      replace Ln := Ln.grown' hg7 (by omega)
      clear hr7 hg7
      have l0 := Ln.cell 0
      have l1 := Ln.cell 1
      have l2 := Ln.cell 2
      simp at l0 l1 l2
      have c14 := Xn.out.cell 14
      have f14 := Xn.out.frozen 14
      simp at c14
      clear Ln
      have hv : v7 = 0 ∨ v7 = 1 ∨ v7 = 2 := by omega
      rcases hv with rfl | rfl | rfl
      · skip
        have PP := Xn.out.set_ 14 (.int .i64 (-1))
        simp only [List.setIfInBounds_toArray, List.set_cons_zero, List.set_cons_succ] at PP
        have hld := loadR_row (PP)
        obtain ⟨We, ste, ke, Te, Ge⟩ : ∃ W, (storeR (.pointer (some ⟨w.heap.size, 0, none⟩)) (.agg #[.int .i64 y, .int .i64 mo, .int .i64 d, .int .i64 h, .int .i64 mi, .int .i64 s, .int .i64 ms, .int .i64 o, .int .i64 p1, .int .i64 p2, .int .i64 p3, .int .i64 p4, .int .i64 p5, .int .i64 p6, .int .i64 (-1)])).run Tryd.prog (w7.setCell ⟨w3.heap.size, 14, none⟩ (.int .i64 (-1))) = .ok () W ∧ (∀ j, W.cell? ⟨w.heap.size, j, none⟩ = (#[.int .i64 y, .int .i64 mo, .int .i64 d, .int .i64 h, .int .i64 mi, .int .i64 s, .int .i64 ms, .int .i64 o, .int .i64 p1, .int .i64 p2, .int .i64 p3, .int .i64 p4, .int .i64 p5, .int .i64 p6, .int .i64 (-1)] : Array Value)[j]?) ∧ Hid (Rd B W g (m + 60)) ∧ Hid (w.grownBy W (some g)) := ⟨_, storeR_rq ⟨_, rfl, Rn.out.far (p := ⟨w3.heap.size, 14, none⟩) (show w.heap.size ≠ w3.heap.size by omega) (.int .i64 (-1))⟩ _ _ _ _ _ _ _ _ _ _ _ _ _ _ _, fun j => cell_setRow_same _ _ j _ _ _ (0, 0) (Rn.out.far (p := ⟨w3.heap.size, 14, none⟩) (show w.heap.size ≠ w3.heap.size by omega) (.int .i64 (-1))), hide (Rd.setRow ((Rd.setCell (a := ⟨w3.heap.size, 14, none⟩) T.out (show g < w3.heap.size by omega) (.int .i64 (-1))).more (by omega)) (by omega) _), hide (Blk.onlyRow (only_setCell (p := ⟨w3.heap.size, 14, none⟩) G.out (.inr (show w.heap.size ≤ w3.heap.size by omega)) (.int .i64 (-1))) (by omega) _)⟩
        clear T G Xn Rn
        as_aux_lemma =>
          go_wp2_with fail
          refine bodyPost_ret (by simp [results, Tryd.results32, go_sem, ke]; try rfl) rfl ?_
          exact ⟨_, _, _, _, _, _, _, _, _, _, _, _, _, _, _, rfl, by omega, Te.out, Ge.out⟩
      · skip
        have PP := Xn.out.set_ 14 (.int .i64 99)
        simp only [List.setIfInBounds_toArray, List.set_cons_zero, List.set_cons_succ] at PP
        have hld := loadR_row (PP)
        obtain ⟨We, ste, ke, Te, Ge⟩ : ∃ W, (storeR (.pointer (some ⟨w.heap.size, 0, none⟩)) (.agg #[.int .i64 y, .int .i64 mo, .int .i64 d, .int .i64 h, .int .i64 mi, .int .i64 s, .int .i64 ms, .int .i64 o, .int .i64 p1, .int .i64 p2, .int .i64 p3, .int .i64 p4, .int .i64 p5, .int .i64 p6, .int .i64 99])).run Tryd.prog (w7.setCell ⟨w3.heap.size, 14, none⟩ (.int .i64 99)) = .ok () W ∧ (∀ j, W.cell? ⟨w.heap.size, j, none⟩ = (#[.int .i64 y, .int .i64 mo, .int .i64 d, .int .i64 h, .int .i64 mi, .int .i64 s, .int .i64 ms, .int .i64 o, .int .i64 p1, .int .i64 p2, .int .i64 p3, .int .i64 p4, .int .i64 p5, .int .i64 p6, .int .i64 99] : Array Value)[j]?) ∧ Hid (Rd B W g (m + 60)) ∧ Hid (w.grownBy W (some g)) := ⟨_, storeR_rq ⟨_, rfl, Rn.out.far (p := ⟨w3.heap.size, 14, none⟩) (show w.heap.size ≠ w3.heap.size by omega) (.int .i64 99)⟩ _ _ _ _ _ _ _ _ _ _ _ _ _ _ _, fun j => cell_setRow_same _ _ j _ _ _ (0, 0) (Rn.out.far (p := ⟨w3.heap.size, 14, none⟩) (show w.heap.size ≠ w3.heap.size by omega) (.int .i64 99)), hide (Rd.setRow ((Rd.setCell (a := ⟨w3.heap.size, 14, none⟩) T.out (show g < w3.heap.size by omega) (.int .i64 99)).more (by omega)) (by omega) _), hide (Blk.onlyRow (only_setCell (p := ⟨w3.heap.size, 14, none⟩) G.out (.inr (show w.heap.size ≤ w3.heap.size by omega)) (.int .i64 99)) (by omega) _)⟩
        clear T G Xn Rn
        as_aux_lemma =>
          go_wp2_with fail
          refine bodyPost_ret (by simp [results, Tryd.results32, go_sem, ke]; try rfl) rfl ?_
          exact ⟨_, _, _, _, _, _, _, _, _, _, _, _, _, _, _, rfl, by omega, Te.out, Ge.out⟩
      · skip
        have PP := Xn.out.set_ 14 (.int .i64 100)
        simp only [List.setIfInBounds_toArray, List.set_cons_zero, List.set_cons_succ] at PP
        have hld := loadR_row (PP)
        obtain ⟨We, ste, ke, Te, Ge⟩ : ∃ W, (storeR (.pointer (some ⟨w.heap.size, 0, none⟩)) (.agg #[.int .i64 y, .int .i64 mo, .int .i64 d, .int .i64 h, .int .i64 mi, .int .i64 s, .int .i64 ms, .int .i64 o, .int .i64 p1, .int .i64 p2, .int .i64 p3, .int .i64 p4, .int .i64 p5, .int .i64 p6, .int .i64 100])).run Tryd.prog (w7.setCell ⟨w3.heap.size, 14, none⟩ (.int .i64 100)) = .ok () W ∧ (∀ j, W.cell? ⟨w.heap.size, j, none⟩ = (#[.int .i64 y, .int .i64 mo, .int .i64 d, .int .i64 h, .int .i64 mi, .int .i64 s, .int .i64 ms, .int .i64 o, .int .i64 p1, .int .i64 p2, .int .i64 p3, .int .i64 p4, .int .i64 p5, .int .i64 p6, .int .i64 100] : Array Value)[j]?) ∧ Hid (Rd B W g (m + 60)) ∧ Hid (w.grownBy W (some g)) := ⟨_, storeR_rq ⟨_, rfl, Rn.out.far (p := ⟨w3.heap.size, 14, none⟩) (show w.heap.size ≠ w3.heap.size by omega) (.int .i64 100)⟩ _ _ _ _ _ _ _ _ _ _ _ _ _ _ _, fun j => cell_setRow_same _ _ j _ _ _ (0, 0) (Rn.out.far (p := ⟨w3.heap.size, 14, none⟩) (show w.heap.size ≠ w3.heap.size by omega) (.int .i64 100)), hide (Rd.setRow ((Rd.setCell (a := ⟨w3.heap.size, 14, none⟩) T.out (show g < w3.heap.size by omega) (.int .i64 100)).more (by omega)) (by omega) _), hide (Blk.onlyRow (only_setCell (p := ⟨w3.heap.size, 14, none⟩) G.out (.inr (show w.heap.size ≤ w3.heap.size by omega)) (.int .i64 100)) (by omega) _)⟩
        clear T G Xn Rn
        as_aux_lemma =>
          go_wp2_with fail
          refine bodyPost_ret (by simp [results, Tryd.results32, go_sem, ke]; try rfl) rfl ?_
          exact ⟨_, _, _, _, _, _, _, _, _, _, _, _, _, _, _, rfl, by omega, Te.out, Ge.out⟩
    have y6 : (v6 == 0) = false := beq_eq_false_iff_ne.2 z6
    by_cases u6 : v6 = 1
    · subst u6
      have c3 := Xn.out.cell 3
      have f3 := Xn.out.frozen 3
      simp at c3
      have PP := Xn.out.set_ 3 (.int .i64 25)
      simp only [List.setIfInBounds_toArray, List.set_cons_zero, List.set_cons_succ] at PP
      have hld := loadR_row (PP)
      obtain ⟨We, ste, ke, Te, Ge⟩ : ∃ W, (storeR (.pointer (some ⟨w.heap.size, 0, none⟩)) (.agg #[.int .i64 y, .int .i64 mo, .int .i64 d, .int .i64 25, .int .i64 mi, .int .i64 s, .int .i64 ms, .int .i64 o, .int .i64 p1, .int .i64 p2, .int .i64 p3, .int .i64 p4, .int .i64 p5, .int .i64 p6, .int .i64 n])).run Tryd.prog (w6.setCell ⟨w3.heap.size, 3, none⟩ (.int .i64 25)) = .ok () W ∧ (∀ j, W.cell? ⟨w.heap.size, j, none⟩ = (#[.int .i64 y, .int .i64 mo, .int .i64 d, .int .i64 25, .int .i64 mi, .int .i64 s, .int .i64 ms, .int .i64 o, .int .i64 p1, .int .i64 p2, .int .i64 p3, .int .i64 p4, .int .i64 p5, .int .i64 p6, .int .i64 n] : Array Value)[j]?) ∧ Hid (Rd B W g (m + 60)) ∧ Hid (w.grownBy W (some g)) := ⟨_, storeR_rq ⟨_, rfl, Rn.out.far (p := ⟨w3.heap.size, 3, none⟩) (show w.heap.size ≠ w3.heap.size by omega) (.int .i64 25)⟩ _ _ _ _ _ _ _ _ _ _ _ _ _ _ _, fun j => cell_setRow_same _ _ j _ _ _ (0, 0) (Rn.out.far (p := ⟨w3.heap.size, 3, none⟩) (show w.heap.size ≠ w3.heap.size by omega) (.int .i64 25)), hide (Rd.setRow ((Rd.setCell (a := ⟨w3.heap.size, 3, none⟩) T.out (show g < w3.heap.size by omega) (.int .i64 25)).more (by omega)) (by omega) _), hide (Blk.onlyRow (only_setCell (p := ⟨w3.heap.size, 3, none⟩) G.out (.inr (show w.heap.size ≤ w3.heap.size by omega)) (.int .i64 25)) (by omega) _)⟩
      clear T G Xn Rn
      as_aux_lemma =>
        go_wp2_with fail
        refine bodyPost_ret (by simp [results, Tryd.results32, go_sem, ke]; try rfl) rfl ?_
        exact ⟨_, _, _, _, _, _, _, _, _, _, _, _, _, _, _, rfl, by omega, Te.out, Ge.out⟩
    · have x6 : (v6 == 1) = false := beq_eq_false_iff_ne.2 u6
      have hld := loadR_row (Xn.out)
      obtain ⟨We, ste, ke, Te, Ge⟩ : ∃ W, (storeR (.pointer (some ⟨w.heap.size, 0, none⟩)) (.agg #[.int .i64 y, .int .i64 mo, .int .i64 d, .int .i64 h, .int .i64 mi, .int .i64 s, .int .i64 ms, .int .i64 o, .int .i64 p1, .int .i64 p2, .int .i64 p3, .int .i64 p4, .int .i64 p5, .int .i64 p6, .int .i64 n])).run Tryd.prog (w6) = .ok () W ∧ (∀ j, W.cell? ⟨w.heap.size, j, none⟩ = (#[.int .i64 y, .int .i64 mo, .int .i64 d, .int .i64 h, .int .i64 mi, .int .i64 s, .int .i64 ms, .int .i64 o, .int .i64 p1, .int .i64 p2, .int .i64 p3, .int .i64 p4, .int .i64 p5, .int .i64 p6, .int .i64 n] : Array Value)[j]?) ∧ Hid (Rd B W g (m + 60)) ∧ Hid (w.grownBy W (some g)) := ⟨_, storeR_rq ⟨_, rfl, Rn.out⟩ _ _ _ _ _ _ _ _ _ _ _ _ _ _ _, fun j => cell_setRow_same _ _ j _ _ _ (0, 0) (Rn.out), hide (Rd.setRow ((T.out).more (by omega)) (by omega) _), hide (Blk.onlyRow (G.out) (by omega) _)⟩
      clear T G Xn Rn
      as_aux_lemma =>
        go_wp2_with fail
        refine bodyPost_ret (by simp [results, Tryd.results32, go_sem, ke]; try rfl) rfl ?_
        exact ⟨_, _, _, _, _, _, _, _, _, _, _, _, _, _, _, rfl, by omega, Te.out, Ge.out⟩
  | false =>
    go_wp2_with fail
    refine (pick_any T.out (by omega) (by omega)).mono ?_
    rintro e w6 ⟨v6, a6, b6, rfl, hr6, hg6⟩
    replace Xn := hide (Xn.out.grown' hg6 (by omega))
    replace Rn := hide (Rn.out.grown' hg6 (by omega))
    replace G := hide (only_trans G.out hg6)
    replace T := hide hr6
    clear hr6 hg6
    by_cases z6 : v6 = 0
    · subst z6
      go_wp2_with fail
      refine (pick_any T.out (by omega) (by omega)).mono ?_
      rintro e w7 ⟨v7, a7, b7, rfl, hr7, hg7⟩
      replace Xn := hide (Xn.out.grown' hg7 (by omega))
      replace Rn := hide (Rn.out.grown' hg7 (by omega))
      replace G := hide (only_trans G.out hg7)
      replace T := hide hr7
      clear hr7 hg7
      by_cases z7 : v7 = 0
      · subst z7
        go_wp2_with fail
        have hlt7 := T.out.lt
        replace Xn := hide (Xn.out.alloc (.cells #[.int .i64 (-1), .int .i64 99, .int .i64 100] 3))
        replace Rn := hide (Rn.out.alloc (.cells #[.int .i64 (-1), .int .i64 99, .int .i64 100] 3))
        replace T := hide (T.out.alloc (.cells #[.int .i64 (-1), .int .i64 99, .int .i64 100] 3))
        replace G := hide (only_alloc G.out (.cells #[.int .i64 (-1), .int .i64 99, .int .i64 100] 3))
        have Ln := Blk.new w7 3 #[Value.int .i64 (-1), .int .i64 99, .int .i64 100]
        refine (pick_any T.out (by omega) (by omega)).mono ?_
        rintro e w8 ⟨v8, a8, b8, rfl, hr8, hg8⟩
        replace Xn := hide (Xn.out.grown' hg8 (by omega))
        replace Rn := hide (Rn.out.grown' hg8 (by omega))
        replace G := hide (only_trans G.out hg8)
        replace T := hide hr8
        replace Ln := Ln.grown' hg8 (by omega)
        clear hr8 hg8
        have l0 := Ln.cell 0
        have l1 := Ln.cell 1
        have l2 := Ln.cell 2
        simp at l0 l1 l2
        have c14 := Xn.out.cell 14
        have f14 := Xn.out.frozen 14
        simp at c14
        clear Ln
        have hv : v8 = 0 ∨ v8 = 1 ∨ v8 = 2 := by omega
        rcases hv with rfl | rfl | rfl
        · skip
          have PP := Xn.out.set_ 14 (.int .i64 (-1))
          simp only [List.setIfInBounds_toArray, List.set_cons_zero, List.set_cons_succ] at PP
          have hld := loadR_row (PP)
          obtain ⟨We, ste, ke, Te, Ge⟩ : ∃ W, (storeR (.pointer (some ⟨w.heap.size, 0, none⟩)) (.agg #[.int .i64 y, .int .i64 mo, .int .i64 d, .int .i64 h, .int .i64 mi, .int .i64 s, .int .i64 ms, .int .i64 o, .int .i64 p1, .int .i64 p2, .int .i64 p3, .int .i64 p4, .int .i64 p5, .int .i64 p6, .int .i64 (-1)])).run Tryd.prog (w8.setCell ⟨w3.heap.size, 14, none⟩ (.int .i64 (-1))) = .ok () W ∧ (∀ j, W.cell? ⟨w.heap.size, j, none⟩ = (#[.int .i64 y, .int .i64 mo, .int .i64 d, .int .i64 h, .int .i64 mi, .int .i64 s, .int .i64 ms, .int .i64 o, .int .i64 p1, .int .i64 p2, .int .i64 p3, .int .i64 p4, .int .i64 p5, .int .i64 p6, .int .i64 (-1)] : Array Value)[j]?) ∧ Hid (Rd B W g (m + 60)) ∧ Hid (w.grownBy W (some g)) := ⟨_, storeR_rq ⟨_, rfl, Rn.out.far (p := ⟨w3.heap.size, 14, none⟩) (show w.heap.size ≠ w3.heap.size by omega) (.int .i64 (-1))⟩ _ _ _ _ _ _ _ _ _ _ _ _ _ _ _, fun j => cell_setRow_same _ _ j _ _ _ (0, 0) (Rn.out.far (p := ⟨w3.heap.size, 14, none⟩) (show w.heap.size ≠ w3.heap.size by omega) (.int .i64 (-1))), hide (Rd.setRow ((Rd.setCell (a := ⟨w3.heap.size, 14, none⟩) T.out (show g < w3.heap.size by omega) (.int .i64 (-1))).more (by omega)) (by omega) _), hide (Blk.onlyRow (only_setCell (p := ⟨w3.heap.size, 14, none⟩) G.out (.inr (show w.heap.size ≤ w3.heap.size by omega)) (.int .i64 (-1))) (by omega) _)⟩
          clear T G Xn Rn
          as_aux_lemma =>
            go_wp2_with fail
            refine bodyPost_ret (by simp [results, Tryd.results32, go_sem, ke]; try rfl) rfl ?_
            exact ⟨_, _, _, _, _, _, _, _, _, _, _, _, _, _, _, rfl, by omega, Te.out, Ge.out⟩
        · skip
          have PP := Xn.out.set_ 14 (.int .i64 99)
          simp only [List.setIfInBounds_toArray, List.set_cons_zero, List.set_cons_succ] at PP
          have hld := loadR_row (PP)
          obtain ⟨We, ste, ke, Te, Ge⟩ : ∃ W, (storeR (.pointer (some ⟨w.heap.size, 0, none⟩)) (.agg #[.int .i64 y, .int .i64 mo, .int .i64 d, .int .i64 h, .int .i64 mi, .int .i64 s, .int .i64 ms, .int .i64 o, .int .i64 p1, .int .i64 p2, .int .i64 p3, .int .i64 p4, .int .i64 p5, .int .i64 p6, .int .i64 99])).run Tryd.prog (w8.setCell ⟨w3.heap.size, 14, none⟩ (.int .i64 99)) = .ok () W ∧ (∀ j, W.cell? ⟨w.heap.size, j, none⟩ = (#[.int .i64 y, .int .i64 mo, .int .i64 d, .int .i64 h, .int .i64 mi, .int .i64 s, .int .i64 ms, .int .i64 o, .int .i64 p1, .int .i64 p2, .int .i64 p3, .int .i64 p4, .int .i64 p5, .int .i64 p6, .int .i64 99] : Array Value)[j]?) ∧ Hid (Rd B W g (m + 60)) ∧ Hid (w.grownBy W (some g)) := ⟨_, storeR_rq ⟨_, rfl, Rn.out.far (p := ⟨w3.heap.size, 14, none⟩) (show w.heap.size ≠ w3.heap.size by omega) (.int .i64 99)⟩ _ _ _ _ _ _ _ _ _ _ _ _ _ _ _, fun j => cell_setRow_same _ _ j _ _ _ (0, 0) (Rn.out.far (p := ⟨w3.heap.size, 14, none⟩) (show w.heap.size ≠ w3.heap.size by omega) (.int .i64 99)), hide (Rd.setRow ((Rd.setCell (a := ⟨w3.heap.size, 14, none⟩) T.out (show g < w3.heap.size by omega) (.int .i64 99)).more (by omega)) (by omega) _), hide (Blk.onlyRow (only_setCell (p := ⟨w3.heap.size, 14, none⟩) G.out (.inr (show w.heap.size ≤ w3.heap.size by omega)) (.int .i64 99)) (by omega) _)⟩
          clear T G Xn Rn
          as_aux_lemma =>
            go_wp2_with fail
            refine bodyPost_ret (by simp [results, Tryd.results32, go_sem, ke]; try rfl) rfl ?_
            exact ⟨_, _, _, _, _, _, _, _, _, _, _, _, _, _, _, rfl, by omega, Te.out, Ge.out⟩
        · skip
          have PP := Xn.out.set_ 14 (.int .i64 100)
          simp only [List.setIfInBounds_toArray, List.set_cons_zero, List.set_cons_succ] at PP
          have hld := loadR_row (PP)
          obtain ⟨We, ste, ke, Te, Ge⟩ : ∃ W, (storeR (.pointer (some ⟨w.heap.size, 0, none⟩)) (.agg #[.int .i64 y, .int .i64 mo, .int .i64 d, .int .i64 h, .int .i64 mi, .int .i64 s, .int .i64 ms, .int .i64 o, .int .i64 p1, .int .i64 p2, .int .i64 p3, .int .i64 p4, .int .i64 p5, .int .i64 p6, .int .i64 100])).run Tryd.prog (w8.setCell ⟨w3.heap.size, 14, none⟩ (.int .i64 100)) = .ok () W ∧ (∀ j, W.cell? ⟨w.heap.size, j, none⟩ = (#[.int .i64 y, .int .i64 mo, .int .i64 d, .int .i64 h, .int .i64 mi, .int .i64 s, .int .i64 ms, .int .i64 o, .int .i64 p1, .int .i64 p2, .int .i64 p3, .int .i64 p4, .int .i64 p5, .int .i64 p6, .int .i64 100] : Array Value)[j]?) ∧ Hid (Rd B W g (m + 60)) ∧ Hid (w.grownBy W (some g)) := ⟨_, storeR_rq ⟨_, rfl, Rn.out.far (p := ⟨w3.heap.size, 14, none⟩) (show w.heap.size ≠ w3.heap.size by omega) (.int .i64 100)⟩ _ _ _ _ _ _ _ _ _ _ _ _ _ _ _, fun j => cell_setRow_same _ _ j _ _ _ (0, 0) (Rn.out.far (p := ⟨w3.heap.size, 14, none⟩) (show w.heap.size ≠ w3.heap.size by omega) (.int .i64 100)), hide (Rd.setRow ((Rd.setCell (a := ⟨w3.heap.size, 14, none⟩) T.out (show g < w3.heap.size by omega) (.int .i64 100)).more (by omega)) (by omega) _), hide (Blk.onlyRow (only_setCell (p := ⟨w3.heap.size, 14, none⟩) G.out (.inr (show w.heap.size ≤ w3.heap.size by omega)) (.int .i64 100)) (by omega) _)⟩
          clear T G Xn Rn
          as_aux_lemma =>
            go_wp2_with fail
            refine bodyPost_ret (by simp [results, Tryd.results32, go_sem, ke]; try rfl) rfl ?_
            exact ⟨_, _, _, _, _, _, _, _, _, _, _, _, _, _, _, rfl, by omega, Te.out, Ge.out⟩
      have y7 : (v7 == 0) = false := beq_eq_false_iff_ne.2 z7
      by_cases u7 : v7 = 1
      · subst u7
        have c3 := Xn.out.cell 3
        have f3 := Xn.out.frozen 3
        simp at c3
        have PP := Xn.out.set_ 3 (.int .i64 25)
        simp only [List.setIfInBounds_toArray, List.set_cons_zero, List.set_cons_succ] at PP
        have hld := loadR_row (PP)
        obtain ⟨We, ste, ke, Te, Ge⟩ : ∃ W, (storeR (.pointer (some ⟨w.heap.size, 0, none⟩)) (.agg #[.int .i64 y, .int .i64 mo, .int .i64 d, .int .i64 25, .int .i64 mi, .int .i64 s, .int .i64 ms, .int .i64 o, .int .i64 p1, .int .i64 p2, .int .i64 p3, .int .i64 p4, .int .i64 p5, .int .i64 p6, .int .i64 n])).run Tryd.prog (w7.setCell ⟨w3.heap.size, 3, none⟩ (.int .i64 25)) = .ok () W ∧ (∀ j, W.cell? ⟨w.heap.size, j, none⟩ = (#[.int .i64 y, .int .i64 mo, .int .i64 d, .int .i64 25, .int .i64 mi, .int .i64 s, .int .i64 ms, .int .i64 o, .int .i64 p1, .int .i64 p2, .int .i64 p3, .int .i64 p4, .int .i64 p5, .int .i64 p6, .int .i64 n] : Array Value)[j]?) ∧ Hid (Rd B W g (m + 60)) ∧ Hid (w.grownBy W (some g)) := ⟨_, storeR_rq ⟨_, rfl, Rn.out.far (p := ⟨w3.heap.size, 3, none⟩) (show w.heap.size ≠ w3.heap.size by omega) (.int .i64 25)⟩ _ _ _ _ _ _ _ _ _ _ _ _ _ _ _, fun j => cell_setRow_same _ _ j _ _ _ (0, 0) (Rn.out.far (p := ⟨w3.heap.size, 3, none⟩) (show w.heap.size ≠ w3.heap.size by omega) (.int .i64 25)), hide (Rd.setRow ((Rd.setCell (a := ⟨w3.heap.size, 3, none⟩) T.out (show g < w3.heap.size by omega) (.int .i64 25)).more (by omega)) (by omega) _), hide (Blk.onlyRow (only_setCell (p := ⟨w3.heap.size, 3, none⟩) G.out (.inr (show w.heap.size ≤ w3.heap.size by omega)) (.int .i64 25)) (by omega) _)⟩
        clear T G Xn Rn
        as_aux_lemma =>
          go_wp2_with fail
          refine bodyPost_ret (by simp [results, Tryd.results32, go_sem, ke]; try rfl) rfl ?_
          exact ⟨_, _, _, _, _, _, _, _, _, _, _, _, _, _, _, rfl, by omega, Te.out, Ge.out⟩
      · have x7 : (v7 == 1) = false := beq_eq_false_iff_ne.2 u7
        have hld := loadR_row (Xn.out)
        obtain ⟨We, ste, ke, Te, Ge⟩ : ∃ W, (storeR (.pointer (some ⟨w.heap.size, 0, none⟩)) (.agg #[.int .i64 y, .int .i64 mo, .int .i64 d, .int .i64 h, .int .i64 mi, .int .i64 s, .int .i64 ms, .int .i64 o, .int .i64 p1, .int .i64 p2, .int .i64 p3, .int .i64 p4, .int .i64 p5, .int .i64 p6, .int .i64 n])).run Tryd.prog (w7) = .ok () W ∧ (∀ j, W.cell? ⟨w.heap.size, j, none⟩ = (#[.int .i64 y, .int .i64 mo, .int .i64 d, .int .i64 h, .int .i64 mi, .int .i64 s, .int .i64 ms, .int .i64 o, .int .i64 p1, .int .i64 p2, .int .i64 p3, .int .i64 p4, .int .i64 p5, .int .i64 p6, .int .i64 n] : Array Value)[j]?) ∧ Hid (Rd B W g (m + 60)) ∧ Hid (w.grownBy W (some g)) := ⟨_, storeR_rq ⟨_, rfl, Rn.out⟩ _ _ _ _ _ _ _ _ _ _ _ _ _ _ _, fun j => cell_setRow_same _ _ j _ _ _ (0, 0) (Rn.out), hide (Rd.setRow ((T.out).more (by omega)) (by omega) _), hide (Blk.onlyRow (G.out) (by omega) _)⟩
        clear T G Xn Rn
        as_aux_lemma =>
          go_wp2_with fail
          refine bodyPost_ret (by simp [results, Tryd.results32, go_sem, ke]; try rfl) rfl ?_
          exact ⟨_, _, _, _, _, _, _, _, _, _, _, _, _, _, _, rfl, by omega, Te.out, Ge.out⟩
    have y6 : decide (v6 > 0) = true := decide_eq_true (by omega)
    go_wp2_with fail
    refine (pick_any T.out (by omega) (by omega)).mono ?_
    rintro e w7 ⟨v7, a7, b7, rfl, hr7, hg7⟩
    replace Xn := hide (Xn.out.grown' hg7 (by omega))
    replace Rn := hide (Rn.out.grown' hg7 (by omega))
    replace G := hide (only_trans G.out hg7)
    replace T := hide hr7
    clear hr7 hg7
    obtain ⟨w8, st8, XN, RN, TN, GN⟩ : ∃ W, (storeD (.pointer (some ⟨w3.heap.size, 8, none⟩)) (.agg #[.int .i64 0, .int .i64 1, .int .i64 v7, .int .i64 0, .int .i64 0, .int .i64 0])).run Tryd.prog w7 = .ok () W ∧ Hid (Blk W (w3.heap.size) 46 #[.int .i64 y, .int .i64 mo, .int .i64 d, .int .i64 h, .int .i64 mi, .int .i64 s, .int .i64 ms, .int .i64 o, .int .i64 0, .int .i64 1, .int .i64 v7, .int .i64 0, .int .i64 0, .int .i64 0, .int .i64 n]) ∧ Hid (Blk W (w.heap.size) 46 #[.int .i64 0, .int .i64 0, .int .i64 0, .int .i64 0, .int .i64 0, .int .i64 0, .int .i64 0, .int .i64 0, .int .i64 0, .int .i64 0, .int .i64 0, .int .i64 0, .int .i64 0, .int .i64 0, .int .i64 0]) ∧ Hid (Rd B W g (m + 55)) ∧ Hid (w.grownBy W (some g)) := ⟨_, storeD_mid (Xn.out.there 8 6 (by simp)) _ _ _ _ _ _, hide (putD_own _ _ _ _ _ _ Xn.out), hide (putD_far _ _ _ _ _ _ Rn.out (by omega)), hide (putD_rd _ _ _ _ _ _ T.out (by omega)), hide (putD_only _ _ _ _ _ _ G.out (by omega))⟩
    replace Xn := XN
    replace Rn := RN
    replace T := TN
    replace G := GN
    clear XN RN TN GN
    go_wp2_with fail
    refine (pick_any T.out (by omega) (by omega)).mono ?_
    rintro e w9 ⟨v9, a9, b9, rfl, hr9, hg9⟩
    replace Xn := hide (Xn.out.grown' hg9 (by omega))
    replace Rn := hide (Rn.out.grown' hg9 (by omega))
    replace G := hide (only_trans G.out hg9)
    replace T := hide hr9
    clear hr9 hg9
    by_cases z9 : v9 = 0
    · subst z9
      go_wp2_with fail
      have hlt9 := T.out.lt
      replace Xn := hide (Xn.out.alloc (.cells #[.int .i64 (-1), .int .i64 99, .int .i64 100] 3))
      replace Rn := hide (Rn.out.alloc (.cells #[.int .i64 (-1), .int .i64 99, .int .i64 100] 3))
      replace T := hide (T.out.alloc (.cells #[.int .i64 (-1), .int .i64 99, .int .i64 100] 3))
      replace G := hide (only_alloc G.out (.cells #[.int .i64 (-1), .int .i64 99, .int .i64 100] 3))
      have Ln := Blk.new w9 3 #[Value.int .i64 (-1), .int .i64 99, .int .i64 100]
      refine (pick_any T.out (by omega) (by omega)).mono ?_
      rintro e w10 ⟨v10, a10, b10, rfl, hr10, hg10⟩
      replace Xn := hide (Xn.out.grown' hg10 (by omega))
      replace Rn := hide (Rn.out.grown' hg10 (by omega))
      replace G := hide (only_trans G.out hg10)
      replace T := hide hr10
      replace Ln := Ln.grown' hg10 (by omega)
      clear hr10 hg10
      have l0 := Ln.cell 0
      have l1 := Ln.cell 1
      have l2 := Ln.cell 2
      simp at l0 l1 l2
      have c14 := Xn.out.cell 14
      have f14 := Xn.out.frozen 14
      simp at c14
      clear Ln
      have hv : v10 = 0 ∨ v10 = 1 ∨ v10 = 2 := by omega
      rcases hv with rfl | rfl | rfl
      · skip
        have PP := Xn.out.set_ 14 (.int .i64 (-1))
        simp only [List.setIfInBounds_toArray, List.set_cons_zero, List.set_cons_succ] at PP
        have hld := loadR_row (PP)
        obtain ⟨We, ste, ke, Te, Ge⟩ : ∃ W, (storeR (.pointer (some ⟨w.heap.size, 0, none⟩)) (.agg #[.int .i64 y, .int .i64 mo, .int .i64 d, .int .i64 h, .int .i64 mi, .int .i64 s, .int .i64 ms, .int .i64 o, .int .i64 0, .int .i64 1, .int .i64 v7, .int .i64 0, .int .i64 0, .int .i64 0, .int .i64 (-1)])).run Tryd.prog (w10.setCell ⟨w3.heap.size, 14, none⟩ (.int .i64 (-1))) = .ok () W ∧ (∀ j, W.cell? ⟨w.heap.size, j, none⟩ = (#[.int .i64 y, .int .i64 mo, .int .i64 d, .int .i64 h, .int .i64 mi, .int .i64 s, .int .i64 ms, .int .i64 o, .int .i64 0, .int .i64 1, .int .i64 v7, .int .i64 0, .int .i64 0, .int .i64 0, .int .i64 (-1)] : Array Value)[j]?) ∧ Hid (Rd B W g (m + 60)) ∧ Hid (w.grownBy W (some g)) := ⟨_, storeR_rq ⟨_, rfl, Rn.out.far (p := ⟨w3.heap.size, 14, none⟩) (show w.heap.size ≠ w3.heap.size by omega) (.int .i64 (-1))⟩ _ _ _ _ _ _ _ _ _ _ _ _ _ _ _, fun j => cell_setRow_same _ _ j _ _ _ (0, 0) (Rn.out.far (p := ⟨w3.heap.size, 14, none⟩) (show w.heap.size ≠ w3.heap.size by omega) (.int .i64 (-1))), hide (Rd.setRow ((Rd.setCell (a := ⟨w3.heap.size, 14, none⟩) T.out (show g < w3.heap.size by omega) (.int .i64 (-1))).more (by omega)) (by omega) _), hide (Blk.onlyRow (only_setCell (p := ⟨w3.heap.size, 14, none⟩) G.out (.inr (show w.heap.size ≤ w3.heap.size by omega)) (.int .i64 (-1))) (by omega) _)⟩
        clear T G Xn Rn
        as_aux_lemma =>
          go_wp2_with fail
          refine bodyPost_ret (by simp [results, Tryd.results32, go_sem, ke]; try rfl) rfl ?_
          exact ⟨_, _, _, _, _, _, _, _, _, _, _, _, _, _, _, rfl, by omega, Te.out, Ge.out⟩
      · skip
        have PP := Xn.out.set_ 14 (.int .i64 99)
        simp only [List.setIfInBounds_toArray, List.set_cons_zero, List.set_cons_succ] at PP
        have hld := loadR_row (PP)
        obtain ⟨We, ste, ke, Te, Ge⟩ : ∃ W, (storeR (.pointer (some ⟨w.heap.size, 0, none⟩)) (.agg #[.int .i64 y, .int .i64 mo, .int .i64 d, .int .i64 h, .int .i64 mi, .int .i64 s, .int .i64 ms, .int .i64 o, .int .i64 0, .int .i64 1, .int .i64 v7, .int .i64 0, .int .i64 0, .int .i64 0, .int .i64 99])).run Tryd.prog (w10.setCell ⟨w3.heap.size, 14, none⟩ (.int .i64 99)) = .ok () W ∧ (∀ j, W.cell? ⟨w.heap.size, j, none⟩ = (#[.int .i64 y, .int .i64 mo, .int .i64 d, .int .i64 h, .int .i64 mi, .int .i64 s, .int .i64 ms, .int .i64 o, .int .i64 0, .int .i64 1, .int .i64 v7, .int .i64 0, .int .i64 0, .int .i64 0, .int .i64 99] : Array Value)[j]?) ∧ Hid (Rd B W g (m + 60)) ∧ Hid (w.grownBy W (some g)) := ⟨_, storeR_rq ⟨_, rfl, Rn.out.far (p := ⟨w3.heap.size, 14, none⟩) (show w.heap.size ≠ w3.heap.size by omega) (.int .i64 99)⟩ _ _ _ _ _ _ _ _ _ _ _ _ _ _ _, fun j => cell_setRow_same _ _ j _ _ _ (0, 0) (Rn.out.far (p := ⟨w3.heap.size, 14, none⟩) (show w.heap.size ≠ w3.heap.size by omega) (.int .i64 99)), hide (Rd.setRow ((Rd.setCell (a := ⟨w3.heap.size, 14, none⟩) T.out (show g < w3.heap.size by omega) (.int .i64 99)).more (by omega)) (by omega) _), hide (Blk.onlyRow (only_setCell (p := ⟨w3.heap.size, 14, none⟩) G.out (.inr (show w.heap.size ≤ w3.heap.size by omega)) (.int .i64 99)) (by omega) _)⟩
        clear T G Xn Rn
        as_aux_lemma =>
          go_wp2_with fail
          refine bodyPost_ret (by simp [results, Tryd.results32, go_sem, ke]; try rfl) rfl ?_
          exact ⟨_, _, _, _, _, _, _, _, _, _, _, _, _, _, _, rfl, by omega, Te.out, Ge.out⟩
      · skip
        have PP := Xn.out.set_ 14 (.int .i64 100)
        simp only [List.setIfInBounds_toArray, List.set_cons_zero, List.set_cons_succ] at PP
        have hld := loadR_row (PP)
        obtain ⟨We, ste, ke, Te, Ge⟩ : ∃ W, (storeR (.pointer (some ⟨w.heap.size, 0, none⟩)) (.agg #[.int .i64 y, .int .i64 mo, .int .i64 d, .int .i64 h, .int .i64 mi, .int .i64 s, .int .i64 ms, .int .i64 o, .int .i64 0, .int .i64 1, .int .i64 v7, .int .i64 0, .int .i64 0, .int .i64 0, .int .i64 100])).run Tryd.prog (w10.setCell ⟨w3.heap.size, 14, none⟩ (.int .i64 100)) = .ok () W ∧ (∀ j, W.cell? ⟨w.heap.size, j, none⟩ = (#[.int .i64 y, .int .i64 mo, .int .i64 d, .int .i64 h, .int .i64 mi, .int .i64 s, .int .i64 ms, .int .i64 o, .int .i64 0, .int .i64 1, .int .i64 v7, .int .i64 0, .int .i64 0, .int .i64 0, .int .i64 100] : Array Value)[j]?) ∧ Hid (Rd B W g (m + 60)) ∧ Hid (w.grownBy W (some g)) := ⟨_, storeR_rq ⟨_, rfl, Rn.out.far (p := ⟨w3.heap.size, 14, none⟩) (show w.heap.size ≠ w3.heap.size by omega) (.int .i64 100)⟩ _ _ _ _ _ _ _ _ _ _ _ _ _ _ _, fun j => cell_setRow_same _ _ j _ _ _ (0, 0) (Rn.out.far (p := ⟨w3.heap.size, 14, none⟩) (show w.heap.size ≠ w3.heap.size by omega) (.int .i64 100)), hide (Rd.setRow ((Rd.setCell (a := ⟨w3.heap.size, 14, none⟩) T.out (show g < w3.heap.size by omega) (.int .i64 100)).more (by omega)) (by omega) _), hide (Blk.onlyRow (only_setCell (p := ⟨w3.heap.size, 14, none⟩) G.out (.inr (show w.heap.size ≤ w3.heap.size by omega)) (.int .i64 100)) (by omega) _)⟩
        clear T G Xn Rn
        as_aux_lemma =>
          go_wp2_with fail
          refine bodyPost_ret (by simp [results, Tryd.results32, go_sem, ke]; try rfl) rfl ?_
          exact ⟨_, _, _, _, _, _, _, _, _, _, _, _, _, _, _, rfl, by omega, Te.out, Ge.out⟩
    have y9 : (v9 == 0) = false := beq_eq_false_iff_ne.2 z9
    by_cases u9 : v9 = 1
    · subst u9
      have c3 := Xn.out.cell 3
      have f3 := Xn.out.frozen 3
      simp at c3
      have PP := Xn.out.set_ 3 (.int .i64 25)
      simp only [List.setIfInBounds_toArray, List.set_cons_zero, List.set_cons_succ] at PP
      have hld := loadR_row (PP)
      obtain ⟨We, ste, ke, Te, Ge⟩ : ∃ W, (storeR (.pointer (some ⟨w.heap.size, 0, none⟩)) (.agg #[.int .i64 y, .int .i64 mo, .int .i64 d, .int .i64 25, .int .i64 mi, .int .i64 s, .int .i64 ms, .int .i64 o, .int .i64 0, .int .i64 1, .int .i64 v7, .int .i64 0, .int .i64 0, .int .i64 0, .int .i64 n])).run Tryd.prog (w9.setCell ⟨w3.heap.size, 3, none⟩ (.int .i64 25)) = .ok () W ∧ (∀ j, W.cell? ⟨w.heap.size, j, none⟩ = (#[.int .i64 y, .int .i64 mo, .int .i64 d, .int .i64 25, .int .i64 mi, .int .i64 s, .int .i64 ms, .int .i64 o, .int .i64 0, .int .i64 1, .int .i64 v7, .int .i64 0, .int .i64 0, .int .i64 0, .int .i64 n] : Array Value)[j]?) ∧ Hid (Rd B W g (m + 60)) ∧ Hid (w.grownBy W (some g)) := ⟨_, storeR_rq ⟨_, rfl, Rn.out.far (p := ⟨w3.heap.size, 3, none⟩) (show w.heap.size ≠ w3.heap.size by omega) (.int .i64 25)⟩ _ _ _ _ _ _ _ _ _ _ _ _ _ _ _, fun j => cell_setRow_same _ _ j _ _ _ (0, 0) (Rn.out.far (p := ⟨w3.heap.size, 3, none⟩) (show w.heap.size ≠ w3.heap.size by omega) (.int .i64 25)), hide (Rd.setRow ((Rd.setCell (a := ⟨w3.heap.size, 3, none⟩) T.out (show g < w3.heap.size by omega) (.int .i64 25)).more (by omega)) (by omega) _), hide (Blk.onlyRow (only_setCell (p := ⟨w3.heap.size, 3, none⟩) G.out (.inr (show w.heap.size ≤ w3.heap.size by omega)) (.int .i64 25)) (by omega) _)⟩
      clear T G Xn Rn
      as_aux_lemma =>
        go_wp2_with fail
        refine bodyPost_ret (by simp [results, Tryd.results32, go_sem, ke]; try rfl) rfl ?_
        exact ⟨_, _, _, _, _, _, _, _, _, _, _, _, _, _, _, rfl, by omega, Te.out, Ge.out⟩
    · have x9 : (v9 == 1) = false := beq_eq_false_iff_ne.2 u9
      have hld := loadR_row (Xn.out)
      obtain ⟨We, ste, ke, Te, Ge⟩ : ∃ W, (storeR (.pointer (some ⟨w.heap.size, 0, none⟩)) (.agg #[.int .i64 y, .int .i64 mo, .int .i64 d, .int .i64 h, .int .i64 mi, .int .i64 s, .int .i64 ms, .int .i64 o, .int .i64 0, .int .i64 1, .int .i64 v7, .int .i64 0, .int .i64 0, .int .i64 0, .int .i64 n])).run Tryd.prog (w9) = .ok () W ∧ (∀ j, W.cell? ⟨w.heap.size, j, none⟩ = (#[.int .i64 y, .int .i64 mo, .int .i64 d, .int .i64 h, .int .i64 mi, .int .i64 s, .int .i64 ms, .int .i64 o, .int .i64 0, .int .i64 1, .int .i64 v7, .int .i64 0, .int .i64 0, .int .i64 0, .int .i64 n] : Array Value)[j]?) ∧ Hid (Rd B W g (m + 60)) ∧ Hid (w.grownBy W (some g)) := ⟨_, storeR_rq ⟨_, rfl, Rn.out⟩ _ _ _ _ _ _ _ _ _ _ _ _ _ _ _, fun j => cell_setRow_same _ _ j _ _ _ (0, 0) (Rn.out), hide (Rd.setRow ((T.out).more (by omega)) (by omega) _), hide (Blk.onlyRow (G.out) (by omega) _)⟩
      clear T G Xn Rn
      as_aux_lemma =>
        go_wp2_with fail
        refine bodyPost_ret (by simp [results, Tryd.results32, go_sem, ke]; try rfl) rfl ?_
        exact ⟨_, _, _, _, _, _, _, _, _, _, _, _, _, _, _, rfl, by omega, Te.out, Ge.out⟩
end
end Go.Proofs.YtinemkjoohgmjaaDoor
