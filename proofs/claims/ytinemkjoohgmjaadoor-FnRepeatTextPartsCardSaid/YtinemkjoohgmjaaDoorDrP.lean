/- Draws: a period. -/
import Derived.Test.YtinemkjoohgmjaaDoorDrG
import Derived.Test.YtinemkjoohgmjaaDoorRp3
namespace Go.Proofs.YtinemkjoohgmjaaDoor
open Go.RowKit

/-- A period that a reader drew. -/
def DrawnP (B g m k : Nat) (w : World) (e : Ending) (w' : World) : Prop :=
  ∃ p1 p2 p3 p4 p5 p6 : Int, e = .returned (.agg #[.int .i64 p1, .int .i64 p2, .int .i64 p3, .int .i64 p4, .int .i64 p5, .int .i64 p6]) ∧ Rd B w' g (m + k) ∧ w.grownBy w' (some g)
theorem storeD_row {w : World} {g : Nat} {c : Array Value} (h : Blk w g 44 c) (hc : c.size = 6) (v0 v1 v2 v3 v4 v5 : Int) : (storeD (.pointer (some ⟨g, 0, none⟩)) (.agg #[.int .i64 v0, .int .i64 v1, .int .i64 v2, .int .i64 v3, .int .i64 v4, .int .i64 v5])).run Tryd.prog w = .ok () (w.setRow g #[.int .i64 v0, .int .i64 v1, .int .i64 v2, .int .i64 v3, .int .i64 v4, .int .i64 v5]) := by
  have hr := run_storeVar_row (P := Tryd.prog) w g 44 44 c #[.int .i64 v0, .int .i64 v1, .int .i64 v2, .int .i64 v3, .int .i64 v4, .int .i64 v5] h perI (by simpa using hc) (by simp [Value.oneCell'])
  simp only [storeD, Instr.storeAt, Instr.sureAddr, Sem.run_bind, Sem.run_pure, Result.andThen]
  exact hr
section
attribute [local go_sem ↓] storeD_eq
set_option maxRecDepth 100000 in
set_option maxHeartbeats 4000000 in
theorem l92Period_any {B g m : Nat} {w : World} (hr : Rd B w g m) (hm : m ≤ 60000) :
    Calls Tryd.prog 61 #[.pointer (some ⟨g, 0, none⟩)] w (DrawnP B g m 12 w) := by
  have hgl := hr.lt
  have rA := (Blk.new w 44 #[.int .i64 0, .int .i64 0, .int .i64 0, .int .i64 0, .int .i64 0, .int .i64 0]).alloc (.cells #[.int .i64 0, .int .i64 0, .int .i64 0, .int .i64 0, .int .i64 0, .int .i64 0] 44)
  have pA := Blk.newE (W := w.alloc (.cells #[.int .i64 0, .int .i64 0, .int .i64 0, .int .i64 0, .int .i64 0, .int .i64 0] 44)) (g := w.heap.size + 1) (t := 44) (cs := #[.int .i64 0, .int .i64 0, .int .i64 0, .int .i64 0, .int .i64 0, .int .i64 0]) (by simp)
  have gA := only_alloc (only_alloc (only_refl w (some g)) (.cells #[.int .i64 0, .int .i64 0, .int .i64 0, .int .i64 0, .int .i64 0, .int .i64 0] 44)) (.cells #[.int .i64 0, .int .i64 0, .int .i64 0, .int .i64 0, .int .i64 0, .int .i64 0] 44)
  have tA := (hr.alloc (.cells #[.int .i64 0, .int .i64 0, .int .i64 0, .int .i64 0, .int .i64 0, .int .i64 0] 44)).alloc (.cells #[.int .i64 0, .int .i64 0, .int .i64 0, .int .i64 0, .int .i64 0, .int .i64 0] 44)
  obtain ⟨w0, st0, Pn, Rn, T, G⟩ : ∃ W, (storeD (.pointer (some ⟨w.heap.size + 1, 0, none⟩)) (.agg #[.int .i64 0, .int .i64 0, .int .i64 0, .int .i64 0, .int .i64 0, .int .i64 0])).run Tryd.prog ((w.alloc (.cells #[.int .i64 0, .int .i64 0, .int .i64 0, .int .i64 0, .int .i64 0, .int .i64 0] 44)).alloc (.cells #[.int .i64 0, .int .i64 0, .int .i64 0, .int .i64 0, .int .i64 0, .int .i64 0] 44)) = .ok () W ∧ Hid (Blk W (w.heap.size + 1) 44 #[.int .i64 0, .int .i64 0, .int .i64 0, .int .i64 0, .int .i64 0, .int .i64 0]) ∧ Hid (Blk W (w.heap.size) 44 #[.int .i64 0, .int .i64 0, .int .i64 0, .int .i64 0, .int .i64 0, .int .i64 0]) ∧ Hid (Rd B W g m) ∧ Hid (w.grownBy W (some g)) := ⟨_, storeD_row pA rfl _ _ _ _ _ _, hide (pA.setRow _), hide (rA.setRow_far (by omega) _), hide (tA.setRow (by omega) _), hide (Blk.onlyRow gA (by omega) _)⟩
  clear rA pA gA tA
  go_enter Tryd.func61, Tryd.ntmps61
  go_wp2_with fail
  refine (pick_any T.out (by omega) (by omega)).mono ?_
  rintro e w1 ⟨v1, a1, b1, rfl, hr1, hg1⟩
  replace Pn := hide (Pn.out.grown' hg1 (by omega))
  replace Rn := hide (Rn.out.grown' hg1 (by omega))
  replace G := hide (only_trans G.out hg1)
  replace T := hide hr1
  clear hr1 hg1
  clear st0
  by_cases z0 : v1 = 0
  · subst z0
    go_wp2_with fail
    refine (pick_any T.out (by omega) (by omega)).mono ?_
    rintro e w2 ⟨v2, a2, b2, rfl, hr2, hg2⟩
    replace Pn := hide (Pn.out.grown' hg2 (by omega))
    replace Rn := hide (Rn.out.grown' hg2 (by omega))
    replace G := hide (only_trans G.out hg2)
    replace T := hide hr2
    clear hr2 hg2
    have c2 := Pn.out.cell 2
    have f2 := Pn.out.frozen 2
    simp at c2
    have PP := Pn.out.set_ 2 (.int .i64 v2)
    simp only [List.setIfInBounds_toArray, List.set_cons_zero, List.set_cons_succ] at PP
    have PN := hide (PP)
    have RN := hide (Rn.out.far (p := ⟨w.heap.size + 1, 2, none⟩) (by simp) (.int .i64 v2))
    have TN := hide (Rd.setCell (a := ⟨w.heap.size + 1, 2, none⟩) T.out (by simp; omega) (.int .i64 v2))
    have GN := hide (only_setCell (p := ⟨w.heap.size + 1, 2, none⟩) G.out (.inr (by simp)) (.int .i64 v2))
    replace Pn := PN
    replace Rn := RN
    replace T := TN
    replace G := GN
    clear PN RN TN GN
    go_wp2_with fail
    refine (pick_any T.out (by omega) (by omega)).mono ?_
    rintro e w3 ⟨v3, a3, b3, rfl, hr3, hg3⟩
    replace Pn := hide (Pn.out.grown' hg3 (by omega))
    replace Rn := hide (Rn.out.grown' hg3 (by omega))
    replace G := hide (only_trans G.out hg3)
    replace T := hide hr3
    clear hr3 hg3
    by_cases z3 : v3 = 0
    · subst z3
      go_wp2_with fail
      have hlt3 := T.out.lt
      replace Pn := hide (Pn.out.alloc (.cells #[.int .i64 (-1), .int .i64 9999, .int .i64 10000] 3))
      replace Rn := hide (Rn.out.alloc (.cells #[.int .i64 (-1), .int .i64 9999, .int .i64 10000] 3))
      replace G := hide (only_alloc G.out (.cells #[.int .i64 (-1), .int .i64 9999, .int .i64 10000] 3))
      replace T := hide (T.out.alloc (.cells #[.int .i64 (-1), .int .i64 9999, .int .i64 10000] 3))
      have Ln := Blk.new w3 3 #[Value.int .i64 (-1), .int .i64 9999, .int .i64 10000]
      refine (pick_any T.out (by omega) (by omega)).mono ?_
      rintro e w4 ⟨v4, a4, b4, rfl, hr4, hg4⟩
      replace Pn := hide (Pn.out.grown' hg4 (by omega))
      replace Rn := hide (Rn.out.grown' hg4 (by omega))
      replace G := hide (only_trans G.out hg4)
      replace T := hide hr4
      replace Ln := Ln.grown' hg4 (by omega)
      clear hr4 hg4
      have l0 := Ln.cell 0
      have l1 := Ln.cell 1
      have l2 := Ln.cell 2
      simp at l0 l1 l2
      have c2 := Pn.out.cell 2
      have f2 := Pn.out.frozen 2
      simp at c2
      clear Ln
      have hv : v4 = 0 ∨ v4 = 1 ∨ v4 = 2 := by omega
      rcases hv with rfl | rfl | rfl
      · have PP := Pn.out.set_ 2 (.int .i64 (-1))
        simp only [List.setIfInBounds_toArray, List.set_cons_zero, List.set_cons_succ] at PP
        have hlt := T.out.lt
        have k0 := (PP).cell 0
        have k1 := (PP).cell 1
        have k2 := (PP).cell 2
        have k3 := (PP).cell 3
        have k4 := (PP).cell 4
        have k5 := (PP).cell 5
        simp at k0 k1 k2 k3 k4 k5
        obtain ⟨We, ste, ke, Te, Ge⟩ : ∃ W, (storeD (.pointer (some ⟨w.heap.size, 0, none⟩)) (.agg #[.int .i64 0, .int .i64 0, .int .i64 (-1), .int .i64 0, .int .i64 0, .int .i64 0])).run Tryd.prog (w4.setCell ⟨w.heap.size + 1, 2, none⟩ (.int .i64 (-1))) = .ok () W ∧ (∀ j, W.cell? ⟨w.heap.size, j, none⟩ = (#[.int .i64 0, .int .i64 0, .int .i64 (-1), .int .i64 0, .int .i64 0, .int .i64 0] : Array Value)[j]?) ∧ Hid (Rd B W g (m + 12)) ∧ Hid (w.grownBy W (some g)) := ⟨_, storeD_row (Rn.out.far (p := ⟨w.heap.size + 1, 2, none⟩) (by simp) (.int .i64 (-1))) rfl _ _ _ _ _ _, fun j => cell_setRow_same _ _ j _ _ _ (0, 0) (Rn.out.far (p := ⟨w.heap.size + 1, 2, none⟩) (by simp) (.int .i64 (-1))), hide (Rd.setRow ((Rd.setCell (a := ⟨w.heap.size + 1, 2, none⟩) T.out (by simp; omega) (.int .i64 (-1))).more (by omega)) (by omega) _), hide (Blk.onlyRow (only_setCell (p := ⟨w.heap.size + 1, 2, none⟩) G.out (.inr (by simp)) (.int .i64 (-1))) (by omega) _)⟩
        clear T G Pn Rn
        go_wp2_with fail
        refine bodyPost_ret (by simp [results, Tryd.results61, go_sem, ke]; try rfl) rfl ?_
        exact ⟨_, _, _, _, _, _, rfl, Te.out, Ge.out⟩
      · have PP := Pn.out.set_ 2 (.int .i64 9999)
        simp only [List.setIfInBounds_toArray, List.set_cons_zero, List.set_cons_succ] at PP
        have hlt := T.out.lt
        have k0 := (PP).cell 0
        have k1 := (PP).cell 1
        have k2 := (PP).cell 2
        have k3 := (PP).cell 3
        have k4 := (PP).cell 4
        have k5 := (PP).cell 5
        simp at k0 k1 k2 k3 k4 k5
        obtain ⟨We, ste, ke, Te, Ge⟩ : ∃ W, (storeD (.pointer (some ⟨w.heap.size, 0, none⟩)) (.agg #[.int .i64 0, .int .i64 0, .int .i64 9999, .int .i64 0, .int .i64 0, .int .i64 0])).run Tryd.prog (w4.setCell ⟨w.heap.size + 1, 2, none⟩ (.int .i64 9999)) = .ok () W ∧ (∀ j, W.cell? ⟨w.heap.size, j, none⟩ = (#[.int .i64 0, .int .i64 0, .int .i64 9999, .int .i64 0, .int .i64 0, .int .i64 0] : Array Value)[j]?) ∧ Hid (Rd B W g (m + 12)) ∧ Hid (w.grownBy W (some g)) := ⟨_, storeD_row (Rn.out.far (p := ⟨w.heap.size + 1, 2, none⟩) (by simp) (.int .i64 9999)) rfl _ _ _ _ _ _, fun j => cell_setRow_same _ _ j _ _ _ (0, 0) (Rn.out.far (p := ⟨w.heap.size + 1, 2, none⟩) (by simp) (.int .i64 9999)), hide (Rd.setRow ((Rd.setCell (a := ⟨w.heap.size + 1, 2, none⟩) T.out (by simp; omega) (.int .i64 9999)).more (by omega)) (by omega) _), hide (Blk.onlyRow (only_setCell (p := ⟨w.heap.size + 1, 2, none⟩) G.out (.inr (by simp)) (.int .i64 9999)) (by omega) _)⟩
        clear T G Pn Rn
        go_wp2_with fail
        refine bodyPost_ret (by simp [results, Tryd.results61, go_sem, ke]; try rfl) rfl ?_
        exact ⟨_, _, _, _, _, _, rfl, Te.out, Ge.out⟩
      · have PP := Pn.out.set_ 2 (.int .i64 10000)
        simp only [List.setIfInBounds_toArray, List.set_cons_zero, List.set_cons_succ] at PP
        have hlt := T.out.lt
        have k0 := (PP).cell 0
        have k1 := (PP).cell 1
        have k2 := (PP).cell 2
        have k3 := (PP).cell 3
        have k4 := (PP).cell 4
        have k5 := (PP).cell 5
        simp at k0 k1 k2 k3 k4 k5
        obtain ⟨We, ste, ke, Te, Ge⟩ : ∃ W, (storeD (.pointer (some ⟨w.heap.size, 0, none⟩)) (.agg #[.int .i64 0, .int .i64 0, .int .i64 10000, .int .i64 0, .int .i64 0, .int .i64 0])).run Tryd.prog (w4.setCell ⟨w.heap.size + 1, 2, none⟩ (.int .i64 10000)) = .ok () W ∧ (∀ j, W.cell? ⟨w.heap.size, j, none⟩ = (#[.int .i64 0, .int .i64 0, .int .i64 10000, .int .i64 0, .int .i64 0, .int .i64 0] : Array Value)[j]?) ∧ Hid (Rd B W g (m + 12)) ∧ Hid (w.grownBy W (some g)) := ⟨_, storeD_row (Rn.out.far (p := ⟨w.heap.size + 1, 2, none⟩) (by simp) (.int .i64 10000)) rfl _ _ _ _ _ _, fun j => cell_setRow_same _ _ j _ _ _ (0, 0) (Rn.out.far (p := ⟨w.heap.size + 1, 2, none⟩) (by simp) (.int .i64 10000)), hide (Rd.setRow ((Rd.setCell (a := ⟨w.heap.size + 1, 2, none⟩) T.out (by simp; omega) (.int .i64 10000)).more (by omega)) (by omega) _), hide (Blk.onlyRow (only_setCell (p := ⟨w.heap.size + 1, 2, none⟩) G.out (.inr (by simp)) (.int .i64 10000)) (by omega) _)⟩
        clear T G Pn Rn
        go_wp2_with fail
        refine bodyPost_ret (by simp [results, Tryd.results61, go_sem, ke]; try rfl) rfl ?_
        exact ⟨_, _, _, _, _, _, rfl, Te.out, Ge.out⟩
    · have y3 : (v3 == 0) = false := beq_eq_false_iff_ne.2 z3
      have k0 := (Pn.out).cell 0
      have k1 := (Pn.out).cell 1
      have k2 := (Pn.out).cell 2
      have k3 := (Pn.out).cell 3
      have k4 := (Pn.out).cell 4
      have k5 := (Pn.out).cell 5
      simp at k0 k1 k2 k3 k4 k5
      obtain ⟨We, ste, ke, Te, Ge⟩ : ∃ W, (storeD (.pointer (some ⟨w.heap.size, 0, none⟩)) (.agg #[.int .i64 0, .int .i64 0, .int .i64 v2, .int .i64 0, .int .i64 0, .int .i64 0])).run Tryd.prog (w3) = .ok () W ∧ (∀ j, W.cell? ⟨w.heap.size, j, none⟩ = (#[.int .i64 0, .int .i64 0, .int .i64 v2, .int .i64 0, .int .i64 0, .int .i64 0] : Array Value)[j]?) ∧ Hid (Rd B W g (m + 12)) ∧ Hid (w.grownBy W (some g)) := ⟨_, storeD_row (Rn.out) rfl _ _ _ _ _ _, fun j => cell_setRow_same _ _ j _ _ _ (0, 0) (Rn.out), hide (Rd.setRow ((T.out).more (by omega)) (by omega) _), hide (Blk.onlyRow (G.out) (by omega) _)⟩
      clear T G Pn Rn
      go_wp2_with fail
      refine bodyPost_ret (by simp [results, Tryd.results61, go_sem, ke]; try rfl) rfl ?_
      exact ⟨_, _, _, _, _, _, rfl, Te.out, Ge.out⟩
  have y0 : (v1 == 0) = false := beq_eq_false_iff_ne.2 z0
  by_cases z1 : v1 = 1
  · subst z1
    go_wp2_with fail
    refine (pick_any T.out (by omega) (by omega)).mono ?_
    rintro e w2 ⟨v2, a2, b2, rfl, hr2, hg2⟩
    replace Pn := hide (Pn.out.grown' hg2 (by omega))
    replace Rn := hide (Rn.out.grown' hg2 (by omega))
    replace G := hide (only_trans G.out hg2)
    replace T := hide hr2
    clear hr2 hg2
    have c1 := Pn.out.cell 1
    have f1 := Pn.out.frozen 1
    simp at c1
    have PP := Pn.out.set_ 1 (.int .i64 v2)
    simp only [List.setIfInBounds_toArray, List.set_cons_zero, List.set_cons_succ] at PP
    have PN := hide (PP)
    have RN := hide (Rn.out.far (p := ⟨w.heap.size + 1, 1, none⟩) (by simp) (.int .i64 v2))
    have TN := hide (Rd.setCell (a := ⟨w.heap.size + 1, 1, none⟩) T.out (by simp; omega) (.int .i64 v2))
    have GN := hide (only_setCell (p := ⟨w.heap.size + 1, 1, none⟩) G.out (.inr (by simp)) (.int .i64 v2))
    replace Pn := PN
    replace Rn := RN
    replace T := TN
    replace G := GN
    clear PN RN TN GN
    go_wp2_with fail
    refine (pick_any T.out (by omega) (by omega)).mono ?_
    rintro e w3 ⟨v3, a3, b3, rfl, hr3, hg3⟩
    replace Pn := hide (Pn.out.grown' hg3 (by omega))
    replace Rn := hide (Rn.out.grown' hg3 (by omega))
    replace G := hide (only_trans G.out hg3)
    replace T := hide hr3
    clear hr3 hg3
    by_cases z3 : v3 = 0
    · subst z3
      go_wp2_with fail
      have hlt3 := T.out.lt
      replace Pn := hide (Pn.out.alloc (.cells #[.int .i64 (-1), .int .i64 9999, .int .i64 10000] 3))
      replace Rn := hide (Rn.out.alloc (.cells #[.int .i64 (-1), .int .i64 9999, .int .i64 10000] 3))
      replace G := hide (only_alloc G.out (.cells #[.int .i64 (-1), .int .i64 9999, .int .i64 10000] 3))
      replace T := hide (T.out.alloc (.cells #[.int .i64 (-1), .int .i64 9999, .int .i64 10000] 3))
      have Ln := Blk.new w3 3 #[Value.int .i64 (-1), .int .i64 9999, .int .i64 10000]
      refine (pick_any T.out (by omega) (by omega)).mono ?_
      rintro e w4 ⟨v4, a4, b4, rfl, hr4, hg4⟩
      replace Pn := hide (Pn.out.grown' hg4 (by omega))
      replace Rn := hide (Rn.out.grown' hg4 (by omega))
      replace G := hide (only_trans G.out hg4)
      replace T := hide hr4
      replace Ln := Ln.grown' hg4 (by omega)
      clear hr4 hg4
      have l0 := Ln.cell 0
      have l1 := Ln.cell 1
      have l2 := Ln.cell 2
      simp at l0 l1 l2
      have c2 := Pn.out.cell 2
      have f2 := Pn.out.frozen 2
      simp at c2
      clear Ln
      have hv : v4 = 0 ∨ v4 = 1 ∨ v4 = 2 := by omega
      rcases hv with rfl | rfl | rfl
      · have PP := Pn.out.set_ 2 (.int .i64 (-1))
        simp only [List.setIfInBounds_toArray, List.set_cons_zero, List.set_cons_succ] at PP
        have hlt := T.out.lt
        have k0 := (PP).cell 0
        have k1 := (PP).cell 1
        have k2 := (PP).cell 2
        have k3 := (PP).cell 3
        have k4 := (PP).cell 4
        have k5 := (PP).cell 5
        simp at k0 k1 k2 k3 k4 k5
        obtain ⟨We, ste, ke, Te, Ge⟩ : ∃ W, (storeD (.pointer (some ⟨w.heap.size, 0, none⟩)) (.agg #[.int .i64 0, .int .i64 v2, .int .i64 (-1), .int .i64 0, .int .i64 0, .int .i64 0])).run Tryd.prog (w4.setCell ⟨w.heap.size + 1, 2, none⟩ (.int .i64 (-1))) = .ok () W ∧ (∀ j, W.cell? ⟨w.heap.size, j, none⟩ = (#[.int .i64 0, .int .i64 v2, .int .i64 (-1), .int .i64 0, .int .i64 0, .int .i64 0] : Array Value)[j]?) ∧ Hid (Rd B W g (m + 12)) ∧ Hid (w.grownBy W (some g)) := ⟨_, storeD_row (Rn.out.far (p := ⟨w.heap.size + 1, 2, none⟩) (by simp) (.int .i64 (-1))) rfl _ _ _ _ _ _, fun j => cell_setRow_same _ _ j _ _ _ (0, 0) (Rn.out.far (p := ⟨w.heap.size + 1, 2, none⟩) (by simp) (.int .i64 (-1))), hide (Rd.setRow ((Rd.setCell (a := ⟨w.heap.size + 1, 2, none⟩) T.out (by simp; omega) (.int .i64 (-1))).more (by omega)) (by omega) _), hide (Blk.onlyRow (only_setCell (p := ⟨w.heap.size + 1, 2, none⟩) G.out (.inr (by simp)) (.int .i64 (-1))) (by omega) _)⟩
        clear T G Pn Rn
        go_wp2_with fail
        refine bodyPost_ret (by simp [results, Tryd.results61, go_sem, ke]; try rfl) rfl ?_
        exact ⟨_, _, _, _, _, _, rfl, Te.out, Ge.out⟩
      · have PP := Pn.out.set_ 2 (.int .i64 9999)
        simp only [List.setIfInBounds_toArray, List.set_cons_zero, List.set_cons_succ] at PP
        have hlt := T.out.lt
        have k0 := (PP).cell 0
        have k1 := (PP).cell 1
        have k2 := (PP).cell 2
        have k3 := (PP).cell 3
        have k4 := (PP).cell 4
        have k5 := (PP).cell 5
        simp at k0 k1 k2 k3 k4 k5
        obtain ⟨We, ste, ke, Te, Ge⟩ : ∃ W, (storeD (.pointer (some ⟨w.heap.size, 0, none⟩)) (.agg #[.int .i64 0, .int .i64 v2, .int .i64 9999, .int .i64 0, .int .i64 0, .int .i64 0])).run Tryd.prog (w4.setCell ⟨w.heap.size + 1, 2, none⟩ (.int .i64 9999)) = .ok () W ∧ (∀ j, W.cell? ⟨w.heap.size, j, none⟩ = (#[.int .i64 0, .int .i64 v2, .int .i64 9999, .int .i64 0, .int .i64 0, .int .i64 0] : Array Value)[j]?) ∧ Hid (Rd B W g (m + 12)) ∧ Hid (w.grownBy W (some g)) := ⟨_, storeD_row (Rn.out.far (p := ⟨w.heap.size + 1, 2, none⟩) (by simp) (.int .i64 9999)) rfl _ _ _ _ _ _, fun j => cell_setRow_same _ _ j _ _ _ (0, 0) (Rn.out.far (p := ⟨w.heap.size + 1, 2, none⟩) (by simp) (.int .i64 9999)), hide (Rd.setRow ((Rd.setCell (a := ⟨w.heap.size + 1, 2, none⟩) T.out (by simp; omega) (.int .i64 9999)).more (by omega)) (by omega) _), hide (Blk.onlyRow (only_setCell (p := ⟨w.heap.size + 1, 2, none⟩) G.out (.inr (by simp)) (.int .i64 9999)) (by omega) _)⟩
        clear T G Pn Rn
        go_wp2_with fail
        refine bodyPost_ret (by simp [results, Tryd.results61, go_sem, ke]; try rfl) rfl ?_
        exact ⟨_, _, _, _, _, _, rfl, Te.out, Ge.out⟩
      · have PP := Pn.out.set_ 2 (.int .i64 10000)
        simp only [List.setIfInBounds_toArray, List.set_cons_zero, List.set_cons_succ] at PP
        have hlt := T.out.lt
        have k0 := (PP).cell 0
        have k1 := (PP).cell 1
        have k2 := (PP).cell 2
        have k3 := (PP).cell 3
        have k4 := (PP).cell 4
        have k5 := (PP).cell 5
        simp at k0 k1 k2 k3 k4 k5
        obtain ⟨We, ste, ke, Te, Ge⟩ : ∃ W, (storeD (.pointer (some ⟨w.heap.size, 0, none⟩)) (.agg #[.int .i64 0, .int .i64 v2, .int .i64 10000, .int .i64 0, .int .i64 0, .int .i64 0])).run Tryd.prog (w4.setCell ⟨w.heap.size + 1, 2, none⟩ (.int .i64 10000)) = .ok () W ∧ (∀ j, W.cell? ⟨w.heap.size, j, none⟩ = (#[.int .i64 0, .int .i64 v2, .int .i64 10000, .int .i64 0, .int .i64 0, .int .i64 0] : Array Value)[j]?) ∧ Hid (Rd B W g (m + 12)) ∧ Hid (w.grownBy W (some g)) := ⟨_, storeD_row (Rn.out.far (p := ⟨w.heap.size + 1, 2, none⟩) (by simp) (.int .i64 10000)) rfl _ _ _ _ _ _, fun j => cell_setRow_same _ _ j _ _ _ (0, 0) (Rn.out.far (p := ⟨w.heap.size + 1, 2, none⟩) (by simp) (.int .i64 10000)), hide (Rd.setRow ((Rd.setCell (a := ⟨w.heap.size + 1, 2, none⟩) T.out (by simp; omega) (.int .i64 10000)).more (by omega)) (by omega) _), hide (Blk.onlyRow (only_setCell (p := ⟨w.heap.size + 1, 2, none⟩) G.out (.inr (by simp)) (.int .i64 10000)) (by omega) _)⟩
        clear T G Pn Rn
        go_wp2_with fail
        refine bodyPost_ret (by simp [results, Tryd.results61, go_sem, ke]; try rfl) rfl ?_
        exact ⟨_, _, _, _, _, _, rfl, Te.out, Ge.out⟩
    · have y3 : (v3 == 0) = false := beq_eq_false_iff_ne.2 z3
      have k0 := (Pn.out).cell 0
      have k1 := (Pn.out).cell 1
      have k2 := (Pn.out).cell 2
      have k3 := (Pn.out).cell 3
      have k4 := (Pn.out).cell 4
      have k5 := (Pn.out).cell 5
      simp at k0 k1 k2 k3 k4 k5
      obtain ⟨We, ste, ke, Te, Ge⟩ : ∃ W, (storeD (.pointer (some ⟨w.heap.size, 0, none⟩)) (.agg #[.int .i64 0, .int .i64 v2, .int .i64 0, .int .i64 0, .int .i64 0, .int .i64 0])).run Tryd.prog (w3) = .ok () W ∧ (∀ j, W.cell? ⟨w.heap.size, j, none⟩ = (#[.int .i64 0, .int .i64 v2, .int .i64 0, .int .i64 0, .int .i64 0, .int .i64 0] : Array Value)[j]?) ∧ Hid (Rd B W g (m + 12)) ∧ Hid (w.grownBy W (some g)) := ⟨_, storeD_row (Rn.out) rfl _ _ _ _ _ _, fun j => cell_setRow_same _ _ j _ _ _ (0, 0) (Rn.out), hide (Rd.setRow ((T.out).more (by omega)) (by omega) _), hide (Blk.onlyRow (G.out) (by omega) _)⟩
      clear T G Pn Rn
      go_wp2_with fail
      refine bodyPost_ret (by simp [results, Tryd.results61, go_sem, ke]; try rfl) rfl ?_
      exact ⟨_, _, _, _, _, _, rfl, Te.out, Ge.out⟩
  have y1 : (v1 == 1) = false := beq_eq_false_iff_ne.2 z1
  by_cases z2 : v1 = 2
  · subst z2
    go_wp2_with fail
    refine (pick_any T.out (by omega) (by omega)).mono ?_
    rintro e w2 ⟨v2, a2, b2, rfl, hr2, hg2⟩
    replace Pn := hide (Pn.out.grown' hg2 (by omega))
    replace Rn := hide (Rn.out.grown' hg2 (by omega))
    replace G := hide (only_trans G.out hg2)
    replace T := hide hr2
    clear hr2 hg2
    go_wp2_with fail
    refine (pick_any T.out (by omega) (by omega)).mono ?_
    rintro e w3 ⟨v3, a3, b3, rfl, hr3, hg3⟩
    replace Pn := hide (Pn.out.grown' hg3 (by omega))
    replace Rn := hide (Rn.out.grown' hg3 (by omega))
    replace G := hide (only_trans G.out hg3)
    replace T := hide hr3
    clear hr3 hg3
    go_wp2_with fail
    refine (pick_any T.out (by omega) (by omega)).mono ?_
    rintro e w4 ⟨v4, a4, b4, rfl, hr4, hg4⟩
    replace Pn := hide (Pn.out.grown' hg4 (by omega))
    replace Rn := hide (Rn.out.grown' hg4 (by omega))
    replace G := hide (only_trans G.out hg4)
    replace T := hide hr4
    clear hr4 hg4
    obtain ⟨Ws, stS, PS, RS, TS, GS⟩ : ∃ W, (storeD (.pointer (some ⟨w.heap.size + 1, 0, none⟩)) (.agg #[.int .i64 0, .int .i64 0, .int .i64 0, .int .i64 v2, .int .i64 v3, .int .i64 v4])).run Tryd.prog w4 = .ok () W ∧ Hid (Blk W (w.heap.size + 1) 44 #[.int .i64 0, .int .i64 0, .int .i64 0, .int .i64 v2, .int .i64 v3, .int .i64 v4]) ∧ Hid (Blk W (w.heap.size) 44 #[.int .i64 0, .int .i64 0, .int .i64 0, .int .i64 0, .int .i64 0, .int .i64 0]) ∧ Hid (Rd B W g (m + 4)) ∧ Hid (w.grownBy W (some g)) := ⟨_, storeD_row Pn.out rfl _ _ _ _ _ _, hide (Pn.out.setRow _), hide (Rn.out.setRow_far (by omega) _), hide (T.out.setRow (by omega) _), hide (Blk.onlyRow G.out (by omega) _)⟩
    have PN := hide (PS.out)
    have RN := hide (RS.out)
    have TN := hide (TS.out)
    have GN := hide (GS.out)
    replace Pn := PN
    replace Rn := RN
    replace T := TN
    replace G := GN
    clear PN RN TN GN
    go_wp2_with fail
    refine (pick_any T.out (by omega) (by omega)).mono ?_
    rintro e w5 ⟨v5, a5, b5, rfl, hr5, hg5⟩
    replace Pn := hide (Pn.out.grown' hg5 (by omega))
    replace Rn := hide (Rn.out.grown' hg5 (by omega))
    replace G := hide (only_trans G.out hg5)
    replace T := hide hr5
    clear hr5 hg5
    by_cases z5 : v5 = 0
    · subst z5
      go_wp2_with fail
      have hlt5 := T.out.lt
      replace Pn := hide (Pn.out.alloc (.cells #[.int .i64 (-1), .int .i64 9999, .int .i64 10000] 3))
      replace Rn := hide (Rn.out.alloc (.cells #[.int .i64 (-1), .int .i64 9999, .int .i64 10000] 3))
      replace G := hide (only_alloc G.out (.cells #[.int .i64 (-1), .int .i64 9999, .int .i64 10000] 3))
      replace T := hide (T.out.alloc (.cells #[.int .i64 (-1), .int .i64 9999, .int .i64 10000] 3))
      have Ln := Blk.new w5 3 #[Value.int .i64 (-1), .int .i64 9999, .int .i64 10000]
      refine (pick_any T.out (by omega) (by omega)).mono ?_
      rintro e w6 ⟨v6, a6, b6, rfl, hr6, hg6⟩
      replace Pn := hide (Pn.out.grown' hg6 (by omega))
      replace Rn := hide (Rn.out.grown' hg6 (by omega))
      replace G := hide (only_trans G.out hg6)
      replace T := hide hr6
      replace Ln := Ln.grown' hg6 (by omega)
      clear hr6 hg6
      have l0 := Ln.cell 0
      have l1 := Ln.cell 1
      have l2 := Ln.cell 2
      simp at l0 l1 l2
      have c2 := Pn.out.cell 2
      have f2 := Pn.out.frozen 2
      simp at c2
      clear Ln
      have hv : v6 = 0 ∨ v6 = 1 ∨ v6 = 2 := by omega
      rcases hv with rfl | rfl | rfl
      · have PP := Pn.out.set_ 2 (.int .i64 (-1))
        simp only [List.setIfInBounds_toArray, List.set_cons_zero, List.set_cons_succ] at PP
        have hlt := T.out.lt
        have k0 := (PP).cell 0
        have k1 := (PP).cell 1
        have k2 := (PP).cell 2
        have k3 := (PP).cell 3
        have k4 := (PP).cell 4
        have k5 := (PP).cell 5
        simp at k0 k1 k2 k3 k4 k5
        obtain ⟨We, ste, ke, Te, Ge⟩ : ∃ W, (storeD (.pointer (some ⟨w.heap.size, 0, none⟩)) (.agg #[.int .i64 0, .int .i64 0, .int .i64 (-1), .int .i64 v2, .int .i64 v3, .int .i64 v4])).run Tryd.prog (w6.setCell ⟨w.heap.size + 1, 2, none⟩ (.int .i64 (-1))) = .ok () W ∧ (∀ j, W.cell? ⟨w.heap.size, j, none⟩ = (#[.int .i64 0, .int .i64 0, .int .i64 (-1), .int .i64 v2, .int .i64 v3, .int .i64 v4] : Array Value)[j]?) ∧ Hid (Rd B W g (m + 12)) ∧ Hid (w.grownBy W (some g)) := ⟨_, storeD_row (Rn.out.far (p := ⟨w.heap.size + 1, 2, none⟩) (by simp) (.int .i64 (-1))) rfl _ _ _ _ _ _, fun j => cell_setRow_same _ _ j _ _ _ (0, 0) (Rn.out.far (p := ⟨w.heap.size + 1, 2, none⟩) (by simp) (.int .i64 (-1))), hide (Rd.setRow ((Rd.setCell (a := ⟨w.heap.size + 1, 2, none⟩) T.out (by simp; omega) (.int .i64 (-1))).more (by omega)) (by omega) _), hide (Blk.onlyRow (only_setCell (p := ⟨w.heap.size + 1, 2, none⟩) G.out (.inr (by simp)) (.int .i64 (-1))) (by omega) _)⟩
        clear T G Pn Rn
        go_wp2_with fail
        refine bodyPost_ret (by simp [results, Tryd.results61, go_sem, ke]; try rfl) rfl ?_
        exact ⟨_, _, _, _, _, _, rfl, Te.out, Ge.out⟩
      · have PP := Pn.out.set_ 2 (.int .i64 9999)
        simp only [List.setIfInBounds_toArray, List.set_cons_zero, List.set_cons_succ] at PP
        have hlt := T.out.lt
        have k0 := (PP).cell 0
        have k1 := (PP).cell 1
        have k2 := (PP).cell 2
        have k3 := (PP).cell 3
        have k4 := (PP).cell 4
        have k5 := (PP).cell 5
        simp at k0 k1 k2 k3 k4 k5
        obtain ⟨We, ste, ke, Te, Ge⟩ : ∃ W, (storeD (.pointer (some ⟨w.heap.size, 0, none⟩)) (.agg #[.int .i64 0, .int .i64 0, .int .i64 9999, .int .i64 v2, .int .i64 v3, .int .i64 v4])).run Tryd.prog (w6.setCell ⟨w.heap.size + 1, 2, none⟩ (.int .i64 9999)) = .ok () W ∧ (∀ j, W.cell? ⟨w.heap.size, j, none⟩ = (#[.int .i64 0, .int .i64 0, .int .i64 9999, .int .i64 v2, .int .i64 v3, .int .i64 v4] : Array Value)[j]?) ∧ Hid (Rd B W g (m + 12)) ∧ Hid (w.grownBy W (some g)) := ⟨_, storeD_row (Rn.out.far (p := ⟨w.heap.size + 1, 2, none⟩) (by simp) (.int .i64 9999)) rfl _ _ _ _ _ _, fun j => cell_setRow_same _ _ j _ _ _ (0, 0) (Rn.out.far (p := ⟨w.heap.size + 1, 2, none⟩) (by simp) (.int .i64 9999)), hide (Rd.setRow ((Rd.setCell (a := ⟨w.heap.size + 1, 2, none⟩) T.out (by simp; omega) (.int .i64 9999)).more (by omega)) (by omega) _), hide (Blk.onlyRow (only_setCell (p := ⟨w.heap.size + 1, 2, none⟩) G.out (.inr (by simp)) (.int .i64 9999)) (by omega) _)⟩
        clear T G Pn Rn
        go_wp2_with fail
        refine bodyPost_ret (by simp [results, Tryd.results61, go_sem, ke]; try rfl) rfl ?_
        exact ⟨_, _, _, _, _, _, rfl, Te.out, Ge.out⟩
      · have PP := Pn.out.set_ 2 (.int .i64 10000)
        simp only [List.setIfInBounds_toArray, List.set_cons_zero, List.set_cons_succ] at PP
        have hlt := T.out.lt
        have k0 := (PP).cell 0
        have k1 := (PP).cell 1
        have k2 := (PP).cell 2
        have k3 := (PP).cell 3
        have k4 := (PP).cell 4
        have k5 := (PP).cell 5
        simp at k0 k1 k2 k3 k4 k5
        obtain ⟨We, ste, ke, Te, Ge⟩ : ∃ W, (storeD (.pointer (some ⟨w.heap.size, 0, none⟩)) (.agg #[.int .i64 0, .int .i64 0, .int .i64 10000, .int .i64 v2, .int .i64 v3, .int .i64 v4])).run Tryd.prog (w6.setCell ⟨w.heap.size + 1, 2, none⟩ (.int .i64 10000)) = .ok () W ∧ (∀ j, W.cell? ⟨w.heap.size, j, none⟩ = (#[.int .i64 0, .int .i64 0, .int .i64 10000, .int .i64 v2, .int .i64 v3, .int .i64 v4] : Array Value)[j]?) ∧ Hid (Rd B W g (m + 12)) ∧ Hid (w.grownBy W (some g)) := ⟨_, storeD_row (Rn.out.far (p := ⟨w.heap.size + 1, 2, none⟩) (by simp) (.int .i64 10000)) rfl _ _ _ _ _ _, fun j => cell_setRow_same _ _ j _ _ _ (0, 0) (Rn.out.far (p := ⟨w.heap.size + 1, 2, none⟩) (by simp) (.int .i64 10000)), hide (Rd.setRow ((Rd.setCell (a := ⟨w.heap.size + 1, 2, none⟩) T.out (by simp; omega) (.int .i64 10000)).more (by omega)) (by omega) _), hide (Blk.onlyRow (only_setCell (p := ⟨w.heap.size + 1, 2, none⟩) G.out (.inr (by simp)) (.int .i64 10000)) (by omega) _)⟩
        clear T G Pn Rn
        go_wp2_with fail
        refine bodyPost_ret (by simp [results, Tryd.results61, go_sem, ke]; try rfl) rfl ?_
        exact ⟨_, _, _, _, _, _, rfl, Te.out, Ge.out⟩
    · have y5 : (v5 == 0) = false := beq_eq_false_iff_ne.2 z5
      have k0 := (Pn.out).cell 0
      have k1 := (Pn.out).cell 1
      have k2 := (Pn.out).cell 2
      have k3 := (Pn.out).cell 3
      have k4 := (Pn.out).cell 4
      have k5 := (Pn.out).cell 5
      simp at k0 k1 k2 k3 k4 k5
      obtain ⟨We, ste, ke, Te, Ge⟩ : ∃ W, (storeD (.pointer (some ⟨w.heap.size, 0, none⟩)) (.agg #[.int .i64 0, .int .i64 0, .int .i64 0, .int .i64 v2, .int .i64 v3, .int .i64 v4])).run Tryd.prog (w5) = .ok () W ∧ (∀ j, W.cell? ⟨w.heap.size, j, none⟩ = (#[.int .i64 0, .int .i64 0, .int .i64 0, .int .i64 v2, .int .i64 v3, .int .i64 v4] : Array Value)[j]?) ∧ Hid (Rd B W g (m + 12)) ∧ Hid (w.grownBy W (some g)) := ⟨_, storeD_row (Rn.out) rfl _ _ _ _ _ _, fun j => cell_setRow_same _ _ j _ _ _ (0, 0) (Rn.out), hide (Rd.setRow ((T.out).more (by omega)) (by omega) _), hide (Blk.onlyRow (G.out) (by omega) _)⟩
      clear T G Pn Rn
      go_wp2_with fail
      refine bodyPost_ret (by simp [results, Tryd.results61, go_sem, ke]; try rfl) rfl ?_
      exact ⟨_, _, _, _, _, _, rfl, Te.out, Ge.out⟩
  · have y2 : (v1 == 2) = false := beq_eq_false_iff_ne.2 z2
    go_wp2_with fail
    refine (pick_any T.out (by omega) (by omega)).mono ?_
    rintro e w2 ⟨v2, a2, b2, rfl, hr2, hg2⟩
    replace Pn := hide (Pn.out.grown' hg2 (by omega))
    replace Rn := hide (Rn.out.grown' hg2 (by omega))
    replace G := hide (only_trans G.out hg2)
    replace T := hide hr2
    clear hr2 hg2
    go_wp2_with fail
    refine (pick_any T.out (by omega) (by omega)).mono ?_
    rintro e w3 ⟨v3, a3, b3, rfl, hr3, hg3⟩
    replace Pn := hide (Pn.out.grown' hg3 (by omega))
    replace Rn := hide (Rn.out.grown' hg3 (by omega))
    replace G := hide (only_trans G.out hg3)
    replace T := hide hr3
    clear hr3 hg3
    go_wp2_with fail
    refine (pick_any T.out (by omega) (by omega)).mono ?_
    rintro e w4 ⟨v4, a4, b4, rfl, hr4, hg4⟩
    replace Pn := hide (Pn.out.grown' hg4 (by omega))
    replace Rn := hide (Rn.out.grown' hg4 (by omega))
    replace G := hide (only_trans G.out hg4)
    replace T := hide hr4
    clear hr4 hg4
    go_wp2_with fail
    refine (pick_any T.out (by omega) (by omega)).mono ?_
    rintro e w5 ⟨v5, a5, b5, rfl, hr5, hg5⟩
    replace Pn := hide (Pn.out.grown' hg5 (by omega))
    replace Rn := hide (Rn.out.grown' hg5 (by omega))
    replace G := hide (only_trans G.out hg5)
    replace T := hide hr5
    clear hr5 hg5
    go_wp2_with fail
    refine (pick_any T.out (by omega) (by omega)).mono ?_
    rintro e w6 ⟨v6, a6, b6, rfl, hr6, hg6⟩
    replace Pn := hide (Pn.out.grown' hg6 (by omega))
    replace Rn := hide (Rn.out.grown' hg6 (by omega))
    replace G := hide (only_trans G.out hg6)
    replace T := hide hr6
    clear hr6 hg6
    go_wp2_with fail
    refine (pick_any T.out (by omega) (by omega)).mono ?_
    rintro e w7 ⟨v7, a7, b7, rfl, hr7, hg7⟩
    replace Pn := hide (Pn.out.grown' hg7 (by omega))
    replace Rn := hide (Rn.out.grown' hg7 (by omega))
    replace G := hide (only_trans G.out hg7)
    replace T := hide hr7
    clear hr7 hg7
    go_wp2_with fail
    refine (pick_any T.out (by omega) (by omega)).mono ?_
    rintro e w8 ⟨v8, a8, b8, rfl, hr8, hg8⟩
    replace Pn := hide (Pn.out.grown' hg8 (by omega))
    replace Rn := hide (Rn.out.grown' hg8 (by omega))
    replace G := hide (only_trans G.out hg8)
    replace T := hide hr8
    clear hr8 hg8
    go_wp2_with fail
    refine (pick_any T.out (by omega) (by omega)).mono ?_
    rintro e w9 ⟨v9, a9, b9, rfl, hr9, hg9⟩
    replace Pn := hide (Pn.out.grown' hg9 (by omega))
    replace Rn := hide (Rn.out.grown' hg9 (by omega))
    replace G := hide (only_trans G.out hg9)
    replace T := hide hr9
    clear hr9 hg9
    go_wp2_with fail
    refine (pick_any T.out (by omega) (by omega)).mono ?_
    rintro e w10 ⟨v10, a10, b10, rfl, hr10, hg10⟩
    replace Pn := hide (Pn.out.grown' hg10 (by omega))
    replace Rn := hide (Rn.out.grown' hg10 (by omega))
    replace G := hide (only_trans G.out hg10)
    replace T := hide hr10
    clear hr10 hg10
    obtain ⟨Ws, stS, PS, RS, TS, GS⟩ : ∃ W, (storeD (.pointer (some ⟨w.heap.size + 1, 0, none⟩)) (.agg #[.int .i64 v2, .int .i64 v3, .int .i64 v4, .int .i64 (wrap64 (v5 * v6)), .int .i64 (wrap64 (v7 * v8)), .int .i64 (wrap64 (v9 * v10))])).run Tryd.prog w10 = .ok () W ∧ Hid (Blk W (w.heap.size + 1) 44 #[.int .i64 v2, .int .i64 v3, .int .i64 v4, .int .i64 (wrap64 (v5 * v6)), .int .i64 (wrap64 (v7 * v8)), .int .i64 (wrap64 (v9 * v10))]) ∧ Hid (Blk W (w.heap.size) 44 #[.int .i64 0, .int .i64 0, .int .i64 0, .int .i64 0, .int .i64 0, .int .i64 0]) ∧ Hid (Rd B W g (m + 10)) ∧ Hid (w.grownBy W (some g)) := ⟨_, storeD_row Pn.out rfl _ _ _ _ _ _, hide (Pn.out.setRow _), hide (Rn.out.setRow_far (by omega) _), hide (T.out.setRow (by omega) _), hide (Blk.onlyRow G.out (by omega) _)⟩
    have PN := hide (PS.out)
    have RN := hide (RS.out)
    have TN := hide (TS.out)
    have GN := hide (GS.out)
    replace Pn := PN
    replace Rn := RN
    replace T := TN
    replace G := GN
    clear PN RN TN GN
    go_wp2_with fail
    refine (pick_any T.out (by omega) (by omega)).mono ?_
    rintro e w11 ⟨v11, a11, b11, rfl, hr11, hg11⟩
    replace Pn := hide (Pn.out.grown' hg11 (by omega))
    replace Rn := hide (Rn.out.grown' hg11 (by omega))
    replace G := hide (only_trans G.out hg11)
    replace T := hide hr11
    clear hr11 hg11
    by_cases z11 : v11 = 0
    · subst z11
      go_wp2_with fail
      have hlt11 := T.out.lt
      replace Pn := hide (Pn.out.alloc (.cells #[.int .i64 (-1), .int .i64 9999, .int .i64 10000] 3))
      replace Rn := hide (Rn.out.alloc (.cells #[.int .i64 (-1), .int .i64 9999, .int .i64 10000] 3))
      replace G := hide (only_alloc G.out (.cells #[.int .i64 (-1), .int .i64 9999, .int .i64 10000] 3))
      replace T := hide (T.out.alloc (.cells #[.int .i64 (-1), .int .i64 9999, .int .i64 10000] 3))
      have Ln := Blk.new w11 3 #[Value.int .i64 (-1), .int .i64 9999, .int .i64 10000]
      refine (pick_any T.out (by omega) (by omega)).mono ?_
      rintro e w12 ⟨v12, a12, b12, rfl, hr12, hg12⟩
      replace Pn := hide (Pn.out.grown' hg12 (by omega))
      replace Rn := hide (Rn.out.grown' hg12 (by omega))
      replace G := hide (only_trans G.out hg12)
      replace T := hide hr12
      replace Ln := Ln.grown' hg12 (by omega)
      clear hr12 hg12
      have l0 := Ln.cell 0
      have l1 := Ln.cell 1
      have l2 := Ln.cell 2
      simp at l0 l1 l2
      have c2 := Pn.out.cell 2
      have f2 := Pn.out.frozen 2
      simp at c2
      clear Ln
      have hv : v12 = 0 ∨ v12 = 1 ∨ v12 = 2 := by omega
      rcases hv with rfl | rfl | rfl
      · have PP := Pn.out.set_ 2 (.int .i64 (-1))
        simp only [List.setIfInBounds_toArray, List.set_cons_zero, List.set_cons_succ] at PP
        have hlt := T.out.lt
        have k0 := (PP).cell 0
        have k1 := (PP).cell 1
        have k2 := (PP).cell 2
        have k3 := (PP).cell 3
        have k4 := (PP).cell 4
        have k5 := (PP).cell 5
        simp at k0 k1 k2 k3 k4 k5
        obtain ⟨We, ste, ke, Te, Ge⟩ : ∃ W, (storeD (.pointer (some ⟨w.heap.size, 0, none⟩)) (.agg #[.int .i64 v2, .int .i64 v3, .int .i64 (-1), .int .i64 (wrap64 (v5 * v6)), .int .i64 (wrap64 (v7 * v8)), .int .i64 (wrap64 (v9 * v10))])).run Tryd.prog (w12.setCell ⟨w.heap.size + 1, 2, none⟩ (.int .i64 (-1))) = .ok () W ∧ (∀ j, W.cell? ⟨w.heap.size, j, none⟩ = (#[.int .i64 v2, .int .i64 v3, .int .i64 (-1), .int .i64 (wrap64 (v5 * v6)), .int .i64 (wrap64 (v7 * v8)), .int .i64 (wrap64 (v9 * v10))] : Array Value)[j]?) ∧ Hid (Rd B W g (m + 12)) ∧ Hid (w.grownBy W (some g)) := ⟨_, storeD_row (Rn.out.far (p := ⟨w.heap.size + 1, 2, none⟩) (by simp) (.int .i64 (-1))) rfl _ _ _ _ _ _, fun j => cell_setRow_same _ _ j _ _ _ (0, 0) (Rn.out.far (p := ⟨w.heap.size + 1, 2, none⟩) (by simp) (.int .i64 (-1))), hide (Rd.setRow ((Rd.setCell (a := ⟨w.heap.size + 1, 2, none⟩) T.out (by simp; omega) (.int .i64 (-1))).more (by omega)) (by omega) _), hide (Blk.onlyRow (only_setCell (p := ⟨w.heap.size + 1, 2, none⟩) G.out (.inr (by simp)) (.int .i64 (-1))) (by omega) _)⟩
        clear T G Pn Rn
        go_wp2_with fail
        refine bodyPost_ret (by simp [results, Tryd.results61, go_sem, ke]; try rfl) rfl ?_
        exact ⟨_, _, _, _, _, _, rfl, Te.out, Ge.out⟩
      · have PP := Pn.out.set_ 2 (.int .i64 9999)
        simp only [List.setIfInBounds_toArray, List.set_cons_zero, List.set_cons_succ] at PP
        have hlt := T.out.lt
        have k0 := (PP).cell 0
        have k1 := (PP).cell 1
        have k2 := (PP).cell 2
        have k3 := (PP).cell 3
        have k4 := (PP).cell 4
        have k5 := (PP).cell 5
        simp at k0 k1 k2 k3 k4 k5
        obtain ⟨We, ste, ke, Te, Ge⟩ : ∃ W, (storeD (.pointer (some ⟨w.heap.size, 0, none⟩)) (.agg #[.int .i64 v2, .int .i64 v3, .int .i64 9999, .int .i64 (wrap64 (v5 * v6)), .int .i64 (wrap64 (v7 * v8)), .int .i64 (wrap64 (v9 * v10))])).run Tryd.prog (w12.setCell ⟨w.heap.size + 1, 2, none⟩ (.int .i64 9999)) = .ok () W ∧ (∀ j, W.cell? ⟨w.heap.size, j, none⟩ = (#[.int .i64 v2, .int .i64 v3, .int .i64 9999, .int .i64 (wrap64 (v5 * v6)), .int .i64 (wrap64 (v7 * v8)), .int .i64 (wrap64 (v9 * v10))] : Array Value)[j]?) ∧ Hid (Rd B W g (m + 12)) ∧ Hid (w.grownBy W (some g)) := ⟨_, storeD_row (Rn.out.far (p := ⟨w.heap.size + 1, 2, none⟩) (by simp) (.int .i64 9999)) rfl _ _ _ _ _ _, fun j => cell_setRow_same _ _ j _ _ _ (0, 0) (Rn.out.far (p := ⟨w.heap.size + 1, 2, none⟩) (by simp) (.int .i64 9999)), hide (Rd.setRow ((Rd.setCell (a := ⟨w.heap.size + 1, 2, none⟩) T.out (by simp; omega) (.int .i64 9999)).more (by omega)) (by omega) _), hide (Blk.onlyRow (only_setCell (p := ⟨w.heap.size + 1, 2, none⟩) G.out (.inr (by simp)) (.int .i64 9999)) (by omega) _)⟩
        clear T G Pn Rn
        go_wp2_with fail
        refine bodyPost_ret (by simp [results, Tryd.results61, go_sem, ke]; try rfl) rfl ?_
        exact ⟨_, _, _, _, _, _, rfl, Te.out, Ge.out⟩
      · have PP := Pn.out.set_ 2 (.int .i64 10000)
        simp only [List.setIfInBounds_toArray, List.set_cons_zero, List.set_cons_succ] at PP
        have hlt := T.out.lt
        have k0 := (PP).cell 0
        have k1 := (PP).cell 1
        have k2 := (PP).cell 2
        have k3 := (PP).cell 3
        have k4 := (PP).cell 4
        have k5 := (PP).cell 5
        simp at k0 k1 k2 k3 k4 k5
        obtain ⟨We, ste, ke, Te, Ge⟩ : ∃ W, (storeD (.pointer (some ⟨w.heap.size, 0, none⟩)) (.agg #[.int .i64 v2, .int .i64 v3, .int .i64 10000, .int .i64 (wrap64 (v5 * v6)), .int .i64 (wrap64 (v7 * v8)), .int .i64 (wrap64 (v9 * v10))])).run Tryd.prog (w12.setCell ⟨w.heap.size + 1, 2, none⟩ (.int .i64 10000)) = .ok () W ∧ (∀ j, W.cell? ⟨w.heap.size, j, none⟩ = (#[.int .i64 v2, .int .i64 v3, .int .i64 10000, .int .i64 (wrap64 (v5 * v6)), .int .i64 (wrap64 (v7 * v8)), .int .i64 (wrap64 (v9 * v10))] : Array Value)[j]?) ∧ Hid (Rd B W g (m + 12)) ∧ Hid (w.grownBy W (some g)) := ⟨_, storeD_row (Rn.out.far (p := ⟨w.heap.size + 1, 2, none⟩) (by simp) (.int .i64 10000)) rfl _ _ _ _ _ _, fun j => cell_setRow_same _ _ j _ _ _ (0, 0) (Rn.out.far (p := ⟨w.heap.size + 1, 2, none⟩) (by simp) (.int .i64 10000)), hide (Rd.setRow ((Rd.setCell (a := ⟨w.heap.size + 1, 2, none⟩) T.out (by simp; omega) (.int .i64 10000)).more (by omega)) (by omega) _), hide (Blk.onlyRow (only_setCell (p := ⟨w.heap.size + 1, 2, none⟩) G.out (.inr (by simp)) (.int .i64 10000)) (by omega) _)⟩
        clear T G Pn Rn
        go_wp2_with fail
        refine bodyPost_ret (by simp [results, Tryd.results61, go_sem, ke]; try rfl) rfl ?_
        exact ⟨_, _, _, _, _, _, rfl, Te.out, Ge.out⟩
    · have y11 : (v11 == 0) = false := beq_eq_false_iff_ne.2 z11
      have k0 := (Pn.out).cell 0
      have k1 := (Pn.out).cell 1
      have k2 := (Pn.out).cell 2
      have k3 := (Pn.out).cell 3
      have k4 := (Pn.out).cell 4
      have k5 := (Pn.out).cell 5
      simp at k0 k1 k2 k3 k4 k5
      obtain ⟨We, ste, ke, Te, Ge⟩ : ∃ W, (storeD (.pointer (some ⟨w.heap.size, 0, none⟩)) (.agg #[.int .i64 v2, .int .i64 v3, .int .i64 v4, .int .i64 (wrap64 (v5 * v6)), .int .i64 (wrap64 (v7 * v8)), .int .i64 (wrap64 (v9 * v10))])).run Tryd.prog (w11) = .ok () W ∧ (∀ j, W.cell? ⟨w.heap.size, j, none⟩ = (#[.int .i64 v2, .int .i64 v3, .int .i64 v4, .int .i64 (wrap64 (v5 * v6)), .int .i64 (wrap64 (v7 * v8)), .int .i64 (wrap64 (v9 * v10))] : Array Value)[j]?) ∧ Hid (Rd B W g (m + 12)) ∧ Hid (w.grownBy W (some g)) := ⟨_, storeD_row (Rn.out) rfl _ _ _ _ _ _, fun j => cell_setRow_same _ _ j _ _ _ (0, 0) (Rn.out), hide (Rd.setRow ((T.out).more (by omega)) (by omega) _), hide (Blk.onlyRow (G.out) (by omega) _)⟩
      clear T G Pn Rn
      go_wp2_with fail
      refine bodyPost_ret (by simp [results, Tryd.results61, go_sem, ke]; try rfl) rfl ?_
      exact ⟨_, _, _, _, _, _, rfl, Te.out, Ge.out⟩
end
end Go.Proofs.YtinemkjoohgmjaaDoor
