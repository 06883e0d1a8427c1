/- Contracts: the length of a span (the reference's). -/
import Derived.Test.YtinemkjoohgmjaaDoorSt4
import Derived.Test.YtinemkjoohgmjaaDoorSt5
namespace Go.Proofs.YtinemkjoohgmjaaDoor
open Go.RowKit

/-- The length of a span, or -1. -/
def spL (a b : S8) : Int := if a.ok && (b.ok && decide (a.ins ≤ b.ins)) then b.ins - a.ins else -1
theorem spL_yes {a b : S8} (ha : a.ok = true) (hb : b.ok = true) (h : a.ins ≤ b.ins) : spL a b = b.ins - a.ins := by unfold spL; rw [ha, hb, decide_eq_true h]; rfl
theorem spL_a {a b : S8} (ha : a.ok = false) : spL a b = -1 := by unfold spL; rw [ha]; rfl
theorem spL_b {a b : S8} (hb : b.ok = false) : spL a b = -1 := by unfold spL; rw [hb]; simp
theorem spL_no {a b : S8} (h : ¬ a.ins ≤ b.ins) : spL a b = -1 := by unfold spL; rw [decide_eq_false h]; simp
section
attribute [local go_sem] lt_cell
set_option maxRecDepth 100000 in
set_option maxHeartbeats 2000000 in
theorem spec_sl (a b : S8) (w : World) :
    Calls Tryd.prog 20 #[.agg a.v, .agg b.v] w fun e w' => e = .returned (.int .i64 (spL a b)) ∧ Below w.heap.size w w' := by
  obtain ⟨ya, moa, da, ha, mia, sa, msa, oa⟩ := a
  obtain ⟨yb, mob, db, hb, mib, sb, msb, ob⟩ := b
  have B0 := hide (bal (bal (Below.refl w.heap.size w) (.cells #[.int .i64 ya, .int .i64 moa, .int .i64 da, .int .i64 ha, .int .i64 mia, .int .i64 sa, .int .i64 msa, .int .i64 oa] 28)) (.cells #[.int .i64 yb, .int .i64 mob, .int .i64 db, .int .i64 hb, .int .i64 mib, .int .i64 sb, .int .i64 msb, .int .i64 ob] 28))
  have hA : ∀ W : World, Calls Tryd.prog 45 #[.agg #[.int .i64 ya, .int .i64 moa, .int .i64 da, .int .i64 ha, .int .i64 mia, .int .i64 sa, .int .i64 msa, .int .i64 oa]] W fun e w' => e = .returned (.bool (S8.ok ⟨ya, moa, da, ha, mia, sa, msa, oa⟩)) ∧ Below W.heap.size W w' := fun W => spec_sv ⟨ya, moa, da, ha, mia, sa, msa, oa⟩ W
  have hB : ∀ W : World, Calls Tryd.prog 45 #[.agg #[.int .i64 yb, .int .i64 mob, .int .i64 db, .int .i64 hb, .int .i64 mib, .int .i64 sb, .int .i64 msb, .int .i64 ob]] W fun e w' => e = .returned (.bool (S8.ok ⟨yb, mob, db, hb, mib, sb, msb, ob⟩)) ∧ Below W.heap.size W w' := fun W => spec_sv ⟨yb, mob, db, hb, mib, sb, msb, ob⟩ W
  simp only [S8.v]
  cases hka : S8.ok ⟨ya, moa, da, ha, mia, sa, msa, oa⟩ with
  | false =>
    have HR := hide (spL_a (b := ⟨yb, mob, db, hb, mib, sb, msb, ob⟩) hka)
    rw [hka] at hA
    clear hka
    go_enter Tryd.func20, Tryd.ntmps20
    go_wp2_with fail
    refine region_below (by kernel_rfl) (by kernel_rfl) ?_
    repeat (go_big_quiet_step ((go_at_call 45; exact lt_call (hA _))))
    refine wpQuiet_nil ?_
    rintro wq ⟨⟨_, hq⟩, rfl⟩
    go_wp2
    go_ret
    exact ⟨ret_int HR.out.symm, bto B0.out hq⟩
  | true =>
    cases hkb : S8.ok ⟨yb, mob, db, hb, mib, sb, msb, ob⟩ with
    | false =>
      have HR := hide (spL_b (a := ⟨ya, moa, da, ha, mia, sa, msa, oa⟩) hkb)
      rw [hka] at hA
      rw [hkb] at hB
      clear hka hkb
      go_enter Tryd.func20, Tryd.ntmps20
      go_wp2_with fail
      refine region_below (by kernel_rfl) (by kernel_rfl) ?_
      repeat (go_big_quiet_step ((first | (go_at_call_of 45 ya; exact lt_call (hA _)) | (go_at_call_of 45 yb; exact lt_call (hB _)))))
      refine wpQuiet_nil ?_
      rintro wq ⟨⟨_, hq⟩, rfl⟩
      go_wp2
      go_ret
      exact ⟨ret_int HR.out.symm, bto B0.out hq⟩
    | true =>
      rw [hka] at hA
      rw [hkb] at hB
      have hIA : ∀ W : World, Calls Tryd.prog 41 #[.agg #[.int .i64 ya, .int .i64 moa, .int .i64 da, .int .i64 ha, .int .i64 mia, .int .i64 sa, .int .i64 msa, .int .i64 oa]] W fun e w' => e = .returned (.int .i64 (S8.ins ⟨ya, moa, da, ha, mia, sa, msa, oa⟩)) ∧ Below W.heap.size W w' := fun W => spec_l12i ⟨ya, moa, da, ha, mia, sa, msa, oa⟩ W hka
      have hIB : ∀ W : World, Calls Tryd.prog 41 #[.agg #[.int .i64 yb, .int .i64 mob, .int .i64 db, .int .i64 hb, .int .i64 mib, .int .i64 sb, .int .i64 msb, .int .i64 ob]] W fun e w' => e = .returned (.int .i64 (S8.ins ⟨yb, mob, db, hb, mib, sb, msb, ob⟩)) ∧ Below W.heap.size W w' := fun W => spec_l12i ⟨yb, mob, db, hb, mib, sb, msb, ob⟩ W hkb
      have ba := S8.ins_bd hka
      have bb := S8.ins_bd hkb
      by_cases hle : S8.ins ⟨ya, moa, da, ha, mia, sa, msa, oa⟩ ≤ S8.ins ⟨yb, mob, db, hb, mib, sb, msb, ob⟩
      · have HR := hide (spL_yes hka hkb hle)
        generalize S8.ins ⟨ya, moa, da, ha, mia, sa, msa, oa⟩ = na at *
        generalize S8.ins ⟨yb, mob, db, hb, mib, sb, msb, ob⟩ = nb at *
        have e1 : IntKind.i64.wrap (nb - na) = nb - na := IntWalk.i64_in _ (by omega)
        have g1 : decide (na > nb) = false := decide_eq_false (by omega)
        have g2 : decide (nb < na) = false := decide_eq_false (by omega)
        clear hka hkb
        go_enter Tryd.func20, Tryd.ntmps20
        go_wp2_with fail
        refine region_below (by kernel_rfl) (by kernel_rfl) ?_
        repeat (go_big_quiet_step (first | (first | (go_at_call_of 45 ya; exact lt_call (hA _)) | (go_at_call_of 45 yb; exact lt_call (hB _))) | (first | (go_at_call_of 41 ya; exact lt_call (hIA _)) | (go_at_call_of 41 yb; exact lt_call (hIB _)))))
        refine wpQuiet_nil ?_
        rintro wq ⟨⟨_, hq⟩, rfl⟩
        have XA := ((Blk.new w 28 #[.int .i64 ya, .int .i64 moa, .int .i64 da, .int .i64 ha, .int .i64 mia, .int .i64 sa, .int .i64 msa, .int .i64 oa]).alloc (.cells #[.int .i64 yb, .int .i64 mob, .int .i64 db, .int .i64 hb, .int .i64 mib, .int .i64 sb, .int .i64 msb, .int .i64 ob] 28)).below hq (by simp; omega)
        have XB := (Blk.newE (W := w.alloc (.cells #[.int .i64 ya, .int .i64 moa, .int .i64 da, .int .i64 ha, .int .i64 mia, .int .i64 sa, .int .i64 msa, .int .i64 oa] 28)) (g := w.heap.size + 1) (t := 28) (cs := #[.int .i64 yb, .int .i64 mob, .int .i64 db, .int .i64 hb, .int .i64 mib, .int .i64 sb, .int .i64 msb, .int .i64 ob]) (by simp)).below hq (by simp)
        obtain ⟨a0, a1, a2, a3, a4, a5, a6, a7⟩ := st8 XA
        obtain ⟨b0, b1, b2, b3, b4, b5, b6, b7⟩ := st8 XB
        have la := XA.lt
        have lb := XB.lt
        have la' := Nat.le_of_lt la
        have lb' := Nat.le_of_lt lb
        clear XA XB
        go_wp2_with fail
        refine region_below (by kernel_rfl) (by kernel_rfl) ?_
        repeat (go_big_quiet_step ((first | (go_at_call_of 41 ya; exact lt_call (hIA _)) | (go_at_call_of 41 yb; exact lt_call (hIB _)))))
        refine wpQuiet_nil ?_
        rintro wr ⟨⟨_, hr⟩, rfl⟩
        go_wp2
        go_ret
        exact ⟨ret_int (by first | exact HR.out.symm | (rw [e1]; exact HR.out.symm)), bto (bto B0.out hq) hr⟩
      · have HR := hide (spL_no hle)
        generalize S8.ins ⟨ya, moa, da, ha, mia, sa, msa, oa⟩ = na at *
        generalize S8.ins ⟨yb, mob, db, hb, mib, sb, msb, ob⟩ = nb at *
        have g1 : decide (na > nb) = true := decide_eq_true (by omega)
        have g2 : decide (nb < na) = true := decide_eq_true (by omega)
        clear hka hkb
        go_enter Tryd.func20, Tryd.ntmps20
        go_wp2_with fail
        refine region_below (by kernel_rfl) (by kernel_rfl) ?_
        repeat (go_big_quiet_step (first | (first | (go_at_call_of 45 ya; exact lt_call (hA _)) | (go_at_call_of 45 yb; exact lt_call (hB _))) | (first | (go_at_call_of 41 ya; exact lt_call (hIA _)) | (go_at_call_of 41 yb; exact lt_call (hIB _)))))
        refine wpQuiet_nil ?_
        rintro wq ⟨⟨_, hq⟩, rfl⟩
        go_wp2
        go_ret
        exact ⟨ret_int HR.out.symm, bto B0.out hq⟩
end
end Go.Proofs.YtinemkjoohgmjaaDoor
