/- Draws: a date that exists, a stamp that is valid. -/
import Derived.Test.YtinemkjoohgmjaaDoorDrS
import Derived.Test.YtinemkjoohgmjaaDoorSt3
namespace Go.Proofs.YtinemkjoohgmjaaDoor
open Go.RowKit

/-- A date that exists, by a reader. -/
def DrawnG (B g m k : Nat) (w : World) (e : Ending) (w' : World) : Prop :=
  ∃ y mo d : Int, vld y mo d = true ∧ e = .returned (.agg #[.int .i64 y, .int .i64 mo, .int .i64 d]) ∧ Rd B w' g (m + k) ∧ w.grownBy w' (some g)
theorem l91Good_any {B g m : Nat} {w : World} (hr : Rd B w g m) (hm : m ≤ 80000) :
    Calls Tryd.prog 62 #[.pointer (some ⟨g, 0, none⟩)] w (DrawnG B g m 9 w) := by
  have hgl := hr.lt
  have R0 := Blk.new w 24 #[.int .i64 0, .int .i64 0, .int .i64 0]
  have G0 := only_alloc (only_refl w (some g)) (.cells #[.int .i64 0, .int .i64 0, .int .i64 0] 24)
  go_enter Tryd.func62, Tryd.ntmps62
  go_wp2_with fail
  refine (l91Date_any (hr.alloc _) (by omega)).mono ?_
  rintro e w1 ⟨y, mo, d, rfl, hr1, hg1⟩
  have R1 := R0.grown' hg1 (by omega)
  have G1 := only_trans G0 hg1
  have X1 := Blk.new w1 24 #[.int .i64 y, .int .i64 mo, .int .i64 d]
  have R1' := R1.alloc (.cells #[.int .i64 y, .int .i64 mo, .int .i64 d] 24)
  have G1' := only_alloc G1 (.cells #[.int .i64 y, .int .i64 mo, .int .i64 d] 24)
  have hr1' := hr1.alloc (.cells #[.int .i64 y, .int .i64 mo, .int .i64 d] 24)
  go_wp2_with fail
  refine (spec_dateValid _ _ _ _).mono ?_
  rintro e w2 ⟨rfl, hb2⟩
  have X2 := X1.below hb2 X1.lt
  have R2 := hide (R1'.below hb2 R1'.lt)
  have G2 := hide (only_below G1' hb2)
  have hr2 := hide (hr1'.below hb2 hr1'.lt)
  have x0 := X2.cell 0
  have x1 := X2.cell 1
  have x2 := X2.cell 2
  have c0 := R2.out.cell 0
  have c1 := R2.out.cell 1
  have c2 := R2.out.cell 2
  have f0 := R2.out.frozen 0
  have f1 := R2.out.frozen 1
  have f2 := R2.out.frozen 2
  simp at x0 x1 x2 c0 c1 c2
  clear R0 G0 R1 G1 X1 R1' G1' hr1 hr1' hg1 hb2 X2
  have fin : ∀ (Y M D : Int) (e : Ending), vld Y M D = true → e = .returned (.agg #[.int .i64 Y, .int .i64 M, .int .i64 D]) → DrawnG B g m 9 w e (((w2.setCell ⟨w.heap.size, 0, none⟩ (.int .i64 Y)).setCell ⟨w.heap.size, 1, none⟩ (.int .i64 M)).setCell ⟨w.heap.size, 2, none⟩ (.int .i64 D)) := fun Y M D e hv he =>
    ⟨Y, M, D, hv, he, (((hr2.out).setCell (a := ⟨w.heap.size, 0, none⟩) hgl _).setCell (a := ⟨w.heap.size, 1, none⟩) hgl _).setCell (a := ⟨w.heap.size, 2, none⟩) hgl _,
      only_setCell (only_setCell (only_setCell G2.out (.inr (Nat.le_refl _)) _) (.inr (Nat.le_refl _)) _) (.inr (Nat.le_refl _)) _⟩
  cases hv : vld y mo d with
  | true =>
    have Hv := hide hv
    clear hv
    go_wp2_with fail
    have RR := ((R2.out.set_ 0 (.int .i64 y)).set_ 1 (.int .i64 mo)).set_ 2 (.int .i64 d)
    have q0 := RR.cell 0
    have q1 := RR.cell 1
    have q2 := RR.cell 2
    simp at q0 q1 q2
    refine bodyPost_ret (by simp [results, Tryd.results62, go_sem, q0, q1, q2]; try rfl) rfl ?_
    exact fin _ _ _ _ Hv.out rfl
  | false =>
    clear hv
    go_wp2_with fail
    have RR := ((R2.out.set_ 0 (.int .i64 2000)).set_ 1 (.int .i64 2)).set_ 2 (.int .i64 29)
    have q0 := RR.cell 0
    have q1 := RR.cell 1
    have q2 := RR.cell 2
    simp at q0 q1 q2
    refine bodyPost_ret (by simp [results, Tryd.results62, go_sem, q0, q1, q2]; try rfl) rfl ?_
    exact fin _ _ _ _ (by decide) rfl
/-- A valid stamp, by a reader. -/
def DrawnSo (B g m k : Nat) (w : World) (e : Ending) (w' : World) : Prop :=
  ∃ x : S8, x.ok = true ∧ e = .returned (.agg x.v) ∧ Rd B w' g (m + k) ∧ w.grownBy w' (some g)
section
attribute [local go_sem] cell_sp sp_alloc sp_drew sp_new storeP_sp
attribute [local go_sem ↓] storeP_eq
set_option maxRecDepth 100000 in
set_option maxHeartbeats 2000000 in
theorem l91Sound_any {B g m : Nat} {w : World} (hr : Rd B w g m) (hm : m ≤ 70000) :
    Calls Tryd.prog 37 #[.pointer (some ⟨g, 0, none⟩)] w (DrawnSo B g m 40 w) := by
  have hgl := hr.lt
  have R0 := Blk.new w 28 #[.int .i64 0, .int .i64 0, .int .i64 0, .int .i64 0, .int .i64 0, .int .i64 0, .int .i64 0, .int .i64 0]
  have G0 := only_alloc (only_refl w (some g)) (.cells #[.int .i64 0, .int .i64 0, .int .i64 0, .int .i64 0, .int .i64 0, .int .i64 0, .int .i64 0, .int .i64 0] 28)
  go_enter Tryd.func37, Tryd.ntmps37
  go_wp2_with fail
  refine (l91Stamp_any (hr.alloc _) (by omega)).mono ?_
  rintro e w1 ⟨⟨y, mo, d, h, mi, s, ms, o⟩, rfl, hr1, hg1⟩
  simp only [S8.v]
  have R1 := R0.grown' hg1 (by omega)
  have hrl1 := R1.lt
  have R1' := hide ((R1.alloc (.cells #[.int .i64 0, .int .i64 0, .int .i64 0, .int .i64 0, .int .i64 0, .int .i64 0, .int .i64 0, .int .i64 0] 28)).setRow_far (k := w1.heap.size) (Nat.ne_of_lt hrl1) #[.int .i64 y, .int .i64 mo, .int .i64 d, .int .i64 h, .int .i64 mi, .int .i64 s, .int .i64 ms, .int .i64 o])
  have X1 := hide ((Blk.new w1 28 #[.int .i64 0, .int .i64 0, .int .i64 0, .int .i64 0, .int .i64 0, .int .i64 0, .int .i64 0, .int .i64 0]).setRow #[.int .i64 y, .int .i64 mo, .int .i64 d, .int .i64 h, .int .i64 mi, .int .i64 s, .int .i64 ms, .int .i64 o])
  have G1 := hide (Blk.onlyRow (only_alloc (only_trans G0 hg1) (.cells #[.int .i64 0, .int .i64 0, .int .i64 0, .int .i64 0, .int .i64 0, .int .i64 0, .int .i64 0, .int .i64 0] 28)) (Nat.le_of_lt hrl1) #[.int .i64 y, .int .i64 mo, .int .i64 d, .int .i64 h, .int .i64 mi, .int .i64 s, .int .i64 ms, .int .i64 o])
  have hgl1 := hr1.lt
  have T1 := hide (Rd.setRow (hr1.alloc (.cells #[.int .i64 0, .int .i64 0, .int .i64 0, .int .i64 0, .int .i64 0, .int .i64 0, .int .i64 0, .int .i64 0] 28)) hgl1 #[.int .i64 y, .int .i64 mo, .int .i64 d, .int .i64 h, .int .i64 mi, .int .i64 s, .int .i64 ms, .int .i64 o])
  clear R0 G0 R1 hr1 hg1
  go_wp2_with fail
  refine (spec_sv ⟨y, mo, d, h, mi, s, ms, o⟩ _).mono ?_
  rintro e w2 ⟨rfl, hb2⟩
  have R2 := hide (R1'.out.below hb2 R1'.out.lt)
  have X2 := hide (X1.out.below hb2 X1.out.lt)
  have G2 := hide (only_below G1.out hb2)
  have T2 := hide (T1.out.below hb2 T1.out.lt)
  have x0 := X2.out.cell 0
  have x1 := X2.out.cell 1
  have x2 := X2.out.cell 2
  have x3 := X2.out.cell 3
  have x4 := X2.out.cell 4
  have x5 := X2.out.cell 5
  have x6 := X2.out.cell 6
  have x7 := X2.out.cell 7
  simp at x0 x1 x2 x3 x4 x5 x6 x7
  have hsp := R2.out.sp rfl
  clear R1' X1 G1 T1 hb2
  cases hok : S8.ok ⟨y, mo, d, h, mi, s, ms, o⟩ with
  | true =>
    have Hok := hide hok
    clear hok
    go_wp2_with fail
    refine bodyPost_ret (by simp [results, Tryd.results37, go_sem, cell_sp hsp]; try rfl) rfl ?_
    exact ⟨⟨y, mo, d, h, mi, s, ms, o⟩, Hok.out, rfl, (T2.out.more (by omega)).setRow hgl _, Blk.onlyRow G2.out (Nat.le_refl _) _⟩
  | false =>
    clear hok x0 x1 x2 x3 x4 x5 x6 x7
    go_wp2_with fail
    refine (l91Good_any T2.out (by omega)).mono ?_
    rintro e w3 ⟨Y, M, D, hv, rfl, hr3, hg3⟩
    have R3 := R2.out.grown' hg3 (by omega)
    have G3 := only_trans G2.out hg3
    have Hv := hide hv
    clear hv
    go_wp2_with fail
    refine (pick_any hr3 (by omega) (by omega)).mono ?_
    rintro e w4 ⟨v4, a4, b4, rfl, hr4, hg4⟩
    have R4 := R3.grown' hg4 (by omega)
    have G4 := hide (only_trans G3 hg4)
    have hsp4 := R4.sp rfl
    have T4 := hide hr4
    clear R3 G3 hg3 hg4 hr3 hr4 R2 G2 T2 hsp
    go_wp2_with fail
    refine bodyPost_ret (by simp [results, Tryd.results37, go_sem, cell_sp hsp4]; try rfl) rfl ?_
    refine ⟨⟨Y, M, D, v4, 0, 0, 0, 60⟩, ?_, rfl, (T4.out.more (by omega)).setRow hgl _, Blk.onlyRow G4.out (Nat.le_refl _) _⟩
    unfold S8.ok
    rw [show vld Y M D = true from Hv.out, show cvB v4 0 0 0 = true from cvB_iff.2 (by omega)]
    rfl
end
end Go.Proofs.YtinemkjoohgmjaaDoor
