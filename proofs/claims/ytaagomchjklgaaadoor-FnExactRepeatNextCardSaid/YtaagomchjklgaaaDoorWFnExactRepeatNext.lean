/- The law FnExactRepeatNext returns true. -/
import Derived.Test.YtaagomchjklgaaaDoorRn3
import Derived.Test.YtaagomchjklgaaaDoorSt8
import Derived.Test.YtaagomchjklgaaaDoorShellI
import Derived.Test.YtaagomchjklgaaaDoorShellD
namespace Go.Proofs.YtaagomchjklgaaaDoor
open Go.RowKit
attribute [local go_sem] lt_cell

set_option maxRecDepth 100000 in
set_option maxHeartbeats 4000000 in
theorem w_FnExactRepeatNext (w : World) (hM : MD w) (x : S8 × (Int × Int × Int × Int × Int × Int) × Int) (_hx : True) (u : S8) (_hu : True) :
    Calls Tryd.prog 3 #[.agg #[.int .i64 x.1.y, .int .i64 x.1.mo, .int .i64 x.1.d, .int .i64 x.1.h, .int .i64 x.1.mi, .int .i64 x.1.s, .int .i64 x.1.ms, .int .i64 x.1.o, .int .i64 x.2.1.1, .int .i64 x.2.1.2.1, .int .i64 x.2.1.2.2.1, .int .i64 x.2.1.2.2.2.1, .int .i64 x.2.1.2.2.2.2.1, .int .i64 x.2.1.2.2.2.2.2, .int .i64 x.2.2], .agg u.v] w fun e w' => e = .returned (.bool true) ∧ Below w.heap.size w w' := by
  obtain ⟨⟨y, mo, d, h, mi, s, ms, o⟩, ⟨p1, p2, p3, p4, p5, p6⟩, n⟩ := x
  obtain ⟨uy, umo, ud, uh, umi, us, ums, uo⟩ := u
  simp only [S8.v]
  obtain ⟨⟨rn, rb⟩, hrr⟩ : ∃ r, rnP ⟨y, mo, d, h, mi, s, ms, o⟩ p1 p2 p3 p4 p5 p6 n ⟨uy, umo, ud, uh, umi, us, ums, uo⟩ = r := ⟨_, rfl⟩
  have hS : ∀ W, Calls Tryd.prog 10 #[.agg #[.int .i64 y, .int .i64 mo, .int .i64 d, .int .i64 h, .int .i64 mi, .int .i64 s, .int .i64 ms, .int .i64 o, .int .i64 p1, .int .i64 p2, .int .i64 p3, .int .i64 p4, .int .i64 p5, .int .i64 p6, .int .i64 n], .agg #[.int .i64 uy, .int .i64 umo, .int .i64 ud, .int .i64 uh, .int .i64 umi, .int .i64 us, .int .i64 ums, .int .i64 uo]] W fun e w' => e = .returned (.tuple #[.int .i64 rn, .bool rb]) ∧ Below W.heap.size W w' := fun W => by
    have q := spec_rn y mo d h mi s ms o p1 p2 p3 p4 p5 p6 n ⟨uy, umo, ud, uh, umi, us, ums, uo⟩ W
    rw [hrr] at q
    exact q
  have hI : ∀ W, MD W → Calls Tryd.prog 13 #[.agg #[.int .i64 y, .int .i64 mo, .int .i64 d, .int .i64 h, .int .i64 mi, .int .i64 s, .int .i64 ms, .int .i64 o, .int .i64 p1, .int .i64 p2, .int .i64 p3, .int .i64 p4, .int .i64 p5, .int .i64 p6, .int .i64 n], .agg #[.int .i64 uy, .int .i64 umo, .int .i64 ud, .int .i64 uh, .int .i64 umi, .int .i64 us, .int .i64 ums, .int .i64 uo]] W fun e w' => e = .returned (.tuple #[.int .i64 rn, .bool rb]) ∧ Below W.heap.size W w' := fun W hW => by
    have q := impl_rn y mo d h mi s ms o p1 p2 p3 p4 p5 p6 n ⟨uy, umo, ud, uh, umi, us, ums, uo⟩ W hW
    rw [hrr] at q
    exact q
  have hR : ∀ W, Calls Tryd.prog 11 #[.agg #[.int .i64 y, .int .i64 mo, .int .i64 d, .int .i64 h, .int .i64 mi, .int .i64 s, .int .i64 ms, .int .i64 o, .int .i64 p1, .int .i64 p2, .int .i64 p3, .int .i64 p4, .int .i64 p5, .int .i64 p6, .int .i64 n]] W fun e w' => e = .returned (.agg #[.int .i64 y, .int .i64 mo, .int .i64 d, .int .i64 h, .int .i64 mi, .int .i64 s, .int .i64 ms, .int .i64 o, .int .i64 p1, .int .i64 p2, .int .i64 p3, .int .i64 p4, .int .i64 p5, .int .i64 p6, .int .i64 n]) ∧ Below W.heap.size W w' := fun W => toRepeat_any y mo d h mi s ms o p1 p2 p3 p4 p5 p6 n W
  have hT : ∀ W, Calls Tryd.prog 12 #[.agg #[.int .i64 uy, .int .i64 umo, .int .i64 ud, .int .i64 uh, .int .i64 umi, .int .i64 us, .int .i64 ums, .int .i64 uo]] W fun e w' => e = .returned (.agg #[.int .i64 uy, .int .i64 umo, .int .i64 ud, .int .i64 uh, .int .i64 umi, .int .i64 us, .int .i64 ums, .int .i64 uo]) ∧ Below W.heap.size W w' := fun W => toStamp_any ⟨uy, umo, ud, uh, umi, us, ums, uo⟩ W
  clear hrr
  have g1 : (rn != rn) = false := by simp
  have g2 : (rb != rb) = false := by simp
  have X0 := hide ((Blk.new w 31 #[.int .i64 y, .int .i64 mo, .int .i64 d, .int .i64 h, .int .i64 mi, .int .i64 s, .int .i64 ms, .int .i64 o, .int .i64 p1, .int .i64 p2, .int .i64 p3, .int .i64 p4, .int .i64 p5, .int .i64 p6, .int .i64 n]).alloc (.cells #[.int .i64 uy, .int .i64 umo, .int .i64 ud, .int .i64 uh, .int .i64 umi, .int .i64 us, .int .i64 ums, .int .i64 uo] 27))
  have U0 := hide (Blk.newE (W := w.alloc (.cells #[.int .i64 y, .int .i64 mo, .int .i64 d, .int .i64 h, .int .i64 mi, .int .i64 s, .int .i64 ms, .int .i64 o, .int .i64 p1, .int .i64 p2, .int .i64 p3, .int .i64 p4, .int .i64 p5, .int .i64 p6, .int .i64 n] 31)) (g := w.heap.size + 1) (t := 27) (cs := #[.int .i64 uy, .int .i64 umo, .int .i64 ud, .int .i64 uh, .int .i64 umi, .int .i64 us, .int .i64 ums, .int .i64 uo]) (by simp))
  have B0 := hide (bal (bal (Below.refl w.heap.size w) (.cells #[.int .i64 y, .int .i64 mo, .int .i64 d, .int .i64 h, .int .i64 mi, .int .i64 s, .int .i64 ms, .int .i64 o, .int .i64 p1, .int .i64 p2, .int .i64 p3, .int .i64 p4, .int .i64 p5, .int .i64 p6, .int .i64 n] 31)) (.cells #[.int .i64 uy, .int .i64 umo, .int .i64 ud, .int .i64 uh, .int .i64 umi, .int .i64 us, .int .i64 ums, .int .i64 uo] 27))
  show Calls Tryd.prog 3 #[.agg #[.int .i64 y, .int .i64 mo, .int .i64 d, .int .i64 h, .int .i64 mi, .int .i64 s, .int .i64 ms, .int .i64 o, .int .i64 p1, .int .i64 p2, .int .i64 p3, .int .i64 p4, .int .i64 p5, .int .i64 p6, .int .i64 n], .agg #[.int .i64 uy, .int .i64 umo, .int .i64 ud, .int .i64 uh, .int .i64 umi, .int .i64 us, .int .i64 ums, .int .i64 uo]] w fun e w' => e = .returned (.bool true) ∧ Below w.heap.size w w'
  go_enter Tryd.func3, Tryd.ntmps3
  go_wp2_with fail
  generalize (w.alloc (.cells #[.int .i64 y, .int .i64 mo, .int .i64 d, .int .i64 h, .int .i64 mi, .int .i64 s, .int .i64 ms, .int .i64 o, .int .i64 p1, .int .i64 p2, .int .i64 p3, .int .i64 p4, .int .i64 p5, .int .i64 p6, .int .i64 n] 31)).alloc (.cells #[.int .i64 uy, .int .i64 umo, .int .i64 ud, .int .i64 uh, .int .i64 umi, .int .i64 us, .int .i64 ums, .int .i64 uo] 27) = w0 at *
  have c0 := X0.out.cell 0
  have c1 := X0.out.cell 1
  have c2 := X0.out.cell 2
  have c3 := X0.out.cell 3
  have c4 := X0.out.cell 4
  have c5 := X0.out.cell 5
  have c6 := X0.out.cell 6
  have c7 := X0.out.cell 7
  have c8 := X0.out.cell 8
  have c9 := X0.out.cell 9
  have c10 := X0.out.cell 10
  have c11 := X0.out.cell 11
  have c12 := X0.out.cell 12
  have c13 := X0.out.cell 13
  have c14 := X0.out.cell 14
  simp at c0 c1 c2 c3 c4 c5 c6 c7 c8 c9 c10 c11 c12 c13 c14
  have u0 := U0.out.cell 0
  have u1 := U0.out.cell 1
  have u2 := U0.out.cell 2
  have u3 := U0.out.cell 3
  have u4 := U0.out.cell 4
  have u5 := U0.out.cell 5
  have u6 := U0.out.cell 6
  have u7 := U0.out.cell 7
  simp at u0 u1 u2 u3 u4 u5 u6 u7
  have hlx0 := X0.out.lt
  have hlu0 := U0.out.lt
  have hlx0' := Nat.le_of_lt hlx0
  have hlu0' := Nat.le_of_lt hlu0
  refine region_below (by kernel_rfl) (by kernel_rfl) ?_
  repeat (go_big_quiet_step ((first | (go_at_call 11; exact lt_call (hR _)) | (go_at_call 12; exact lt_call (hT _)) | (go_at_call 10; exact lt_call (hS _)))))
  refine wpQuiet_nil ?_
  rintro w1 ⟨⟨_, hq1⟩, rfl⟩
  have X1 := hide (X0.out.below hq1 X0.out.lt)
  have U1 := hide (U0.out.below hq1 U0.out.lt)
  have B1 := hide (bto B0.out hq1)
  clear c0 c1 c2 c3 c4 c5 c6 c7 c8 c9 c10 c11 c12 c13 c14 u0 u1 u2 u3 u4 u5 u6 u7 hlx0 hlu0 hlx0' hlu0' X0 U0 hq1
  go_wp2_with fail
  have hM1 := hM.below B1.out
  have c0 := X1.out.cell 0
  have c1 := X1.out.cell 1
  have c2 := X1.out.cell 2
  have c3 := X1.out.cell 3
  have c4 := X1.out.cell 4
  have c5 := X1.out.cell 5
  have c6 := X1.out.cell 6
  have c7 := X1.out.cell 7
  have c8 := X1.out.cell 8
  have c9 := X1.out.cell 9
  have c10 := X1.out.cell 10
  have c11 := X1.out.cell 11
  have c12 := X1.out.cell 12
  have c13 := X1.out.cell 13
  have c14 := X1.out.cell 14
  simp at c0 c1 c2 c3 c4 c5 c6 c7 c8 c9 c10 c11 c12 c13 c14
  have u0 := U1.out.cell 0
  have u1 := U1.out.cell 1
  have u2 := U1.out.cell 2
  have u3 := U1.out.cell 3
  have u4 := U1.out.cell 4
  have u5 := U1.out.cell 5
  have u6 := U1.out.cell 6
  have u7 := U1.out.cell 7
  simp at u0 u1 u2 u3 u4 u5 u6 u7
  have hlx1 := X1.out.lt
  have hlu1 := U1.out.lt
  have hlx1' := Nat.le_of_lt hlx1
  have hlu1' := Nat.le_of_lt hlu1
  refine region_below (by kernel_rfl) (by kernel_rfl) ?_
  repeat (go_big_quiet_step ((first | (go_at_call 11; exact lt_call (hR _)) | (go_at_call 12; exact lt_call (hT _)) | (go_at_call 13; exact lt_call (hI _ (MD.below hM1 (Lt.h _)))))))
  refine wpQuiet_nil ?_
  rintro w2 ⟨⟨_, hq2⟩, rfl⟩
  have X2 := hide (X1.out.below hq2 X1.out.lt)
  have U2 := hide (U1.out.below hq2 U1.out.lt)
  have B2 := hide (bto B1.out hq2)
  clear c0 c1 c2 c3 c4 c5 c6 c7 c8 c9 c10 c11 c12 c13 c14 u0 u1 u2 u3 u4 u5 u6 u7 hlx1 hlu1 hlx1' hlu1' X1 U1 hq2 B1
  go_wp2_with fail
  go_ret
  exact ⟨rfl, B2.out⟩
end Go.Proofs.YtaagomchjklgaaaDoor
