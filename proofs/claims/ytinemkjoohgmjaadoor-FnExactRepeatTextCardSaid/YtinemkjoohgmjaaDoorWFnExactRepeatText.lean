/- The law FnExactRepeatText returns true. -/
import Derived.Test.YtinemkjoohgmjaaDoorRt1
import Derived.Test.YtinemkjoohgmjaaDoorRp3
import Derived.Test.YtinemkjoohgmjaaDoorShellI
import Derived.Test.YtinemkjoohgmjaaDoorShellD
namespace Go.Proofs.YtinemkjoohgmjaaDoor
open Go.RowKit
attribute [local go_sem] S_mk S_size S_app p1_len p2_len p3_len p4_len S_toList

set_option maxRecDepth 100000 in
set_option maxHeartbeats 2000000 in
theorem w_FnExactRepeatText (w : World) (hM : MD w) (x : S8 × (Int × Int × Int × Int × Int × Int) × Int) (_hx : True) :
    Calls Tryd.prog 4 #[.agg #[.int .i64 x.1.y, .int .i64 x.1.mo, .int .i64 x.1.d, .int .i64 x.1.h, .int .i64 x.1.mi, .int .i64 x.1.s, .int .i64 x.1.ms, .int .i64 x.1.o, .int .i64 x.2.1.1, .int .i64 x.2.1.2.1, .int .i64 x.2.1.2.2.1, .int .i64 x.2.1.2.2.2.1, .int .i64 x.2.1.2.2.2.2.1, .int .i64 x.2.1.2.2.2.2.2, .int .i64 x.2.2]] w fun e w' => e = .returned (.bool true) ∧ Below w.heap.size w w' := by
  obtain ⟨⟨y, mo, d, h, mi, s, ms, o⟩, ⟨p1, p2, p3, p4, p5, p6⟩, n⟩ := x
  have X0 := Blk.new w 42 #[.int .i64 y, .int .i64 mo, .int .i64 d, .int .i64 h, .int .i64 mi, .int .i64 s, .int .i64 ms, .int .i64 o, .int .i64 p1, .int .i64 p2, .int .i64 p3, .int .i64 p4, .int .i64 p5, .int .i64 p6, .int .i64 n]
  have B0 := bal (Below.refl w.heap.size w) (.cells #[.int .i64 y, .int .i64 mo, .int .i64 d, .int .i64 h, .int .i64 mi, .int .i64 s, .int .i64 ms, .int .i64 o, .int .i64 p1, .int .i64 p2, .int .i64 p3, .int .i64 p4, .int .i64 p5, .int .i64 p6, .int .i64 n] 42)
  show Calls Tryd.prog 4 #[.agg #[.int .i64 y, .int .i64 mo, .int .i64 d, .int .i64 h, .int .i64 mi, .int .i64 s, .int .i64 ms, .int .i64 o, .int .i64 p1, .int .i64 p2, .int .i64 p3, .int .i64 p4, .int .i64 p5, .int .i64 p6, .int .i64 n]] w fun e w' => e = .returned (.bool true) ∧ Below w.heap.size w w'
  go_enter Tryd.func4, Tryd.ntmps4
  go_wp2_with fail
  refine (toRepeat_any y mo d h mi s ms o p1 p2 p3 p4 p5 p6 n _).mono ?_
  rintro e w1 ⟨rfl, hb1⟩
  have B1 := bto B0 hb1
  have X1 := hide (X0.below hb1 X0.lt)
  clear X0 B0 hb1
  go_wp2_with fail
  refine (spec_rpT y mo d h mi s ms o p1 p2 p3 p4 p5 p6 n _).mono ?_
  rintro e w2 ⟨rfl, hb2⟩
  have B2 := bto B1 hb2
  have X2 := hide (X1.out.below hb2 X1.out.lt)
  have c0 := X2.out.cell 0
  have c1 := X2.out.cell 1
  have c2 := X2.out.cell 2
  have c3 := X2.out.cell 3
  have c4 := X2.out.cell 4
  have c5 := X2.out.cell 5
  have c6 := X2.out.cell 6
  have c7 := X2.out.cell 7
  have c8 := X2.out.cell 8
  have c9 := X2.out.cell 9
  have c10 := X2.out.cell 10
  have c11 := X2.out.cell 11
  have c12 := X2.out.cell 12
  have c13 := X2.out.cell 13
  have c14 := X2.out.cell 14
  simp at c0 c1 c2 c3 c4 c5 c6 c7 c8 c9 c10 c11 c12 c13 c14
  clear X1 hb2 B1
  go_wp2_with fail
  refine (toRepeat_any y mo d h mi s ms o p1 p2 p3 p4 p5 p6 n _).mono ?_
  rintro e w3 ⟨rfl, hb3⟩
  have B3 := bto B2 hb3
  clear c0 c1 c2 c3 c4 c5 c6 c7 c8 c9 c10 c11 c12 c13 c14
  go_wp2_with fail
  refine (impl_rpT y mo d h mi s ms o p1 p2 p3 p4 p5 p6 n _ (hM.below B3)).mono ?_
  rintro e w4 ⟨rfl, hb4⟩
  go_wp2_with fail
  go_ret
  exact ⟨rfl, bto B3 hb4⟩
end Go.Proofs.YtinemkjoohgmjaaDoor
