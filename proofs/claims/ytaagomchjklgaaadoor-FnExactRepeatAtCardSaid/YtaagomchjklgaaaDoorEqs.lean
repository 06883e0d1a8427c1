/- The laws' comparison of stamps at equal values. -/
import Derived.Test.YtaagomchjklgaaaDoorBase
import Derived.Test.YtaagomchjklgaaaDoorQt
namespace Go.Proofs.YtaagomchjklgaaaDoor
open Go.RowKit

theorem eqDate_same (y m d : Int) (w : World) :
    Calls Tryd.prog 35 #[.agg #[.int .i64 y, .int .i64 m, .int .i64 d], .agg #[.int .i64 y, .int .i64 m, .int .i64 d]] w (RetB true w) := by
  go_enter Tryd.func35, Tryd.ntmps35
  go_wp2
  go_ret
  exact ⟨rfl, by go_grown⟩
theorem eqClock_same (h mi s ms : Int) (w : World) :
    Calls Tryd.prog 36 #[.agg #[.int .i64 h, .int .i64 mi, .int .i64 s, .int .i64 ms], .agg #[.int .i64 h, .int .i64 mi, .int .i64 s, .int .i64 ms]] w (RetB true w) := by
  go_enter Tryd.func36, Tryd.ntmps36
  go_wp2
  go_ret
  exact ⟨rfl, by go_grown⟩
set_option maxHeartbeats 1000000 in
theorem eqStamp_same (y mo d h mi s ms o : Int) (w : World) :
    Calls Tryd.prog 16 #[.agg #[.int .i64 y, .int .i64 mo, .int .i64 d, .int .i64 h, .int .i64 mi, .int .i64 s, .int .i64 ms, .int .i64 o], .agg #[.int .i64 y, .int .i64 mo, .int .i64 d, .int .i64 h, .int .i64 mi, .int .i64 s, .int .i64 ms, .int .i64 o]] w (RetB true w) := by
  have X0 := (Blk.new w 37 #[.int .i64 y, .int .i64 mo, .int .i64 d, .int .i64 h, .int .i64 mi, .int .i64 s, .int .i64 ms, .int .i64 o]).alloc (.cells #[.int .i64 y, .int .i64 mo, .int .i64 d, .int .i64 h, .int .i64 mi, .int .i64 s, .int .i64 ms, .int .i64 o] 37)
  have Y0 : Blk ((w.alloc (.cells #[.int .i64 y, .int .i64 mo, .int .i64 d, .int .i64 h, .int .i64 mi, .int .i64 s, .int .i64 ms, .int .i64 o] 37)).alloc (.cells #[.int .i64 y, .int .i64 mo, .int .i64 d, .int .i64 h, .int .i64 mi, .int .i64 s, .int .i64 ms, .int .i64 o] 37)) (w.heap.size + 1) 37 #[.int .i64 y, .int .i64 mo, .int .i64 d, .int .i64 h, .int .i64 mi, .int .i64 s, .int .i64 ms, .int .i64 o] := Blk.newE (by simp)
  have B0 := bal (bal (Below.refl w.heap.size w) (.cells #[.int .i64 y, .int .i64 mo, .int .i64 d, .int .i64 h, .int .i64 mi, .int .i64 s, .int .i64 ms, .int .i64 o] 37)) (.cells #[.int .i64 y, .int .i64 mo, .int .i64 d, .int .i64 h, .int .i64 mi, .int .i64 s, .int .i64 ms, .int .i64 o] 37)
  have g0 : (o != o) = false := by simp
  go_enter Tryd.func16, Tryd.ntmps16
  go_wp2_with fail
  refine (eqDate_same _ _ _ _).mono ?_
  rintro e w1 ⟨rfl, hb1⟩
  have B1 : Below w.heap.size w w1 := bto B0 hb1
  have X1 := hide (X0.below hb1 X0.lt)
  have Y1 := hide (Y0.below hb1 Y0.lt)
  have x0 := X1.out.cell 0
  have y0 := Y1.out.cell 0
  have x1 := X1.out.cell 1
  have y1 := Y1.out.cell 1
  have x2 := X1.out.cell 2
  have y2 := Y1.out.cell 2
  have x3 := X1.out.cell 3
  have y3 := Y1.out.cell 3
  have x4 := X1.out.cell 4
  have y4 := Y1.out.cell 4
  have x5 := X1.out.cell 5
  have y5 := Y1.out.cell 5
  have x6 := X1.out.cell 6
  have y6 := Y1.out.cell 6
  have x7 := X1.out.cell 7
  have y7 := Y1.out.cell 7
  simp at x0 y0 x1 y1 x2 y2 x3 y3 x4 y4 x5 y5 x6 y6 x7 y7
  clear X0 Y0 B0 hb1
  go_wp2_with fail
  refine (eqClock_same _ _ _ _ _).mono ?_
  rintro e w2 ⟨rfl, hb2⟩
  have B2 : Below w.heap.size w w2 := bto B1 hb2
  have X2 := hide (X1.out.below hb2 X1.out.lt)
  have Y2 := hide (Y1.out.below hb2 Y1.out.lt)
  have x0 := X2.out.cell 0
  have y0 := Y2.out.cell 0
  have x1 := X2.out.cell 1
  have y1 := Y2.out.cell 1
  have x2 := X2.out.cell 2
  have y2 := Y2.out.cell 2
  have x3 := X2.out.cell 3
  have y3 := Y2.out.cell 3
  have x4 := X2.out.cell 4
  have y4 := Y2.out.cell 4
  have x5 := X2.out.cell 5
  have y5 := Y2.out.cell 5
  have x6 := X2.out.cell 6
  have y6 := Y2.out.cell 6
  have x7 := X2.out.cell 7
  have y7 := Y2.out.cell 7
  simp at x0 y0 x1 y1 x2 y2 x3 y3 x4 y4 x5 y5 x6 y6 x7 y7
  clear hb2
  go_wp2_with fail
  go_ret
  exact ⟨rfl, B2⟩
end Go.Proofs.YtaagomchjklgaaaDoor
