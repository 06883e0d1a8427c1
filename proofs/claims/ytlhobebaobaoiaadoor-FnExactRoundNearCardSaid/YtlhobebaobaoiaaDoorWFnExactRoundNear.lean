/- The law FnExactRoundNear returns true. -/
import Derived.Test.YtlhobebaobaoiaaDoorSt6
import Derived.Test.YtlhobebaobaoiaaDoorSt7
import Derived.Test.YtlhobebaobaoiaaDoorSt8
import Derived.Test.YtlhobebaobaoiaaDoorEqs
import Derived.Test.YtlhobebaobaoiaaDoorShellI
import Derived.Test.YtlhobebaobaoiaaDoorShellD
namespace Go.Proofs.YtlhobebaobaoiaaDoor
open Go.RowKit

set_option maxRecDepth 100000 in
set_option maxHeartbeats 2000000 in
theorem w_FnExactRoundNear (w : World) (hM : MD w) (x : S8) (_hx : True) (u : Int) (_hu : I64 u) :
    Calls Tryd.prog 5 #[.agg x.v, .int .i64 u] w fun e w' => e = .returned (.bool true) ∧ Below w.heap.size w w' := by
  obtain ⟨⟨⟨y', mo', d', h', mi', s', ms', o'⟩, ok⟩, hrr⟩ : ∃ r, rnd nrW x u = r := ⟨_, rfl⟩
  obtain ⟨y, mo, d, h, mi, s, ms, o⟩ := x
  have HR := hide hrr
  clear hrr
  have g2 : (ok != ok) = false := by simp
  have X0 := Blk.new w 27 #[.int .i64 y, .int .i64 mo, .int .i64 d, .int .i64 h, .int .i64 mi, .int .i64 s, .int .i64 ms, .int .i64 o]
  have B0 := bal (Below.refl w.heap.size w) (.cells #[.int .i64 y, .int .i64 mo, .int .i64 d, .int .i64 h, .int .i64 mi, .int .i64 s, .int .i64 ms, .int .i64 o] 27)
  simp only [S8.v]
  go_enter Tryd.func5, Tryd.ntmps5
  go_wp2_with fail
  refine (toStamp_any ⟨y, mo, d, h, mi, s, ms, o⟩ _).mono ?_
  rintro e w1 ⟨rfl, hb1⟩
  have B1 := bto B0 hb1
  have X1 := hide (X0.below hb1 X0.lt)
  have x0 := X1.out.cell 0
  have x1 := X1.out.cell 1
  have x2 := X1.out.cell 2
  have x3 := X1.out.cell 3
  have x4 := X1.out.cell 4
  have x5 := X1.out.cell 5
  have x6 := X1.out.cell 6
  have x7 := X1.out.cell 7
  simp at x0 x1 x2 x3 x4 x5 x6 x7
  clear X0 B0 hb1
  go_wp2_with fail
  refine (spec_near ⟨y, mo, d, h, mi, s, ms, o⟩ u _).mono ?_
  rintro e w2 ⟨rfl, hb2⟩
  rw [HR.out]
  simp only [S8.v]
  have B2 := bto B1 hb2
  have X2 := hide ((X1.out.below hb2 X1.out.lt).alloc (.cells #[.int .i64 y', .int .i64 mo', .int .i64 d', .int .i64 h', .int .i64 mi', .int .i64 s', .int .i64 ms', .int .i64 o'] 31))
  have S2 := hide (Blk.new w2 31 #[.int .i64 y', .int .i64 mo', .int .i64 d', .int .i64 h', .int .i64 mi', .int .i64 s', .int .i64 ms', .int .i64 o'])
  have B2' := bal B2 (.cells #[.int .i64 y', .int .i64 mo', .int .i64 d', .int .i64 h', .int .i64 mi', .int .i64 s', .int .i64 ms', .int .i64 o'] 31)
  clear X1 hb2 B1
  have x0 := X2.out.cell 0
  have x1 := X2.out.cell 1
  have x2 := X2.out.cell 2
  have x3 := X2.out.cell 3
  have x4 := X2.out.cell 4
  have x5 := X2.out.cell 5
  have x6 := X2.out.cell 6
  have x7 := X2.out.cell 7
  simp at x0 x1 x2 x3 x4 x5 x6 x7
  go_wp2_with fail
  refine (toStamp_any ⟨y, mo, d, h, mi, s, ms, o⟩ _).mono ?_
  rintro e w3 ⟨rfl, hb3⟩
  have B3 := bto B2' hb3
  have S3 := hide (S2.out.below hb3 S2.out.lt)
  have X3 := hide (X2.out.below hb3 X2.out.lt)
  clear S2 X2 hb3 B2' B2
  have x0 := X3.out.cell 0
  have x1 := X3.out.cell 1
  have x2 := X3.out.cell 2
  have x3 := X3.out.cell 3
  have x4 := X3.out.cell 4
  have x5 := X3.out.cell 5
  have x6 := X3.out.cell 6
  have x7 := X3.out.cell 7
  simp at x0 x1 x2 x3 x4 x5 x6 x7
  go_wp2_with fail
  refine (impl_near ⟨y, mo, d, h, mi, s, ms, o⟩ u _ (hM.below B3)).mono ?_
  rintro e w4 ⟨rfl, hb4⟩
  rw [HR.out]
  simp only [S8.v]
  have B4 := bal (bto B3 hb4) (.cells #[.int .i64 y', .int .i64 mo', .int .i64 d', .int .i64 h', .int .i64 mi', .int .i64 s', .int .i64 ms', .int .i64 o'] 31)
  have S4 := hide ((S3.out.below hb4 S3.out.lt).alloc (.cells #[.int .i64 y', .int .i64 mo', .int .i64 d', .int .i64 h', .int .i64 mi', .int .i64 s', .int .i64 ms', .int .i64 o'] 31))
  have hsl := (S3.out.below hb4 S3.out.lt).lt
  clear S3 X3 hb4 B3
  have sq0 := S4.out.cell 0
  have sq1 := S4.out.cell 1
  have sq2 := S4.out.cell 2
  have sq3 := S4.out.cell 3
  have sq4 := S4.out.cell 4
  have sq5 := S4.out.cell 5
  have sq6 := S4.out.cell 6
  have sq7 := S4.out.cell 7
  simp at sq0 sq1 sq2 sq3 sq4 sq5 sq6 sq7
  go_wp2_with fail
  refine (eqStamp_same _ _ _ _ _ _ _ _ _).mono ?_
  rintro e w5 ⟨rfl, hb5⟩
  go_wp2_with fail
  go_ret
  exact ⟨rfl, bto B4 hb5⟩
end Go.Proofs.YtlhobebaobaoiaaDoor
