/- Contract: the instant of a valid stamp (the program's). -/
import Derived.Test.YtjdlffkbhaieaaaDoorSt4
namespace Go.Proofs.YtjdlffkbhaieaaaDoor
open Go.RowKit

theorem impl_instant (x : S8) (w : World) (hM : MD w) (hok : x.ok = true) :
    Calls Tryd.prog 21 #[.agg x.v] w fun e w' => e = .returned (.tuple #[.int .i64 x.ins, .bool true]) ∧ Below w.heap.size w w' := by
  obtain ⟨y, mo, d, h, mi, s, ms, o⟩ := x
  have X0 := Blk.new w 31 #[.int .i64 y, .int .i64 mo, .int .i64 d, .int .i64 h, .int .i64 mi, .int .i64 s, .int .i64 ms, .int .i64 o]
  have B0 := bal (Below.refl w.heap.size w) (.cells #[.int .i64 y, .int .i64 mo, .int .i64 d, .int .i64 h, .int .i64 mi, .int .i64 s, .int .i64 ms, .int .i64 o] 31)
  simp only [S8.v]
  go_enter Tryd.func21, Tryd.ntmps21
  go_wp2_with fail
  refine (impl_sv ⟨y, mo, d, h, mi, s, ms, o⟩ _ (hM.alloc _)).mono ?_
  rintro e w1 ⟨rfl, hb1⟩
  have B1 := bto B0 hb1
  have X1 := hide (X0.below hb1 X0.lt)
  have x0 := X1.out.cell 0
  have x1 := X1.out.cell 1
  have x2 := X1.out.cell 2
  have x3 := X1.out.cell 3
  have x4 := X1.out.cell 4
  have x5 := X1.out.cell 5
  have x6 := X1.out.cell 6
  have x7 := X1.out.cell 7
  simp at x0 x1 x2 x3 x4 x5 x6 x7
  have HK := hide hok
  rw [hok]
  clear hok
  go_wp2_with fail
  refine (instantOf_any ⟨y, mo, d, h, mi, s, ms, o⟩ _ (hM.below B1) HK.out).mono ?_
  rintro e w2 ⟨rfl, hb2⟩
  go_wp2_with fail
  go_returns
  exact ⟨rfl, bto B1 hb2⟩

end Go.Proofs.YtjdlffkbhaieaaaDoor
