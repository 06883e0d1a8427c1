/- Contracts: valid stamps, instants (the program's and the reference's). -/
import Derived.Test.YtinemkjoohgmjaaDoorSt2
import Derived.Test.YtinemkjoohgmjaaDoorDt2
namespace Go.Proofs.YtinemkjoohgmjaaDoor
open Go.RowKit

theorem impl_sv (x : S8) (w : World) (hM : MD w) : Calls Tryd.prog 22 #[.agg x.v] w (RetB x.ok w) := by
  obtain ⟨y, mo, d, h, mi, s, ms, o⟩ := x
  have X0 := Blk.new w 28 #[.int .i64 y, .int .i64 mo, .int .i64 d, .int .i64 h, .int .i64 mi, .int .i64 s, .int .i64 ms, .int .i64 o]
  have B0 := bal (Below.refl w.heap.size w) (.cells #[.int .i64 y, .int .i64 mo, .int .i64 d, .int .i64 h, .int .i64 mi, .int .i64 s, .int .i64 ms, .int .i64 o] 28)
  simp only [S8.v, S8.ok]
  go_enter Tryd.func22, Tryd.ntmps22
  go_wp2_with fail
  refine (impl_dateValid _ _ _ _ (hM.alloc _)).mono ?_
  rintro e w1 ⟨rfl, hb1⟩
  have B1 : Below w.heap.size w w1 := bto B0 hb1
  have X1 := hide (X0.below hb1 X0.lt)
  have x3 := X1.out.cell 3
  have x4 := X1.out.cell 4
  have x5 := X1.out.cell 5
  have x6 := X1.out.cell 6
  simp at x3 x4 x5 x6
  cases hv : vld y mo d with
  | false =>
    go_wp2_with fail
    go_ret
    exact ⟨by rw [hv]; rfl, B1⟩
  | true =>
    go_wp2_with fail
    refine (impl_cv _ _ _ _ _).mono ?_
    rintro e w2 ⟨rfl, hb2⟩
    have B2 : Below w.heap.size w w2 := bto B1 hb2
    have X2 := hide (X1.out.below hb2 X1.out.lt)
    have x7 := X2.out.cell 7
    simp at x7
    cases hc : cvB h mi s ms with
    | false =>
      go_wp2_with fail
      go_ret
      exact ⟨by rw [hv, hc]; rfl, B2⟩
    | true =>
      go_wp2_with (go_at_call 51; refine (offsetValid_any _ _).mono ?_; rintro e w' ⟨rfl, rfl⟩)
      go_ret
      exact ⟨by rw [hv, hc]; rfl, B2⟩
theorem spec_sv (x : S8) (w : World) : Calls Tryd.prog 45 #[.agg x.v] w (RetB x.ok w) := by
  obtain ⟨y, mo, d, h, mi, s, ms, o⟩ := x
  have X0 := Blk.new w 28 #[.int .i64 y, .int .i64 mo, .int .i64 d, .int .i64 h, .int .i64 mi, .int .i64 s, .int .i64 ms, .int .i64 o]
  have B0 := bal (Below.refl w.heap.size w) (.cells #[.int .i64 y, .int .i64 mo, .int .i64 d, .int .i64 h, .int .i64 mi, .int .i64 s, .int .i64 ms, .int .i64 o] 28)
  simp only [S8.v, S8.ok]
  go_enter Tryd.func45, Tryd.ntmps45
  go_wp2_with fail
  refine (spec_dateValid _ _ _ _).mono ?_
  rintro e w1 ⟨rfl, hb1⟩
  have B1 : Below w.heap.size w w1 := bto B0 hb1
  have X1 := hide (X0.below hb1 X0.lt)
  have x3 := X1.out.cell 3
  have x4 := X1.out.cell 4
  have x5 := X1.out.cell 5
  have x6 := X1.out.cell 6
  simp at x3 x4 x5 x6
  cases hv : vld y mo d with
  | false =>
    go_wp2_with fail
    go_ret
    exact ⟨by rw [hv]; rfl, B1⟩
  | true =>
    go_wp2_with fail
    refine (spec_cv _ _ _ _ _).mono ?_
    rintro e w2 ⟨rfl, hb2⟩
    have B2 : Below w.heap.size w w2 := bto B1 hb2
    have X2 := hide (X1.out.below hb2 X1.out.lt)
    have x7 := X2.out.cell 7
    simp at x7
    cases hc : cvB h mi s ms with
    | false =>
      go_wp2_with fail
      go_ret
      exact ⟨by rw [hv, hc]; rfl, B2⟩
    | true =>
      go_wp2_with (go_at_call 56; refine (l6In_off _ _).mono ?_; rintro e w' ⟨rfl, rfl⟩)
      go_ret
      exact ⟨by rw [hv, hc]; rfl, B2⟩
end Go.Proofs.YtinemkjoohgmjaaDoor
