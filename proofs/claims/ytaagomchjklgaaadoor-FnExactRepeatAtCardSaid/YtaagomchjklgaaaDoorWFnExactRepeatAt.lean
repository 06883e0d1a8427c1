/- The law FnExactRepeatAt returns true. -/
import Derived.Test.YtaagomchjklgaaaDoorRa3
import Derived.Test.YtaagomchjklgaaaDoorEqs
import Derived.Test.YtaagomchjklgaaaDoorShellI
import Derived.Test.YtaagomchjklgaaaDoorShellD
namespace Go.Proofs.YtaagomchjklgaaaDoor
open Go.RowKit

set_option maxRecDepth 100000 in
set_option maxHeartbeats 4000000 in
theorem w_FnExactRepeatAt (w : World) (hM : MD w) (x : S8 × (Int × Int × Int × Int × Int × Int) × Int) (_hx : True) (u : Int) (_hu : I64 u) :
    Calls Tryd.prog 4 #[.agg #[.int .i64 x.1.y, .int .i64 x.1.mo, .int .i64 x.1.d, .int .i64 x.1.h, .int .i64 x.1.mi, .int .i64 x.1.s, .int .i64 x.1.ms, .int .i64 x.1.o, .int .i64 x.2.1.1, .int .i64 x.2.1.2.1, .int .i64 x.2.1.2.2.1, .int .i64 x.2.1.2.2.2.1, .int .i64 x.2.1.2.2.2.2.1, .int .i64 x.2.1.2.2.2.2.2, .int .i64 x.2.2], .int .i64 u] w fun e w' => e = .returned (.bool true) ∧ Below w.heap.size w w' := by
  obtain ⟨⟨y, mo, d, h, mi, s, ms, o⟩, ⟨p1, p2, p3, p4, p5, p6⟩, n⟩ := x
  show Calls Tryd.prog 4 #[.agg #[.int .i64 y, .int .i64 mo, .int .i64 d, .int .i64 h, .int .i64 mi, .int .i64 s, .int .i64 ms, .int .i64 o, .int .i64 p1, .int .i64 p2, .int .i64 p3, .int .i64 p4, .int .i64 p5, .int .i64 p6, .int .i64 n], .int .i64 u] w fun e w' => e = .returned (.bool true) ∧ Below w.heap.size w w'
  obtain ⟨⟨⟨y', mo', d', h', mi', s', ms', o'⟩, ok⟩, hrr⟩ : ∃ r, raP ⟨y, mo, d, h, mi, s, ms, o⟩ p1 p2 p3 p4 p5 p6 n u = r := ⟨_, rfl⟩
  have hS : ∀ W, Calls Tryd.prog 14 #[.agg #[.int .i64 y, .int .i64 mo, .int .i64 d, .int .i64 h, .int .i64 mi, .int .i64 s, .int .i64 ms, .int .i64 o, .int .i64 p1, .int .i64 p2, .int .i64 p3, .int .i64 p4, .int .i64 p5, .int .i64 p6, .int .i64 n], .int .i64 u] W fun e w' => e = .returned (.tuple #[.agg #[.int .i64 y', .int .i64 mo', .int .i64 d', .int .i64 h', .int .i64 mi', .int .i64 s', .int .i64 ms', .int .i64 o'], .bool ok]) ∧ Below W.heap.size W w' := fun W => by
    have q := spec_ra y mo d h mi s ms o p1 p2 p3 p4 p5 p6 n u W
    rw [hrr] at q
    exact q
  have hI : ∀ W, MD W → Calls Tryd.prog 15 #[.agg #[.int .i64 y, .int .i64 mo, .int .i64 d, .int .i64 h, .int .i64 mi, .int .i64 s, .int .i64 ms, .int .i64 o, .int .i64 p1, .int .i64 p2, .int .i64 p3, .int .i64 p4, .int .i64 p5, .int .i64 p6, .int .i64 n], .int .i64 u] W fun e w' => e = .returned (.tuple #[.agg #[.int .i64 y', .int .i64 mo', .int .i64 d', .int .i64 h', .int .i64 mi', .int .i64 s', .int .i64 ms', .int .i64 o'], .bool ok]) ∧ Below W.heap.size W w' := fun W hW => by
    have q := impl_ra y mo d h mi s ms o p1 p2 p3 p4 p5 p6 n u W hW
    rw [hrr] at q
    exact q
  clear hrr
  have g2 : (ok != ok) = false := by simp
  have X0 := hide (Blk.new w 31 #[.int .i64 y, .int .i64 mo, .int .i64 d, .int .i64 h, .int .i64 mi, .int .i64 s, .int .i64 ms, .int .i64 o, .int .i64 p1, .int .i64 p2, .int .i64 p3, .int .i64 p4, .int .i64 p5, .int .i64 p6, .int .i64 n])
  have B0 := hide (bal (Below.refl w.heap.size w) (.cells #[.int .i64 y, .int .i64 mo, .int .i64 d, .int .i64 h, .int .i64 mi, .int .i64 s, .int .i64 ms, .int .i64 o, .int .i64 p1, .int .i64 p2, .int .i64 p3, .int .i64 p4, .int .i64 p5, .int .i64 p6, .int .i64 n] 31))
  go_enter Tryd.func4, Tryd.ntmps4
  go_wp2_with fail
  refine (toRepeat_any y mo d h mi s ms o p1 p2 p3 p4 p5 p6 n _).mono ?_
  rintro e w1 ⟨rfl, hb1⟩
  have B1 := hide (bto B0.out hb1)
  have X1 := hide (X0.out.below hb1 X0.out.lt)
  clear X0 B0 hb1
  go_wp2_with fail
  refine (hS _).mono ?_
  rintro e w2 ⟨rfl, hb2⟩
  have B2 := hide (bal (bto B1.out hb2) (.cells #[.int .i64 y', .int .i64 mo', .int .i64 d', .int .i64 h', .int .i64 mi', .int .i64 s', .int .i64 ms', .int .i64 o'] 37))
  have X2 := hide ((X1.out.below hb2 X1.out.lt).alloc (.cells #[.int .i64 y', .int .i64 mo', .int .i64 d', .int .i64 h', .int .i64 mi', .int .i64 s', .int .i64 ms', .int .i64 o'] 37))
  have S2 := hide (Blk.new w2 37 #[.int .i64 y', .int .i64 mo', .int .i64 d', .int .i64 h', .int .i64 mi', .int .i64 s', .int .i64 ms', .int .i64 o'])
  clear X1 B1 hb2 hS
  have c0 := X2.out.cell 0
  have c1 := X2.out.cell 1
  have c2 := X2.out.cell 2
  have c3 := X2.out.cell 3
  have c4 := X2.out.cell 4
  have c5 := X2.out.cell 5
  have c6 := X2.out.cell 6
  have c7 := X2.out.cell 7
  have c8 := X2.out.cell 8
  have c9 := X2.out.cell 9
  have c10 := X2.out.cell 10
  have c11 := X2.out.cell 11
  have c12 := X2.out.cell 12
  have c13 := X2.out.cell 13
  have c14 := X2.out.cell 14
  simp at c0 c1 c2 c3 c4 c5 c6 c7 c8 c9 c10 c11 c12 c13 c14
  go_wp2_with fail
  refine (toRepeat_any y mo d h mi s ms o p1 p2 p3 p4 p5 p6 n _).mono ?_
  rintro e w3 ⟨rfl, hb3⟩
  have B3 := hide (bto B2.out hb3)
  have S3 := hide (S2.out.below hb3 S2.out.lt)
  clear X2 S2 B2 hb3 c0 c1 c2 c3 c4 c5 c6 c7 c8 c9 c10 c11 c12 c13 c14
  go_wp2_with fail
  refine (hI _ (hM.below B3.out)).mono ?_
  rintro e w4 ⟨rfl, hb4⟩
  have S4 := hide ((S3.out.below hb4 S3.out.lt).alloc (.cells #[.int .i64 y', .int .i64 mo', .int .i64 d', .int .i64 h', .int .i64 mi', .int .i64 s', .int .i64 ms', .int .i64 o'] 37))
  have hsl := (S3.out.below hb4 S3.out.lt).lt
  have B4 := hide (bal (bto B3.out hb4) (.cells #[.int .i64 y', .int .i64 mo', .int .i64 d', .int .i64 h', .int .i64 mi', .int .i64 s', .int .i64 ms', .int .i64 o'] 37))
  clear S3 B3 hb4 hI
  have sq0 := S4.out.cell 0
  have sq1 := S4.out.cell 1
  have sq2 := S4.out.cell 2
  have sq3 := S4.out.cell 3
  have sq4 := S4.out.cell 4
  have sq5 := S4.out.cell 5
  have sq6 := S4.out.cell 6
  have sq7 := S4.out.cell 7
  simp at sq0 sq1 sq2 sq3 sq4 sq5 sq6 sq7
  go_wp2_with fail
  refine (eqStamp_same _ _ _ _ _ _ _ _ _).mono ?_
  rintro e w5 ⟨rfl, hb5⟩
  go_wp2_with fail
  go_ret
  exact ⟨rfl, bto B4.out hb5⟩
end Go.Proofs.YtaagomchjklgaaaDoor
