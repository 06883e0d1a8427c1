/- The law FnExactWorkPlus returns true. -/
import Derived.Test.YtdflacnegkgljaaDoorWp4
import Derived.Test.YtdflacnegkgljaaDoorEq
import Derived.Test.YtdflacnegkgljaaDoorShellW
import Derived.Test.YtdflacnegkgljaaDoorShellI
import Derived.Test.YtdflacnegkgljaaDoorShellD
namespace Go.Proofs.YtdflacnegkgljaaDoor
open Go.RowKit

set_option maxRecDepth 100000 in
set_option maxHeartbeats 4000000 in
theorem w_FnExactWorkPlus (w : World) (hM : MD w) (x : D3) (_hx : True) (n : Int) (_hn : I64 n) (A : Option Addr) (len cap : Nat) (l : List D3) (hl : l.length = len) (hP : Drs w.heap.size w A l) (_hi : True) (hc : len ≤ cap) (hm : cap ≤ maxLen) :
    Calls Tryd.prog 9 #[.agg #[.int .i64 x.1, .int .i64 x.2.1, .int .i64 x.2.2], .int .i64 n, .slice A len cap] w fun e w' => e = .returned (.bool true) ∧ Below w.heap.size w w' := by
  obtain ⟨ya, ma, da⟩ := x
  show Calls Tryd.prog 9 #[.agg #[.int .i64 ya, .int .i64 ma, .int .i64 da], .int .i64 n, .slice A len cap] w fun e w' => e = .returned (.bool true) ∧ Below w.heap.size w w'
  subst hl
  unfold maxLen at hm
  have HB0 := hide (bal (Below.refl w.heap.size w) (.cells #[.int .i64 ya, .int .i64 ma, .int .i64 da] 36))
  by_cases hbig : (1048576 : Int) < l.length
  · go_enter Tryd.func9, Tryd.ntmps9
    go_wp2_with fail
    refine (szD_any l.length cap A _ _ (by omega) (by omega) (by omega)).mono ?_
    rintro e w1 ⟨rfl, rfl⟩
    rw [if_pos (by omega)]
    go_wp2_with fail
    go_ret
    exact ⟨rfl, HB0.out⟩
  obtain ⟨⟨r1, r2, r3⟩, b, hV⟩ := wpv_ex ya ma da n l
  have HV := hide hV
  have gb : (b != b) = false := by simp
  clear hV
  have XA := hide (Blk.new w 36 #[.int .i64 ya, .int .i64 ma, .int .i64 da])
  have HP0 := hide (show Drs w.heap.size (w.alloc (.cells #[.int .i64 ya, .int .i64 ma, .int .i64 da] 36)) A l from hP.below' HB0.out (Nat.le_refl _))
  have hM0 := hM.below HB0.out
  clear hP
  go_enter Tryd.func9, Tryd.ntmps9
  go_wp2_with fail
  refine (szD_any l.length cap A _ _ (by omega) (by omega) (by omega)).mono ?_
  rintro e w1 ⟨rfl, rfl⟩
  rw [if_neg (by omega)]
  have c0 := XA.out.cell 0
  have c1 := XA.out.cell 1
  have c2 := XA.out.cell 2
  simp at c0 c1 c2
  go_wp2_with fail
  refine (toDate_any ya ma da _).mono ?_
  rintro e w1 ⟨rfl, hb1⟩
  have H1 := hide (bto HB0.out hb1)
  have HP1 := hide (HP0.out.below' hb1 (by simp))
  have X1 := hide (XA.out.below hb1 XA.out.lt)
  clear hb1 c0 c1 c2 XA HP0
  go_wp2_with fail
  refine (toDS_any l _ _ w.heap.size _ _ rfl HP1.out (by have := H1.out.size; omega) (by omega)).mono ?_
  rintro e w2 ⟨g2, q2, rfl, ho2, hb2⟩
  have H2 := hide (bto H1.out hb2)
  have HP2 := hide (HP1.out.below' hb2 (by have := H1.out.size; omega))
  have X2 := hide (X1.out.below hb2 X1.out.lt)
  have T2 := hide (Drs.own ho2)
  clear hb2 ho2 HP1 X1
  go_wp2_with fail
  refine (spec_wp ya ma da n l _ _ w2.heap.size _ _ rfl T2.out (Nat.le_refl _) (by omega) _ _ HV.out).mono ?_
  rintro e w3 ⟨rfl, hb3⟩
  have H3 := hide (bal (bto H2.out hb3) (.cells #[.int .i64 r1, .int .i64 r2, .int .i64 r3] 25))
  have HP3 := hide (HP2.out.below' (bal hb3 (.cells #[.int .i64 r1, .int .i64 r2, .int .i64 r3] 25)) (by have := H2.out.size; omega))
  have X3 := hide ((X2.out.below hb3 X2.out.lt).alloc (.cells #[.int .i64 r1, .int .i64 r2, .int .i64 r3] 25))
  have Y3 := hide (Blk.new w3 25 #[.int .i64 r1, .int .i64 r2, .int .i64 r3])
  clear hb3 T2 HP2 X2
  go_wp2_with fail
  refine (toDS_any l _ _ w.heap.size _ _ rfl HP3.out (by have := H3.out.size; omega) (by omega)).mono ?_
  rintro e w4 ⟨g4, q4, rfl, ho4, hb4⟩
  have H4 := hide (bto H3.out hb4)
  have HP4 := hide (HP3.out.below' hb4 (by have := H3.out.size; omega))
  have X4 := hide (X3.out.below hb4 X3.out.lt)
  have Y4 := hide (Y3.out.below hb4 Y3.out.lt)
  have HO4 := hide ho4
  clear hb4 ho4 HP3 X3 Y3
  have c0 := X4.out.cell 0
  have c1 := X4.out.cell 1
  have c2 := X4.out.cell 2
  simp at c0 c1 c2
  go_wp2_with fail
  refine (toDate_any ya ma da _).mono ?_
  rintro e w5 ⟨rfl, hb5⟩
  have H5 := hide (bto H4.out hb5)
  have HP5 := hide (HP4.out.below' hb5 (by have := H4.out.size; omega))
  have Y5 := hide (Y4.out.below hb5 Y4.out.lt)
  have HO5 := hide (own_belowD HO4.out hb5)
  clear hb5 HO4 HP4 X4 Y4 c0 c1 c2
  go_wp2_with fail
  refine (impl_wp ya ma da n l _ _ w5.heap.size _ _ (hM.below H5.out) rfl (Drs.own HO5.out) (Nat.le_refl _) (by omega) _ _ HV.out).mono ?_
  rintro e w6 ⟨rfl, hb6⟩
  have H6 := hide (bal (bto H5.out hb6) (.cells #[.int .i64 r1, .int .i64 r2, .int .i64 r3] 25))
  have HP6 := hide (HP5.out.below' (bal hb6 (.cells #[.int .i64 r1, .int .i64 r2, .int .i64 r3] 25)) (by have := H5.out.size; omega))
  have Y6 := hide ((Y5.out.below hb6 Y5.out.lt).alloc (.cells #[.int .i64 r1, .int .i64 r2, .int .i64 r3] 25))
  have HO6 := hide (own_belowD HO5.out (bal hb6 (.cells #[.int .i64 r1, .int .i64 r2, .int .i64 r3] 25)))
  have Z6 := hide (Blk.new w6 25 #[.int .i64 r1, .int .i64 r2, .int .i64 r3])
  clear hb6 HO5 HP5 Y5
  have c0 := Y6.out.cell 0
  have c1 := Y6.out.cell 1
  have c2 := Y6.out.cell 2
  simp at c0 c1 c2
  have d0 := Z6.out.cell 0
  have d1 := Z6.out.cell 1
  have d2 := Z6.out.cell 2
  simp at d0 d1 d2
  go_wp2_with fail
  refine (eqDate_same _ _ _ _).mono ?_
  rintro e w7 ⟨rfl, hb7⟩
  have H7 := hide (bto H6.out hb7)
  have HP7 := hide (HP6.out.below' hb7 (by have := H6.out.size; omega))
  have HO7 := hide (own_belowD HO6.out hb7)
  clear hb7 HP6 HO6 Y6 Z6 c0 c1 c2 d0 d1 d2
  go_wp2_with fail
  refine (toDS_any l _ _ w.heap.size _ _ rfl HP7.out (by have := H7.out.size; omega) (by omega)).mono ?_
  rintro e w8 ⟨g8, q8, rfl, ho8, hb8⟩
  have H8 := hide (bto H7.out hb8)
  have HO8 := own_belowD HO7.out hb8
  clear hb8 HP7 HO7
  go_wp2_with fail
  refine (eqDS_same l _ _ _ _ _ _ _ rfl (Drs.own HO8) (Drs.own ho8) (Nat.le_refl _) (by omega)).mono ?_
  rintro e w9 ⟨rfl, hb9⟩
  have H9 := hide (bto H8.out hb9)
  go_wp2_with fail
  go_ret
  exact ⟨rfl, H9.out⟩
end Go.Proofs.YtdflacnegkgljaaDoor
