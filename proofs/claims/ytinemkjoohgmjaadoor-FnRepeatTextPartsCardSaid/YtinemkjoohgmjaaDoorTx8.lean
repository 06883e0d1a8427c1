/- Contracts: a stamp's text. -/
import Derived.Test.YtinemkjoohgmjaaDoorTx7
import Derived.Test.YtinemkjoohgmjaaDoorSt4
namespace Go.Proofs.YtinemkjoohgmjaaDoor
open Go.RowKit
attribute [local go_sem] S_mk S_size S_app p1_len p2_len p3_len p4_len lt_cell

/-- A stamp's text. -/
def stT (x : S8) : List UInt8 := datT x.y x.mo x.d ++ [84] ++ clkT x.h x.mi x.s x.ms ++ offT x.o
theorem stT_len (x : S8) : (stT x).length ≤ 29 := by
  have h1 := datT_len x.y x.mo x.d
  have h2 := clkT_len x.h x.mi x.s x.ms
  have h3 := offT_len x.o
  unfold stT
  simp
  omega
theorem vld_bds {y mo d : Int} (h : vld y mo d = true) : 0 ≤ y ∧ y ≤ 9999 ∧ 0 ≤ mo ∧ mo ≤ 99 ∧ 0 ≤ d ∧ d ≤ 99 := by
  have h1 := vld_iff.1 h
  have h2 := inB_iff.1 (show inB d 1 (mds y mo) = true from h)
  have h3 := mds_bd y mo
  omega
set_option maxRecDepth 100000 in
set_option maxHeartbeats 2000000 in
theorem impl_stT (y mo d h mi s ms o : Int) (w : World) (hM : MD w) (hok : S8.ok ⟨y, mo, d, h, mi, s, ms, o⟩ = true) :
    Calls Tryd.prog 10 #[.agg #[.int .i64 y, .int .i64 mo, .int .i64 d, .int .i64 h, .int .i64 mi, .int .i64 s, .int .i64 ms, .int .i64 o]] w fun e w' => e = .returned (.string (S (stT ⟨y, mo, d, h, mi, s, ms, o⟩))) ∧ Below w.heap.size w w' := by
  obtain ⟨hv, hc, ho⟩ := S8.ok_in hok
  simp only at hv hc ho
  obtain ⟨a0, a1, b0, b1, c0, c1⟩ := vld_bds hv
  have hd1 := fun W => impl_datT y mo d W a0 a1 b0 b1 c0 c1
  have hd2 := fun W => impl_clkT h mi s ms W hc
  have hd3 := fun W => impl_offT o W ho
  have l1 : (((datT y mo d).length : Nat) : Int) = 10 := by rw [datT_len]; rfl
  have l2 : (((clkT h mi s ms).length : Nat) : Int) ≤ 12 := by have := clkT_len h mi s ms; omega
  have l3 : (((offT o).length : Nat) : Int) ≤ 6 := by have := offT_len o; omega
  have HF := hide (show stT ⟨y, mo, d, h, mi, s, ms, o⟩ = datT y mo d ++ [84] ++ clkT h mi s ms ++ offT o from rfl)
  generalize datT y mo d = DT at *
  generalize clkT h mi s ms = CT at *
  generalize offT o = OT at *
  have B0 := hide (bal (Below.refl w.heap.size w) (.cells #[.int .i64 y, .int .i64 mo, .int .i64 d, .int .i64 h, .int .i64 mi, .int .i64 s, .int .i64 ms, .int .i64 o] 28))
  have X0 := hide (Blk.new w 28 #[.int .i64 y, .int .i64 mo, .int .i64 d, .int .i64 h, .int .i64 mi, .int .i64 s, .int .i64 ms, .int .i64 o])
  have hsv := impl_sv ⟨y, mo, d, h, mi, s, ms, o⟩
  rw [hok] at hsv
  clear hok hv hc ho a0 a1 b0 b1 c0 c1
  go_enter Tryd.func10, Tryd.ntmps10
  go_wp2_with fail
  refine (hsv _ (hM.below B0.out)).mono ?_
  rintro e w1 ⟨rfl, hb1⟩
  have X1 := X0.out.below hb1 X0.out.lt
  have B1 := hide (bto B0.out hb1)
  have n1 := X1.lt
  have n2 : w.heap.size ≤ w1.heap.size := by omega
  obtain ⟨c0, c1, c2, c3, c4, c5, c6, c7⟩ := st8 X1
  clear X0 X1 B0 hb1 hsv
  go_wp2_with fail
  refine region_below (by kernel_rfl) (by kernel_rfl) ?_
  repeat (go_big_quiet_step ((first | (go_at_call 23; exact lt_call (hd1 _)) | (go_at_call 24; exact lt_call (hd2 _)) | (go_at_call 25; exact lt_call (hd3 _)))))
  refine wpQuiet_nil ?_
  rintro wq ⟨⟨_, hq⟩, rfl⟩
  go_wp2_with fail
  go_ret
  exact ⟨by rw [HF.out]; simp, bto B1.out hq⟩
set_option maxRecDepth 100000 in
set_option maxHeartbeats 2000000 in
theorem spec_stT (y mo d h mi s ms o : Int) (w : World) (hok : S8.ok ⟨y, mo, d, h, mi, s, ms, o⟩ = true) :
    Calls Tryd.prog 21 #[.agg #[.int .i64 y, .int .i64 mo, .int .i64 d, .int .i64 h, .int .i64 mi, .int .i64 s, .int .i64 ms, .int .i64 o]] w fun e w' => e = .returned (.string (S (stT ⟨y, mo, d, h, mi, s, ms, o⟩))) ∧ Below w.heap.size w w' := by
  obtain ⟨hv, hc, ho⟩ := S8.ok_in hok
  simp only at hv hc ho
  obtain ⟨a0, a1, b0, b1, c0, c1⟩ := vld_bds hv
  have hd1 := fun W => spec_datT y mo d W hv a0 a1 b0 b1 c0 c1
  have hd2 := fun W => spec_clkT h mi s ms W hc
  have hd3 := fun W => spec_offT o W ho
  have l1 : (((datT y mo d).length : Nat) : Int) = 10 := by rw [datT_len]; rfl
  have l2 : (((clkT h mi s ms).length : Nat) : Int) ≤ 12 := by have := clkT_len h mi s ms; omega
  have l3 : (((offT o).length : Nat) : Int) ≤ 6 := by have := offT_len o; omega
  have HF := hide (show stT ⟨y, mo, d, h, mi, s, ms, o⟩ = datT y mo d ++ [84] ++ clkT h mi s ms ++ offT o from rfl)
  generalize datT y mo d = DT at *
  generalize clkT h mi s ms = CT at *
  generalize offT o = OT at *
  have B0 := hide (bal (Below.refl w.heap.size w) (.cells #[.int .i64 y, .int .i64 mo, .int .i64 d, .int .i64 h, .int .i64 mi, .int .i64 s, .int .i64 ms, .int .i64 o] 28))
  have X0 := hide (Blk.new w 28 #[.int .i64 y, .int .i64 mo, .int .i64 d, .int .i64 h, .int .i64 mi, .int .i64 s, .int .i64 ms, .int .i64 o])
  clear hok hv hc ho a0 a1 b0 b1 c0 c1
  go_enter Tryd.func21, Tryd.ntmps21
  go_wp2_with fail
  refine (hd1 _).mono ?_
  rintro e w1 ⟨rfl, hb1⟩
  have X1 := X0.out.below hb1 X0.out.lt
  have B1 := hide (bto B0.out hb1)
  have n1 := X1.lt
  have n2 : w.heap.size ≤ w1.heap.size := by omega
  obtain ⟨c0, c1, c2, c3, c4, c5, c6, c7⟩ := st8 X1
  clear X0 X1 B0 hb1 hd1
  go_wp2_with fail
  refine region_below (by kernel_rfl) (by kernel_rfl) ?_
  repeat (go_big_quiet_step ((first | (go_at_call 47; exact lt_call (hd2 _)) | (go_at_call 48; exact lt_call (hd3 _)))))
  refine wpQuiet_nil ?_
  rintro wq ⟨⟨_, hq⟩, rfl⟩
  go_wp2_with fail
  go_ret
  exact ⟨by rw [HF.out]; simp, bto B1.out hq⟩
end Go.Proofs.YtinemkjoohgmjaaDoor
