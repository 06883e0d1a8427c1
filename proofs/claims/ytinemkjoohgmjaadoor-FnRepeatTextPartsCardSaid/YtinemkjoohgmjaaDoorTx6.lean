/- Contracts: a time's text (the reference's). -/
import Derived.Test.YtinemkjoohgmjaaDoorTx5
namespace Go.Proofs.YtinemkjoohgmjaaDoor
open Go.RowKit
attribute [local go_sem] S_mk S_size S_app p1_len p2_len p3_len p4_len lt_cell

theorem spec_frT (ms : Int) (w : World) (h0 : 0 ≤ ms) (h1 : ms ≤ 999) :
    Calls Tryd.prog 78 #[.int .i64 ms] w fun e w' => e = .returned (.string (S (frT ms))) ∧ Below w.heap.size w w' := by
  by_cases z : ms = 0
  · subst z
    go_enter Tryd.func78, Tryd.ntmps78
    go_wp2_with fail
    go_ret
    exact ⟨rfl, Below.refl _ _⟩
  have g : (ms == 0) = false := by simpa using z
  by_cases z1 : ms % 100 = 0
  · have HF := hide (show frT ms = 46 :: p1 (ms / 100) by unfold frT; rw [if_neg z, if_pos z1])
    go_enter Tryd.func78, Tryd.ntmps78
    go_wp2_with fail
    refine (put1 (ms / 100) _ (by omega) (by omega)).mono ?_
    rintro e w1 ⟨rfl, hb1⟩
    go_wp2_with fail
    go_ret
    exact ⟨by rw [HF.out]; simp, hb1⟩
  have g1 : (ms % 100 == 0) = false := by simpa using z1
  by_cases z2 : ms % 10 = 0
  · have HF := hide (show frT ms = 46 :: p2 (ms / 10) by unfold frT; rw [if_neg z, if_neg z1, if_pos z2])
    go_enter Tryd.func78, Tryd.ntmps78
    go_wp2_with fail
    refine (put2 (ms / 10) _ (by omega) (by omega)).mono ?_
    rintro e w1 ⟨rfl, hb1⟩
    go_wp2_with fail
    go_ret
    exact ⟨by rw [HF.out]; simp, hb1⟩
  have g2 : (ms % 10 == 0) = false := by simpa using z2
  have HF := hide (show frT ms = 46 :: p3 ms by unfold frT; rw [if_neg z, if_neg z1, if_neg z2])
  go_enter Tryd.func78, Tryd.ntmps78
  go_wp2_with fail
  refine (put3 ms _ h0 (by omega)).mono ?_
  rintro e w1 ⟨rfl, hb1⟩
  go_wp2_with fail
  go_ret
  exact ⟨by rw [HF.out]; simp, hb1⟩
set_option maxRecDepth 100000 in
set_option maxHeartbeats 1000000 in
theorem spec_clkT (h mi s ms : Int) (w : World) (hv : cvB h mi s ms = true) :
    Calls Tryd.prog 47 #[.agg #[.int .i64 h, .int .i64 mi, .int .i64 s, .int .i64 ms], .bool true] w fun e w' => e = .returned (.string (S (clkT h mi s ms))) ∧ Below w.heap.size w w' := by
  obtain ⟨b1, b2, b3, b4, b5, b6, b7, b8, _, _⟩ := cvB_bd hv
  have hd1 := fun W => put2 h W b1 (by omega)
  have hd2 := fun W => put2 mi W b3 (by omega)
  have hd3 := fun W => put2 s W b5 (by omega)
  have hd4 := fun W => spec_frT ms W b7 b8
  have HF := hide (show clkT h mi s ms = p2 h ++ [58] ++ p2 mi ++ [58] ++ p2 s ++ frT ms from rfl)
  have hl := frT_len ms
  generalize frT ms = F at *
  have hl2 : (F.length : Int) ≤ 4 := by omega
  have X0 := Blk.new w 26 #[.int .i64 h, .int .i64 mi, .int .i64 s, .int .i64 ms]
  obtain ⟨W, hW⟩ : ∃ W, W = w.alloc (.cells #[.int .i64 h, .int .i64 mi, .int .i64 s, .int .i64 ms] 26) := ⟨_, rfl⟩
  have B0 := hide (show Below w.heap.size w W by rw [hW]; exact bal (Below.refl _ _) _)
  rw [← hW] at X0
  have n1 := X0.lt
  have n2 : w.heap.size ≤ W.heap.size := by omega
  have c0 := X0.cell 0
  have c1 := X0.cell 1
  have c2 := X0.cell 2
  have c3 := X0.cell 3
  simp at c0 c1 c2 c3
  have HW := hide hW
  clear hW X0 hv
  go_enter Tryd.func47, Tryd.ntmps47
  go_wp2_with fail
  rw [← HW.out]
  refine region_below (by kernel_rfl) (by kernel_rfl) ?_
  repeat (go_big_quiet_step ((first | (go_at_call_of 75 h; exact lt_call (hd1 _)) | (go_at_call_of 75 mi; exact lt_call (hd2 _)) | (go_at_call_of 75 s; exact lt_call (hd3 _)) | (go_at_call 78; exact lt_call (hd4 _)))))
  refine wpQuiet_nil ?_
  rintro wq ⟨⟨_, hq⟩, rfl⟩
  go_wp2_with fail
  go_ret
  exact ⟨by rw [HF.out]; simp, bto B0.out hq⟩
end Go.Proofs.YtinemkjoohgmjaaDoor
