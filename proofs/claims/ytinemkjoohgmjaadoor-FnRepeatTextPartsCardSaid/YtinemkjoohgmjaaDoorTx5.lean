/- Contracts: a time's text. -/
import Derived.Test.YtinemkjoohgmjaaDoorTx4
import Derived.Test.YtinemkjoohgmjaaDoorSt
namespace Go.Proofs.YtinemkjoohgmjaaDoor
open Go.RowKit
attribute [local go_sem] S_mk S_size S_app p1_len p2_len p3_len p4_len lt_cell

theorem dg_zero {n : Int} (h : n % 10 = 0) : dg n = 48 := by unfold dg; rw [h]; rfl
theorem dg_ne {n : Int} (h : n % 10 ≠ 0) : (dg n == 48) = false := by
  cases hb : dg n == 48 with
  | false => rfl
  | true =>
    have e := dg_val n
    rw [eq_of_beq hb] at e
    exact absurd (show n % 10 = 0 by
      have : ((48 : UInt8).toNat : Int) = 48 := rfl
      omega) h
/-- The fraction of a second. -/
def frT (ms : Int) : List UInt8 := if ms = 0 then [] else if ms % 100 = 0 then 46 :: p1 (ms / 100) else if ms % 10 = 0 then 46 :: p2 (ms / 10) else 46 :: p3 ms
theorem frT_len (ms : Int) : (frT ms).length ≤ 4 := by unfold frT; split <;> (try split) <;> (try split) <;> simp [p1, p2, p3]
theorem trim1 {ms : Int} (h0 : 0 < ms) (h1 : ms ≤ 999) (h : ms % 100 = 0) : Lib.trimRightB (p3 ms) 48 = p1 (ms / 100) := by
  have e1 : dg ms = 48 := dg_zero (by omega)
  have e2 : dg (ms / 10) = 48 := dg_zero (by omega)
  have e3 : (dg (ms / 100) == 48) = false := dg_ne (by omega)
  simp [Lib.trimRightB, p3, p1, List.dropWhile, e1, e2, e3]
theorem trim2 {ms : Int} (h : ¬ ms % 100 = 0) (h' : ms % 10 = 0) : Lib.trimRightB (p3 ms) 48 = p2 (ms / 10) := by
  have e1 : dg ms = 48 := dg_zero h'
  have e2 : (dg (ms / 10) == 48) = false := dg_ne (by omega)
  have e3 : ms / 10 / 10 = ms / 100 := by omega
  simp [Lib.trimRightB, p3, p2, List.dropWhile, e1, e2, e3]
theorem trim3 {ms : Int} (h' : ¬ ms % 10 = 0) : Lib.trimRightB (p3 ms) 48 = p3 ms := by
  have e1 : (dg ms == 48) = false := dg_ne h'
  simp [Lib.trimRightB, p3, e1]
theorem trim_any (l r : List UInt8) (w : World) (hl : l.length ≤ 100) (hr : Lib.trimRightB l 48 = r) :
    Calls Tryd.prog 53 #[.string (S l), .string (S [48])] w fun e w' => e = .returned (.string (S r)) ∧ w = w' := by
  refine (Tryd.strings_TrimRight_one (S l) 48 (by decide) w (by rw [S_size]; omega)).mono ?_
  rintro e w' ⟨rfl, rfl⟩
  rw [← hr]
  exact ⟨by simp [S], rfl⟩
def clkT (h mi s ms : Int) : List UInt8 := p2 h ++ [58] ++ p2 mi ++ [58] ++ p2 s ++ frT ms
theorem clkT_len (h mi s ms : Int) : (clkT h mi s ms).length ≤ 12 := by
  have := frT_len ms
  unfold clkT
  simp [p2_len]
  omega
set_option maxRecDepth 100000 in
set_option maxHeartbeats 1000000 in
theorem impl_clkT (h mi s ms : Int) (w : World) (hv : cvB h mi s ms = true) :
    Calls Tryd.prog 24 #[.agg #[.int .i64 h, .int .i64 mi, .int .i64 s, .int .i64 ms], .bool true] w fun e w' => e = .returned (.string (S (clkT h mi s ms))) ∧ Below w.heap.size w w' := by
  obtain ⟨b1, b2, b3, b4, b5, b6, b7, b8, _, _⟩ := cvB_bd hv
  have hd1 := fun W => digits2 h W b1 (by omega)
  have hd2 := fun W => digits2 mi W b3 (by omega)
  have hd3 := fun W => digits2 s W b5 (by omega)
  have B0 := hide (bal (Below.refl w.heap.size w) (.cells #[.int .i64 h, .int .i64 mi, .int .i64 s, .int .i64 ms] 26))
  have X0 := hide (Blk.new w 26 #[.int .i64 h, .int .i64 mi, .int .i64 s, .int .i64 ms])
  go_enter Tryd.func24, Tryd.ntmps24
  go_wp2_with fail
  refine (impl_cv h mi s ms _).mono ?_
  rintro e w1 ⟨rfl, hb1⟩
  rw [hv]
  have X1 := X0.out.below hb1 X0.out.lt
  have B1 := hide (bto B0.out hb1)
  have n1 := X1.lt
  have n2 : w.heap.size ≤ w1.heap.size := by omega
  have c0 := X1.cell 0
  have c1 := X1.cell 1
  have c2 := X1.cell 2
  have c3 := X1.cell 3
  simp at c0 c1 c2 c3
  have HX1 := hide X1
  clear X1 X0 B0 hb1 hv
  go_wp2_with fail
  refine region_below (by kernel_rfl) (by kernel_rfl) ?_
  repeat (go_big_quiet_step ((first | (go_at_call_of 52 h; exact lt_call (hd1 _)) | (go_at_call_of 52 mi; exact lt_call (hd2 _)) | (go_at_call_of 52 s; exact lt_call (hd3 _)))))
  refine wpQuiet_nil ?_
  rintro wq ⟨⟨_, hq⟩, rfl⟩
  have BQ := hide (bto B1.out hq)
  have XQ := HX1.out.below hq HX1.out.lt
  clear c0 c1 c2 c3
  have c3 := XQ.cell 3
  simp at c3
  by_cases z : ms = 0
  · subst z
    have HF := hide (show clkT h mi s 0 = p2 h ++ [58] ++ p2 mi ++ [58] ++ p2 s by unfold clkT frT; rw [if_pos rfl, List.append_nil])
    go_wp2_with fail
    go_ret
    exact ⟨by rw [HF.out]; simp, BQ.out⟩
  · by_cases z1 : ms % 100 = 0
    · have HF := hide (show clkT h mi s ms = p2 h ++ [58] ++ p2 mi ++ [58] ++ p2 s ++ (46 :: p1 (ms / 100)) by unfold clkT frT; rw [if_neg z, if_pos z1])
      have HR := hide (trim1 (show 0 < ms by omega) b8 z1)
      have g1 : (ms != 0) = true := by simp [z]
      go_wp2_with fail
      refine (digits3 ms _ b7 (by omega)).mono ?_
      rintro e w3 ⟨rfl, hb3⟩
      have B3 := hide (bto BQ.out hb3)
      go_wp2_with fail
      refine (trim_any (p3 ms) (p1 (ms / 100)) _ (by simp [p3]) HR.out).mono ?_
      rintro e w4 ⟨rfl, rfl⟩
      clear hb3 c3
      go_wp2_with fail
      go_ret
      exact ⟨by rw [HF.out]; simp, B3.out⟩
    · by_cases z2 : ms % 10 = 0
      · have HF := hide (show clkT h mi s ms = p2 h ++ [58] ++ p2 mi ++ [58] ++ p2 s ++ (46 :: p2 (ms / 10)) by unfold clkT frT; rw [if_neg z, if_neg z1, if_pos z2])
        have HR := hide (trim2 z1 z2)
        have g1 : (ms != 0) = true := by simp [z]
        go_wp2_with fail
        refine (digits3 ms _ b7 (by omega)).mono ?_
        rintro e w3 ⟨rfl, hb3⟩
        have B3 := hide (bto BQ.out hb3)
        go_wp2_with fail
        refine (trim_any (p3 ms) (p2 (ms / 10)) _ (by simp [p3]) HR.out).mono ?_
        rintro e w4 ⟨rfl, rfl⟩
        clear hb3 c3
        go_wp2_with fail
        go_ret
        exact ⟨by rw [HF.out]; simp, B3.out⟩
      · have HF := hide (show clkT h mi s ms = p2 h ++ [58] ++ p2 mi ++ [58] ++ p2 s ++ (46 :: p3 ms) by unfold clkT frT; rw [if_neg z, if_neg z1, if_neg z2])
        have HR := hide (trim3 z2)
        have g1 : (ms != 0) = true := by simp [z]
        go_wp2_with fail
        refine (digits3 ms _ b7 (by omega)).mono ?_
        rintro e w3 ⟨rfl, hb3⟩
        have B3 := hide (bto BQ.out hb3)
        go_wp2_with fail
        refine (trim_any (p3 ms) (p3 ms) _ (by simp [p3]) HR.out).mono ?_
        rintro e w4 ⟨rfl, rfl⟩
        clear hb3 c3
        go_wp2_with fail
        go_ret
        exact ⟨by rw [HF.out]; simp, B3.out⟩
end Go.Proofs.YtinemkjoohgmjaaDoor
