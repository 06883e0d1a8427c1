/- Contracts: a number's digits (the program's). -/
import Derived.Test.YtinemkjoohgmjaaDoorTxPl
import Derived.Laws.IdiomStrings
namespace Go.Proofs.YtinemkjoohgmjaaDoor
open Go.RowKit

theorem info_u8 : (Tryd.prog.info? 5).map (fun i => (i.zero, i.size, i.bytes)) = some (some (.int .u8 0), 1, 1) := by kernel_rfl
theorem u8_dg {a b : Int} (h : a % 10 = b % 10) : Value.int .u8 (48 + a % 10) = .int .u8 ((dg b).toNat : Int) := by rw [dg_val, h]

set_option maxRecDepth 100000 in
set_option maxHeartbeats 2000000 in
theorem digits2 (n : Int) (w : World) (h0 : 0 ≤ n) (h1 : n ≤ 9999) :
    Calls Tryd.prog 52 #[.int .i64 n, .int .i64 2] w fun e w' => e = .returned (.string (S (p2 n))) ∧ Below w.heap.size w w' := by
  have hmk : (Instr.makeSlice 22 (.int .i64 2) (.int .i64 2)).run Tryd.prog w = .ok (.slice (some ⟨w.heap.size, 0, none⟩) 2 2) (w.alloc (.cells #[.int .u8 0, .int .u8 0] 5)) := by
    obtain ⟨i0, hi, hz0, hz1, hz2⟩ := info_parts info_u8
    have h := run_make (P := Tryd.prog) w 22 5 i0 (.int .u8 0) Tryd.underlying22 hi hz0 .i64 .i64 2 2 (by omega) (by omega) (by rw [hz2]; omega) (by omega)
    rw [hz1, show madeCells (Value.int IntKind.u8 0).cells (((2 : Int)).toNat * 1) = #[.int .u8 0, .int .u8 0] by kernel_rfl] at h
    exact h
  have hcv : (convert 22 9 (.slice (some ⟨w.heap.size, 0, none⟩) 2 2)).run Tryd.prog (w.alloc (.cells #[.int .u8 (48 + n / 10 % 10), .int .u8 (48 + n % 10)] 5)) = .ok (.string (S (p2 n))) (w.alloc (.cells #[.int .u8 (48 + n / 10 % 10), .int .u8 (48 + n % 10)] 5)) := by
    have e : (#[.int .u8 (48 + n / 10 % 10), .int .u8 (48 + n % 10)] : Array Value) = #[.int .u8 ((dg (n / 10)).toNat : Int), .int .u8 ((dg (n)).toNat : Int)] := by
      rw [u8_dg (a := n / 10) (b := n / 10) (by omega), u8_dg (a := n) (b := n) (by omega)]
    rw [e]
    refine run_convert_bytes_back (P := Tryd.prog) (w.alloc (.cells #[.int .u8 ((dg (n / 10)).toNat : Int), .int .u8 ((dg (n)).toNat : Int)] 5)) 22 9 5 ⟨w.heap.size, 0, none⟩ 2 (p2 n) Tryd.underlying22 Tryd.underlying5 Tryd.underlying9 fun j hj => ?_
    have hb := Blk.new w 5 #[.int .u8 ((dg (n / 10)).toNat : Int), .int .u8 ((dg (n)).toNat : Int)]
    have hj' : j < 2 := hj
    rcases (show j = 0 ∨ j = 1 by omega) with rfl | rfl <;> first | exact hb.cell 0 | exact hb.cell 1
  go_enter Tryd.func52, Tryd.ntmps52
  go_wp2_with fail
  refine wp_loop_rounds 3 ?_
  rw [rounds_succ]
  go_wp2_with fail
  rw [rounds_succ]
  go_wp2_with fail
  rw [rounds_succ]
  go_wp2_with fail
  go_ret
  exact ⟨rfl, bal (Below.refl _ _) _⟩

set_option maxRecDepth 100000 in
set_option maxHeartbeats 2000000 in
theorem digits3 (n : Int) (w : World) (h0 : 0 ≤ n) (h1 : n ≤ 9999) :
    Calls Tryd.prog 52 #[.int .i64 n, .int .i64 3] w fun e w' => e = .returned (.string (S (p3 n))) ∧ Below w.heap.size w w' := by
  have hmk : (Instr.makeSlice 22 (.int .i64 3) (.int .i64 3)).run Tryd.prog w = .ok (.slice (some ⟨w.heap.size, 0, none⟩) 3 3) (w.alloc (.cells #[.int .u8 0, .int .u8 0, .int .u8 0] 5)) := by
    obtain ⟨i0, hi, hz0, hz1, hz2⟩ := info_parts info_u8
    have h := run_make (P := Tryd.prog) w 22 5 i0 (.int .u8 0) Tryd.underlying22 hi hz0 .i64 .i64 3 3 (by omega) (by omega) (by rw [hz2]; omega) (by omega)
    rw [hz1, show madeCells (Value.int IntKind.u8 0).cells (((3 : Int)).toNat * 1) = #[.int .u8 0, .int .u8 0, .int .u8 0] by kernel_rfl] at h
    exact h
  have hcv : (convert 22 9 (.slice (some ⟨w.heap.size, 0, none⟩) 3 3)).run Tryd.prog (w.alloc (.cells #[.int .u8 (48 + n / 10 / 10 % 10), .int .u8 (48 + n / 10 % 10), .int .u8 (48 + n % 10)] 5)) = .ok (.string (S (p3 n))) (w.alloc (.cells #[.int .u8 (48 + n / 10 / 10 % 10), .int .u8 (48 + n / 10 % 10), .int .u8 (48 + n % 10)] 5)) := by
    have e : (#[.int .u8 (48 + n / 10 / 10 % 10), .int .u8 (48 + n / 10 % 10), .int .u8 (48 + n % 10)] : Array Value) = #[.int .u8 ((dg (n / 100)).toNat : Int), .int .u8 ((dg (n / 10)).toNat : Int), .int .u8 ((dg (n)).toNat : Int)] := by
      rw [u8_dg (a := n / 10 / 10) (b := n / 100) (by omega), u8_dg (a := n / 10) (b := n / 10) (by omega), u8_dg (a := n) (b := n) (by omega)]
    rw [e]
    refine run_convert_bytes_back (P := Tryd.prog) (w.alloc (.cells #[.int .u8 ((dg (n / 100)).toNat : Int), .int .u8 ((dg (n / 10)).toNat : Int), .int .u8 ((dg (n)).toNat : Int)] 5)) 22 9 5 ⟨w.heap.size, 0, none⟩ 3 (p3 n) Tryd.underlying22 Tryd.underlying5 Tryd.underlying9 fun j hj => ?_
    have hb := Blk.new w 5 #[.int .u8 ((dg (n / 100)).toNat : Int), .int .u8 ((dg (n / 10)).toNat : Int), .int .u8 ((dg (n)).toNat : Int)]
    have hj' : j < 3 := hj
    rcases (show j = 0 ∨ j = 1 ∨ j = 2 by omega) with rfl | rfl | rfl <;> first | exact hb.cell 0 | exact hb.cell 1 | exact hb.cell 2
  go_enter Tryd.func52, Tryd.ntmps52
  go_wp2_with fail
  refine wp_loop_rounds 4 ?_
  rw [rounds_succ]
  go_wp2_with fail
  rw [rounds_succ]
  go_wp2_with fail
  rw [rounds_succ]
  go_wp2_with fail
  rw [rounds_succ]
  go_wp2_with fail
  go_ret
  exact ⟨rfl, bal (Below.refl _ _) _⟩

set_option maxRecDepth 100000 in
set_option maxHeartbeats 2000000 in
theorem digits4 (n : Int) (w : World) (h0 : 0 ≤ n) (h1 : n ≤ 9999) :
    Calls Tryd.prog 52 #[.int .i64 n, .int .i64 4] w fun e w' => e = .returned (.string (S (p4 n))) ∧ Below w.heap.size w w' := by
  have hmk : (Instr.makeSlice 22 (.int .i64 4) (.int .i64 4)).run Tryd.prog w = .ok (.slice (some ⟨w.heap.size, 0, none⟩) 4 4) (w.alloc (.cells #[.int .u8 0, .int .u8 0, .int .u8 0, .int .u8 0] 5)) := by
    obtain ⟨i0, hi, hz0, hz1, hz2⟩ := info_parts info_u8
    have h := run_make (P := Tryd.prog) w 22 5 i0 (.int .u8 0) Tryd.underlying22 hi hz0 .i64 .i64 4 4 (by omega) (by omega) (by rw [hz2]; omega) (by omega)
    rw [hz1, show madeCells (Value.int IntKind.u8 0).cells (((4 : Int)).toNat * 1) = #[.int .u8 0, .int .u8 0, .int .u8 0, .int .u8 0] by kernel_rfl] at h
    exact h
  have hcv : (convert 22 9 (.slice (some ⟨w.heap.size, 0, none⟩) 4 4)).run Tryd.prog (w.alloc (.cells #[.int .u8 (48 + n / 10 / 10 / 10 % 10), .int .u8 (48 + n / 10 / 10 % 10), .int .u8 (48 + n / 10 % 10), .int .u8 (48 + n % 10)] 5)) = .ok (.string (S (p4 n))) (w.alloc (.cells #[.int .u8 (48 + n / 10 / 10 / 10 % 10), .int .u8 (48 + n / 10 / 10 % 10), .int .u8 (48 + n / 10 % 10), .int .u8 (48 + n % 10)] 5)) := by
    have e : (#[.int .u8 (48 + n / 10 / 10 / 10 % 10), .int .u8 (48 + n / 10 / 10 % 10), .int .u8 (48 + n / 10 % 10), .int .u8 (48 + n % 10)] : Array Value) = #[.int .u8 ((dg (n / 1000)).toNat : Int), .int .u8 ((dg (n / 100)).toNat : Int), .int .u8 ((dg (n / 10)).toNat : Int), .int .u8 ((dg (n)).toNat : Int)] := by
      rw [u8_dg (a := n / 10 / 10 / 10) (b := n / 1000) (by omega), u8_dg (a := n / 10 / 10) (b := n / 100) (by omega), u8_dg (a := n / 10) (b := n / 10) (by omega), u8_dg (a := n) (b := n) (by omega)]
    rw [e]
    refine run_convert_bytes_back (P := Tryd.prog) (w.alloc (.cells #[.int .u8 ((dg (n / 1000)).toNat : Int), .int .u8 ((dg (n / 100)).toNat : Int), .int .u8 ((dg (n / 10)).toNat : Int), .int .u8 ((dg (n)).toNat : Int)] 5)) 22 9 5 ⟨w.heap.size, 0, none⟩ 4 (p4 n) Tryd.underlying22 Tryd.underlying5 Tryd.underlying9 fun j hj => ?_
    have hb := Blk.new w 5 #[.int .u8 ((dg (n / 1000)).toNat : Int), .int .u8 ((dg (n / 100)).toNat : Int), .int .u8 ((dg (n / 10)).toNat : Int), .int .u8 ((dg (n)).toNat : Int)]
    have hj' : j < 4 := hj
    rcases (show j = 0 ∨ j = 1 ∨ j = 2 ∨ j = 3 by omega) with rfl | rfl | rfl | rfl <;> first | exact hb.cell 0 | exact hb.cell 1 | exact hb.cell 2 | exact hb.cell 3
  go_enter Tryd.func52, Tryd.ntmps52
  go_wp2_with fail
  refine wp_loop_rounds 5 ?_
  rw [rounds_succ]
  go_wp2_with fail
  rw [rounds_succ]
  go_wp2_with fail
  rw [rounds_succ]
  go_wp2_with fail
  rw [rounds_succ]
  go_wp2_with fail
  rw [rounds_succ]
  go_wp2_with fail
  go_ret
  exact ⟨rfl, bal (Below.refl _ _) _⟩
end Go.Proofs.YtinemkjoohgmjaaDoor
