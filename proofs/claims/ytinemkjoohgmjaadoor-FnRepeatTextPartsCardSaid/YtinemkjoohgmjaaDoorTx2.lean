/- Contracts: a number's digits (the reference's). -/
import Derived.Test.YtinemkjoohgmjaaDoorTx1
namespace Go.Proofs.YtinemkjoohgmjaaDoor
open Go.RowKit
attribute [local go_sem] S_mk S_size S_app p1_len p2_len p3_len p4_len

theorem conv1 (n : Int) (w w0 : World) (hw : w0 = w.alloc (.cells #[.int .u8 (48 + n)] 5)) (h0 : 0 ≤ n) (h1 : n ≤ 9) :
    (convert 22 9 (.slice (some ⟨w.heap.size, 0, none⟩) 1 1)).run Tryd.prog w0 = .ok (.string (S (p1 n))) w0 := by
  subst hw
  have e : (Value.int .u8 (48 + n)) = .int .u8 ((dg n).toNat : Int) := by rw [dg_val, Int.emod_eq_of_lt h0 (by omega)]
  rw [e]
  refine run_convert_bytes_back (P := Tryd.prog) (w.alloc (.cells #[.int .u8 ((dg n).toNat : Int)] 5)) 22 9 5 ⟨w.heap.size, 0, none⟩ 1 (p1 n) Tryd.underlying22 Tryd.underlying5 Tryd.underlying9 fun j hj => ?_
  have hb := Blk.new w 5 #[.int .u8 ((dg n).toNat : Int)]
  have hj' : j < 1 := hj
  obtain rfl : j = 0 := by omega
  exact hb.cell 0
set_option maxRecDepth 100000 in
theorem dec1 (n : Int) (w : World) (h0 : 0 ≤ n) (h1 : n ≤ 9) :
    Calls Tryd.prog 27 #[.int .i64 n] w fun e w' => e = .returned (.string (S (p1 n))) ∧ Below w.heap.size w w' := by
  have hcv := conv1 n w _ rfl h0 h1
  have hn : ¬ n < -9223372036854775807 := by omega
  go_enter Tryd.func27, Tryd.ntmps27
  go_wp2_with fail
  go_ret
  exact ⟨rfl, bal (Below.refl _ _) _⟩
set_option maxRecDepth 100000 in
theorem pow0 (w : World) : Calls Tryd.prog 91 #[.int .i64 0] w fun e w' => e = .returned (.int .i64 1) ∧ w = w' := by
  go_enter Tryd.func91, Tryd.ntmps91
  go_wp2_with fail
  refine wp_loop_rounds 1 ?_
  rw [rounds_succ]
  go_wp2_with fail
  go_ret
  exact ⟨rfl, rfl⟩
set_option maxRecDepth 100000 in
theorem pow1 (w : World) : Calls Tryd.prog 91 #[.int .i64 1] w fun e w' => e = .returned (.int .i64 10) ∧ w = w' := by
  go_enter Tryd.func91, Tryd.ntmps91
  go_wp2_with fail
  refine wp_loop_rounds 2 ?_
  rw [rounds_succ]
  go_wp2_with fail
  rw [rounds_succ]
  go_wp2_with fail
  go_ret
  exact ⟨rfl, rfl⟩
set_option maxRecDepth 100000 in
theorem pow2 (w : World) : Calls Tryd.prog 91 #[.int .i64 2] w fun e w' => e = .returned (.int .i64 100) ∧ w = w' := by
  go_enter Tryd.func91, Tryd.ntmps91
  go_wp2_with fail
  refine wp_loop_rounds 3 ?_
  rw [rounds_succ]
  go_wp2_with fail
  rw [rounds_succ]
  go_wp2_with fail
  rw [rounds_succ]
  go_wp2_with fail
  go_ret
  exact ⟨rfl, rfl⟩
set_option maxRecDepth 100000 in
theorem pow3 (w : World) : Calls Tryd.prog 91 #[.int .i64 3] w fun e w' => e = .returned (.int .i64 1000) ∧ w = w' := by
  go_enter Tryd.func91, Tryd.ntmps91
  go_wp2_with fail
  refine wp_loop_rounds 4 ?_
  rw [rounds_succ]
  go_wp2_with fail
  rw [rounds_succ]
  go_wp2_with fail
  rw [rounds_succ]
  go_wp2_with fail
  rw [rounds_succ]
  go_wp2_with fail
  go_ret
  exact ⟨rfl, rfl⟩
theorem dg_mod (n : Int) : dg (n % 10) = dg n := by
  unfold dg
  rw [Int.emod_emod_of_dvd n (by decide)]
theorem p1_mod (n : Int) : p1 (n % 10) = [dg n] := by unfold p1; rw [dg_mod]
set_option maxRecDepth 100000 in
set_option maxHeartbeats 2000000 in
theorem put1 (n : Int) (w : World) (h0 : 0 ≤ n) (h1 : n ≤ 9999) :
    Calls Tryd.prog 75 #[.int .i64 n, .int .i64 1] w fun e w' => e = .returned (.string (S (p1 n))) ∧ Below w.heap.size w w' := by
  have hd1 : n / 1 = n := Int.ediv_one n
  go_enter Tryd.func75, Tryd.ntmps75
  go_wp2_with fail
  refine wp_loop_rounds 2 ?_
  rw [rounds_succ]
  go_wp2_with (first | (go_at_call 91; first | ((with_reducible refine (pow0 _).mono ?_); rintro e w' ⟨rfl, rfl⟩) | ((with_reducible refine (pow1 _).mono ?_); rintro e w' ⟨rfl, rfl⟩) | ((with_reducible refine (pow2 _).mono ?_); rintro e w' ⟨rfl, rfl⟩) | ((with_reducible refine (pow3 _).mono ?_); rintro e w' ⟨rfl, rfl⟩)))
  refine (dec1 (n % 10) _ (by omega) (by omega)).mono ?_
  rintro e w1 ⟨rfl, hb1⟩
  have H1 := hide (hb1)
  clear hb1
  go_wp2_with fail
  rw [rounds_succ]
  go_wp2_with fail
  go_ret
  exact ⟨by simp [p1, dg_mod], H1.out⟩
set_option maxRecDepth 100000 in
set_option maxHeartbeats 2000000 in
theorem put2 (n : Int) (w : World) (h0 : 0 ≤ n) (h1 : n ≤ 9999) :
    Calls Tryd.prog 75 #[.int .i64 n, .int .i64 2] w fun e w' => e = .returned (.string (S (p2 n))) ∧ Below w.heap.size w w' := by
  have hd1 : n / 1 = n := Int.ediv_one n
  go_enter Tryd.func75, Tryd.ntmps75
  go_wp2_with fail
  refine wp_loop_rounds 3 ?_
  rw [rounds_succ]
  go_wp2_with (first | (go_at_call 91; first | ((with_reducible refine (pow0 _).mono ?_); rintro e w' ⟨rfl, rfl⟩) | ((with_reducible refine (pow1 _).mono ?_); rintro e w' ⟨rfl, rfl⟩) | ((with_reducible refine (pow2 _).mono ?_); rintro e w' ⟨rfl, rfl⟩) | ((with_reducible refine (pow3 _).mono ?_); rintro e w' ⟨rfl, rfl⟩)))
  refine (dec1 (n / 10 % 10) _ (by omega) (by omega)).mono ?_
  rintro e w1 ⟨rfl, hb1⟩
  have H1 := hide (hb1)
  clear hb1
  go_wp2_with fail
  rw [rounds_succ]
  go_wp2_with (first | (go_at_call 91; first | ((with_reducible refine (pow0 _).mono ?_); rintro e w' ⟨rfl, rfl⟩) | ((with_reducible refine (pow1 _).mono ?_); rintro e w' ⟨rfl, rfl⟩) | ((with_reducible refine (pow2 _).mono ?_); rintro e w' ⟨rfl, rfl⟩) | ((with_reducible refine (pow3 _).mono ?_); rintro e w' ⟨rfl, rfl⟩)))
  refine (dec1 (n % 10) _ (by omega) (by omega)).mono ?_
  rintro e w2 ⟨rfl, hb2⟩
  have H2 := hide (bto H1.out hb2)
  clear hb2
  go_wp2_with fail
  rw [rounds_succ]
  go_wp2_with fail
  go_ret
  exact ⟨by simp [p1_mod, p2], H2.out⟩
set_option maxRecDepth 100000 in
set_option maxHeartbeats 2000000 in
theorem put3 (n : Int) (w : World) (h0 : 0 ≤ n) (h1 : n ≤ 9999) :
    Calls Tryd.prog 75 #[.int .i64 n, .int .i64 3] w fun e w' => e = .returned (.string (S (p3 n))) ∧ Below w.heap.size w w' := by
  have hd1 : n / 1 = n := Int.ediv_one n
  go_enter Tryd.func75, Tryd.ntmps75
  go_wp2_with fail
  refine wp_loop_rounds 4 ?_
  rw [rounds_succ]
  go_wp2_with (first | (go_at_call 91; first | ((with_reducible refine (pow0 _).mono ?_); rintro e w' ⟨rfl, rfl⟩) | ((with_reducible refine (pow1 _).mono ?_); rintro e w' ⟨rfl, rfl⟩) | ((with_reducible refine (pow2 _).mono ?_); rintro e w' ⟨rfl, rfl⟩) | ((with_reducible refine (pow3 _).mono ?_); rintro e w' ⟨rfl, rfl⟩)))
  refine (dec1 (n / 100 % 10) _ (by omega) (by omega)).mono ?_
  rintro e w1 ⟨rfl, hb1⟩
  have H1 := hide (hb1)
  clear hb1
  go_wp2_with fail
  rw [rounds_succ]
  go_wp2_with (first | (go_at_call 91; first | ((with_reducible refine (pow0 _).mono ?_); rintro e w' ⟨rfl, rfl⟩) | ((with_reducible refine (pow1 _).mono ?_); rintro e w' ⟨rfl, rfl⟩) | ((with_reducible refine (pow2 _).mono ?_); rintro e w' ⟨rfl, rfl⟩) | ((with_reducible refine (pow3 _).mono ?_); rintro e w' ⟨rfl, rfl⟩)))
  refine (dec1 (n / 10 % 10) _ (by omega) (by omega)).mono ?_
  rintro e w2 ⟨rfl, hb2⟩
  have H2 := hide (bto H1.out hb2)
  clear hb2
  go_wp2_with fail
  rw [rounds_succ]
  go_wp2_with (first | (go_at_call 91; first | ((with_reducible refine (pow0 _).mono ?_); rintro e w' ⟨rfl, rfl⟩) | ((with_reducible refine (pow1 _).mono ?_); rintro e w' ⟨rfl, rfl⟩) | ((with_reducible refine (pow2 _).mono ?_); rintro e w' ⟨rfl, rfl⟩) | ((with_reducible refine (pow3 _).mono ?_); rintro e w' ⟨rfl, rfl⟩)))
  refine (dec1 (n % 10) _ (by omega) (by omega)).mono ?_
  rintro e w3 ⟨rfl, hb3⟩
  have H3 := hide (bto H2.out hb3)
  clear hb3
  go_wp2_with fail
  rw [rounds_succ]
  go_wp2_with fail
  go_ret
  exact ⟨by simp [p1_mod, p3], H3.out⟩
set_option maxRecDepth 100000 in
set_option maxHeartbeats 2000000 in
theorem put4 (n : Int) (w : World) (h0 : 0 ≤ n) (h1 : n ≤ 9999) :
    Calls Tryd.prog 75 #[.int .i64 n, .int .i64 4] w fun e w' => e = .returned (.string (S (p4 n))) ∧ Below w.heap.size w w' := by
  have hd1 : n / 1 = n := Int.ediv_one n
  go_enter Tryd.func75, Tryd.ntmps75
  go_wp2_with fail
  refine wp_loop_rounds 5 ?_
  rw [rounds_succ]
  go_wp2_with (first | (go_at_call 91; first | ((with_reducible refine (pow0 _).mono ?_); rintro e w' ⟨rfl, rfl⟩) | ((with_reducible refine (pow1 _).mono ?_); rintro e w' ⟨rfl, rfl⟩) | ((with_reducible refine (pow2 _).mono ?_); rintro e w' ⟨rfl, rfl⟩) | ((with_reducible refine (pow3 _).mono ?_); rintro e w' ⟨rfl, rfl⟩)))
  refine (dec1 (n / 1000 % 10) _ (by omega) (by omega)).mono ?_
  rintro e w1 ⟨rfl, hb1⟩
  have H1 := hide (hb1)
  clear hb1
  go_wp2_with fail
  rw [rounds_succ]
  go_wp2_with (first | (go_at_call 91; first | ((with_reducible refine (pow0 _).mono ?_); rintro e w' ⟨rfl, rfl⟩) | ((with_reducible refine (pow1 _).mono ?_); rintro e w' ⟨rfl, rfl⟩) | ((with_reducible refine (pow2 _).mono ?_); rintro e w' ⟨rfl, rfl⟩) | ((with_reducible refine (pow3 _).mono ?_); rintro e w' ⟨rfl, rfl⟩)))
  refine (dec1 (n / 100 % 10) _ (by omega) (by omega)).mono ?_
  rintro e w2 ⟨rfl, hb2⟩
  have H2 := hide (bto H1.out hb2)
  clear hb2
  go_wp2_with fail
  rw [rounds_succ]
  go_wp2_with (first | (go_at_call 91; first | ((with_reducible refine (pow0 _).mono ?_); rintro e w' ⟨rfl, rfl⟩) | ((with_reducible refine (pow1 _).mono ?_); rintro e w' ⟨rfl, rfl⟩) | ((with_reducible refine (pow2 _).mono ?_); rintro e w' ⟨rfl, rfl⟩) | ((with_reducible refine (pow3 _).mono ?_); rintro e w' ⟨rfl, rfl⟩)))
  refine (dec1 (n / 10 % 10) _ (by omega) (by omega)).mono ?_
  rintro e w3 ⟨rfl, hb3⟩
  have H3 := hide (bto H2.out hb3)
  clear hb3
  go_wp2_with fail
  rw [rounds_succ]
  go_wp2_with (first | (go_at_call 91; first | ((with_reducible refine (pow0 _).mono ?_); rintro e w' ⟨rfl, rfl⟩) | ((with_reducible refine (pow1 _).mono ?_); rintro e w' ⟨rfl, rfl⟩) | ((with_reducible refine (pow2 _).mono ?_); rintro e w' ⟨rfl, rfl⟩) | ((with_reducible refine (pow3 _).mono ?_); rintro e w' ⟨rfl, rfl⟩)))
  refine (dec1 (n % 10) _ (by omega) (by omega)).mono ?_
  rintro e w4 ⟨rfl, hb4⟩
  have H4 := hide (bto H3.out hb4)
  clear hb4
  go_wp2_with fail
  rw [rounds_succ]
  go_wp2_with fail
  go_ret
  exact ⟨by simp [p1_mod, p4], H4.out⟩
end Go.Proofs.YtinemkjoohgmjaaDoor
