/- Contracts: numbers below 100 in decimals; offsets. -/
import Derived.Test.YtinemkjoohgmjaaDoorTx2
import Derived.Test.YtinemkjoohgmjaaDoorZn1
import Derived.Test.YtinemkjoohgmjaaDoorQt
namespace Go.Proofs.YtinemkjoohgmjaaDoor
open Go.RowKit
attribute [local go_sem] S_mk S_size S_app p1_len p2_len p3_len p4_len

/-- A number below 100 in decimals. -/
def d2 (n : Int) : List UInt8 := if n < 10 then p1 n else p2 n
theorem d2_len (n : Int) : 1 ≤ (d2 n).length ∧ (d2 n).length ≤ 2 := by unfold d2; split <;> simp [p1, p2]
theorem d2_dec (n : Nat) (h : n < 100) : Lib.decDigits n = d2 n := by
  rw [Lib.decDigits]
  unfold d2
  by_cases h1 : n < 10
  · rw [dif_pos h1, if_pos (by omega)]
    unfold p1 dg
    rw [Int.emod_eq_of_lt (by omega) (by omega)]
    rfl
  · rw [dif_neg h1, if_neg (by omega), Lib.decDigits, dif_pos (by omega)]
    unfold p2 dg
    have e1 : (48 + ((n : Int) / 10 % 10).toNat) = 48 + n / 10 := by omega
    have e2 : (48 + ((n : Int) % 10).toNat) = 48 + n % 10 := by omega
    rw [e1, e2]
    rfl
theorem conv1B {n : Int} {g : Nat} {w0 : World} (hb : Blk w0 g 5 #[.int .u8 (48 + n)]) (h0 : 0 ≤ n) (h1 : n ≤ 9) :
    (convert 22 9 (.slice (some ⟨g, 0, none⟩) 1 1)).run Tryd.prog w0 = .ok (.string (S (p1 n))) w0 := by
  have e : (Value.int .u8 (48 + n)) = .int .u8 ((dg n).toNat : Int) := by rw [dg_val, Int.emod_eq_of_lt h0 (by omega)]
  rw [e] at hb
  refine run_convert_bytes_back (P := Tryd.prog) w0 22 9 5 ⟨g, 0, none⟩ 1 (p1 n) Tryd.underlying22 Tryd.underlying5 Tryd.underlying9 fun j hj => ?_
  have hj' : j < 1 := hj
  obtain rfl : j = 0 := by omega
  exact hb.cell 0
theorem itoa_any (n : Int) (w : World) (h0 : 0 ≤ n) (h1 : n ≤ 99) :
    Calls Tryd.prog 31 #[.int .i64 n] w fun e w' => e = .returned (.string (S (d2 n))) ∧ w = w' := by
  obtain ⟨k, rfl⟩ := Int.eq_ofNat_of_zero_le h0
  refine (Tryd.strconv_Itoa_small k (by omega) w).mono ?_
  rintro e w' ⟨rfl, rfl⟩
  rw [d2_dec k (by omega)]
  exact ⟨rfl, rfl⟩
set_option maxRecDepth 100000 in
set_option maxHeartbeats 1000000 in
theorem dec_any (n : Int) (w : World) (h0 : 0 ≤ n) (h1 : n ≤ 99) :
    Calls Tryd.prog 27 #[.int .i64 n] w fun e w' => e = .returned (.string (S (d2 n))) ∧ Below w.heap.size w w' := by
  by_cases h : n < 10
  · unfold d2
    rw [if_pos h]
    exact dec1 n w h0 (by omega)
  · unfold d2
    rw [if_neg h]
    have hn : ¬ n < -9223372036854775807 := by omega
    have hd := fun W => dec1 (n / 10) W (by omega) (by omega)
    have e1 : IntKind.i64.wrap (n.tdiv 10) = n / 10 := by rw [Int.tdiv_eq_ediv_of_nonneg h0]; exact IntWalk.i64_in _ (by omega)
    have e2 : n.tmod 10 = n % 10 := Int.tmod_eq_emod_of_nonneg h0
    have e3 : IntKind.i64.wrap (48 + n % 10) = 48 + n % 10 := IntWalk.i64_in _ (by omega)
    have e4 : IntKind.u8.wrap (48 + n % 10) = 48 + n % 10 := by rw [IntKind.wrap_u8]; omega
    have hc := fun W => conv1 (n % 10) W _ rfl (by omega) (by omega)
    have hB := Blk.new w 5 #[.int .u8 (48 + n % 10)]
    have k0 : 0 ≤ n % 10 := by omega
    have k1 : n % 10 ≤ 9 := by omega
    have key : p1 (n / 10) ++ p1 (n % 10) = p2 n := by simp [p1, p2, dg_mod]
    have hcD := conv1B hB.drew k0 k1
    go_enter Tryd.func27, Tryd.ntmps27
    go_wp2_with fail
    go_region_with ((go_at_call 27; (with_reducible refine (hd _).mono ?_); rintro e w' ⟨rfl, hb⟩; (first | have hq := conv1B ((hB.drew).below hb hB.lt) k0 k1 | skip)))
    all_goals
      go_wp2_with fail
      refine bodyPost_ret (by simp [results, Tryd.results27, go_sem]; try rfl) rfl ?_
      first
      | exact ⟨rfl, bto (bdrew (Below.refl _ _)) hb⟩
      | exact ⟨rfl, bto (bdrew (bal (Below.refl _ _) _)) hb⟩
      | exact ⟨rfl, bal (bto (bdrew (Below.refl _ _)) hb) _⟩
end Go.Proofs.YtinemkjoohgmjaaDoor
