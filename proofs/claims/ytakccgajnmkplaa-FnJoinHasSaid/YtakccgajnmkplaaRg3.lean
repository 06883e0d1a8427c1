/- Contracts: valid ranges of the reference, totals. -/
import Derived.Test.YtakccgajnmkplaaRg2
namespace Go.Proofs.Ytakccgajnmkplaa
open Go.RowKit
attribute [local go_sem] lt_cell

theorem rvB_asc {l : List R2} (h : ascB l = false) : rvB l = false := by unfold rvB; rw [h]; simp
theorem rvB_dec {l : List R2} (h : ascB l = true) : rvB l = decide (l.length ≤ 8) := by unfold rvB; rw [h]; simp
theorem rvB_in {l : List R2} (h : rvB l = true) : l.length ≤ 8 ∧ ascB l = true := by
  unfold rvB at h
  simpa using h
theorem rvB_bool (l : List R2) : rvB l = true ∨ rvB l = false := by cases rvB l <;> simp

theorem spec_rv (l : List R2) (len cap B : Nat) (A : Option Addr) (w : World) (hl : l.length = len) (hP : Prs B w A l) (hB : B ≤ w.heap.size) (hm : len ≤ 2305843009213693951) :
    Calls Try.prog 19 #[.slice A len cap] w (RetB (rvB l) w) := by
  cases h : ascB l with
  | false =>
    have HR := hide (rvB_asc h)
    go_enter Try.func19, Try.ntmps19
    go_wp2_with fail
    refine (l32Ascend_any l len cap B A w hl hP hB hm).mono ?_
    rintro e w1 ⟨rfl, hb1⟩
    rw [h]
    go_wp2
    go_ret
    exact ⟨by rw [HR.out]; rfl, hb1⟩
  | true =>
    have HR := hide (rvB_dec h)
    have HL := hide hl
    go_enter Try.func19, Try.ntmps19
    go_wp2_with fail
    refine (l32Ascend_any l len cap B A w hl hP hB hm).mono ?_
    rintro e w1 ⟨rfl, hb1⟩
    rw [h]
    clear hl
    go_wp2
    go_ret
    exact ⟨ret_bool (a := decide ((len : Int) ≤ 8)) (by rw [HR.out, HL.out, decide_eq_decide]; omega), hb1⟩

def rtot (l : List R2) : Int := if rvB l then tot l else -1
theorem rtot_no {l : List R2} (h : rvB l = false) : rtot l = -1 := by unfold rtot; rw [h]; rfl
theorem rtot_yes {l : List R2} (h : rvB l = true) : rtot l = tot l := by unfold rtot; rw [h]; rfl
theorem tot_take {l : List R2} {k : Nat} {x y : Int} (hk : k < l.length) (h : l.getD k (0, 0) = (x, y)) : tot (l.take (k + 1)) = tot (l.take k) + (y - x) := by
  rw [List.take_succ_eq_append_getElem hk, tot_app, tot_cons]
  have e : l[k] = (x, y) := by rw [← h]; simp [List.getD, hk]
  rw [e]
  simp [tot]
theorem asc_bds {l : List R2} (h : ascB l = true) {k : Nat} {x y : Int} (hk : k < l.length) (e : l.getD k (0, 0) = (x, y)) : -86400000 ≤ x ∧ x < y ∧ y ≤ 315537984000000 := by
  have hm : (x, y) ∈ l := by
    rw [← e]
    simp [List.getD, hk]
  exact rB_iff.1 ((asc_of h).1 _ hm)
theorem tot_take_bd {l : List R2} (h : ascB l = true) (k : Nat) (hk : l.length ≤ 8) : 0 ≤ tot (l.take k) ∧ tot (l.take k) ≤ 2524304563200000 := by
  have := tot_bd (l := l.take k) (fun r hr => (asc_of h).1 r (List.mem_of_mem_take hr))
  have h2 : (l.take k).length ≤ l.length := List.length_take_le' _ _
  omega

set_option maxHeartbeats 1000000 in
theorem impl_tot (l : List R2) (len cap B : Nat) (A : Option Addr) (w : World) (hl : l.length = len) (hP : Prs B w A l) (hB : B ≤ w.heap.size) :
    Calls Try.prog 24 #[.slice A len cap] w fun e w' => e = .returned (.int .i64 (rtot l)) ∧ Below w.heap.size w w' := by
  rcases rvB_bool l with hv | hv
  · obtain ⟨h8, ha⟩ := rvB_in hv
    rw [hl] at h8
    have HR := hide (rtot_yes hv)
    have HL := hide hl
    have HV := hide hv
    have HA := hide ha
    have HC := hide hP
    have hz : len = 0 ∨ ∃ b o, A = some ⟨b, o, none⟩ ∧ b < B ∧ ∀ i, i < l.length → w.cell? ⟨b, o + i * 2, none⟩ = some (.int .i64 (l.getD i (0, 0)).1) ∧ w.cell? ⟨b, o + i * 2 + 1, none⟩ = some (.int .i64 (l.getD i (0, 0)).2) := by
      by_cases h0 : len = 0
      · exact .inl h0
      · exact .inr (hP (by omega))
    clear hl hv ha hP
    rcases hz with rfl | ⟨b, o, rfl, hbB, hc⟩
    · have HF := hide (show tot l = 0 by have := HL.out; cases l; rfl; simp at this)
      go_enter Try.func24, Try.ntmps24
      go_wp2_with fail
      refine (impl_rv l 0 cap B A w HL.out HC.out hB).mono ?_
      rintro e w1 ⟨rfl, hb1⟩
      rw [HV.out]
      go_wp2
      refine wp_loop_rounds 1 ?_
      rw [rounds_succ]
      go_wp2
      go_ret
      exact ⟨ret_int (by rw [HR.out, HF.out]), hb1⟩
    · have HC' := hide hc
      clear hc
      go_enter Try.func24, Try.ntmps24
      go_wp2_with fail
      refine (impl_rv l len cap B _ w HL.out HC.out hB).mono ?_
      rintro e w1 ⟨rfl, hb1⟩
      rw [HV.out]
      go_wp2
      go_loopw [3, 11] (fun s i wr => ∃ k : Nat, k ≤ len ∧ i = .int .i64 k ∧ s = .int .i64 (tot (l.take k)) ∧ Below w.heap.size w wr) (fun _ i _ => len - (intOf i).toNat)
      case atStart => exact ⟨0, by omega, rfl, rfl, hb1⟩
      case round =>
        obtain ⟨k, hk, rfl, rfl, hb⟩ := hrel
        have htb := tot_take_bd HA.out k (by rw [HL.out]; exact h8)
        by_cases hlt : k < len
        · obtain ⟨x, y, hxy⟩ := pair_ex l k
          have hbd := asc_bds HA.out (by rw [HL.out]; exact hlt) hxy
          have HT := hide (tot_take (by rw [HL.out]; exact hlt) hxy)
          have c0 := (hb.cell (p := ⟨b, o + k * 2, none⟩) (show b < w.heap.size by omega)).trans (HC'.out k (by rw [HL.out]; omega)).1
          have c1 := (hb.cell (p := ⟨b, o + k * 2 + 1, none⟩) (show b < w.heap.size by omega)).trans (HC'.out k (by rw [HL.out]; omega)).2
          rw [hxy] at c0 c1
          clear hxy
          go_wp2
          go_roundw
          case rel => exact ⟨k + 1, by omega, by go_num, by rw [HT.out], bal hb _⟩
          case measure => simp [intOf]; omega
        · obtain rfl : k = len := by omega
          have HT := hide (show l.take k = l from List.take_of_length_le (by rw [HL.out]; omega))
          go_wp2
          go_ret
          exact ⟨ret_int (by rw [HR.out, HT.out]), hb⟩
  · have HR := hide (rtot_no hv)
    have HV := hide hv
    have HC := hide hP
    have HL := hide hl
    clear hv hP hl
    go_enter Try.func24, Try.ntmps24
    go_wp2_with fail
    refine (impl_rv l len cap B A w HL.out HC.out hB).mono ?_
    rintro e w1 ⟨rfl, hb1⟩
    rw [HV.out]
    go_wp2
    go_ret
    exact ⟨ret_int HR.out.symm, hb1⟩
set_option maxHeartbeats 1000000 in
theorem spec_tot (l : List R2) (len cap B : Nat) (A : Option Addr) (w : World) (hl : l.length = len) (hP : Prs B w A l) (hB : B ≤ w.heap.size) (hm : len ≤ 2305843009213693951) :
    Calls Try.prog 23 #[.slice A len cap] w fun e w' => e = .returned (.int .i64 (rtot l)) ∧ Below w.heap.size w w' := by
  rcases rvB_bool l with hv | hv
  · obtain ⟨h8, ha⟩ := rvB_in hv
    rw [hl] at h8
    have HR := hide (rtot_yes hv)
    have HL := hide hl
    have HV := hide hv
    have HA := hide ha
    have HC := hide hP
    have hz : len = 0 ∨ ∃ b o, A = some ⟨b, o, none⟩ ∧ b < B ∧ ∀ i, i < l.length → w.cell? ⟨b, o + i * 2, none⟩ = some (.int .i64 (l.getD i (0, 0)).1) ∧ w.cell? ⟨b, o + i * 2 + 1, none⟩ = some (.int .i64 (l.getD i (0, 0)).2) := by
      by_cases h0 : len = 0
      · exact .inl h0
      · exact .inr (hP (by omega))
    clear hl hv ha hP
    rcases hz with rfl | ⟨b, o, rfl, hbB, hc⟩
    · have HF := hide (show tot l = 0 by have := HL.out; cases l; rfl; simp at this)
      go_enter Try.func23, Try.ntmps23
      go_wp2_with fail
      refine (spec_rv l 0 cap B A w HL.out HC.out hB (by omega)).mono ?_
      rintro e w1 ⟨rfl, hb1⟩
      rw [HV.out]
      go_wp2
      refine wp_loop_rounds 1 ?_
      rw [rounds_succ]
      go_wp2
      go_ret
      exact ⟨ret_int (by rw [HR.out, HF.out]), hb1⟩
    · have HC' := hide hc
      clear hc
      go_enter Try.func23, Try.ntmps23
      go_wp2_with fail
      refine (spec_rv l len cap B _ w HL.out HC.out hB (by omega)).mono ?_
      rintro e w1 ⟨rfl, hb1⟩
      rw [HV.out]
      go_wp2
      go_loopw [3, 4] (fun s i wr => ∃ k : Nat, k ≤ len ∧ i = .int .i64 k ∧ s = .int .i64 (tot (l.take k)) ∧ Below w.heap.size w wr) (fun _ i _ => len - (intOf i).toNat)
      case atStart => exact ⟨0, by omega, rfl, rfl, hb1⟩
      case round =>
        obtain ⟨k, hk, rfl, rfl, hb⟩ := hrel
        have htb := tot_take_bd HA.out k (by rw [HL.out]; exact h8)
        by_cases hlt : k < len
        · obtain ⟨x, y, hxy⟩ := pair_ex l k
          have hbd := asc_bds HA.out (by rw [HL.out]; exact hlt) hxy
          have HT := hide (tot_take (by rw [HL.out]; exact hlt) hxy)
          have c0 := (hb.cell (p := ⟨b, o + k * 2, none⟩) (show b < w.heap.size by omega)).trans (HC'.out k (by rw [HL.out]; omega)).1
          have c1 := (hb.cell (p := ⟨b, o + k * 2 + 1, none⟩) (show b < w.heap.size by omega)).trans (HC'.out k (by rw [HL.out]; omega)).2
          rw [hxy] at c0 c1
          clear hxy
          have hn1 : b ≤ wr.heap.size := by have := hb.size; omega
          have hn2 : b < wr.heap.size := by have := hb.size; omega
          go_wp2_with fail
          refine region_below (by kernel_rfl) (by kernel_rfl) ?_
          repeat (go_big_quiet_step (fail))
          refine wpQuiet_nil ?_
          rintro wq ⟨⟨_, hq⟩, rfl⟩
          go_wp2
          go_roundw
          case rel => exact ⟨k + 1, by omega, by go_num, by rw [HT.out]; exact congrArg (Value.int .i64) (by omega), bto hb hq⟩
          case measure => simp [intOf]; omega
        · obtain rfl : k = len := by omega
          have HT := hide (show l.take k = l from List.take_of_length_le (by rw [HL.out]; omega))
          go_wp2
          go_ret
          exact ⟨ret_int (by rw [HR.out, HT.out]), hb⟩
  · have HR := hide (rtot_no hv)
    have HV := hide hv
    have HC := hide hP
    have HL := hide hl
    clear hv hP hl
    go_enter Try.func23, Try.ntmps23
    go_wp2_with fail
    refine (spec_rv l len cap B A w HL.out HC.out hB hm).mono ?_
    rintro e w1 ⟨rfl, hb1⟩
    rw [HV.out]
    go_wp2
    go_ret
    exact ⟨ret_int HR.out.symm, hb1⟩
end Go.Proofs.Ytakccgajnmkplaa
