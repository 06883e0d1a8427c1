/- The program's channel of working days. -/
import Derived.Test.YtdflacnegkgljaaDoorWd2
import Derived.Test.YtdflacnegkgljaaDoorChn
import Derived.Deep.CutRange
namespace Go.Proofs.YtdflacnegkgljaaDoor
open Go.RowKit Go.Conc

theorem info_int : (Tryd.prog.info? 3).map (fun i => (i.zero, i.size, i.bytes)) = some (some (.int .i64 0), 1, 8) := by kernel_rfl
theorem mkChan (n : Nat) (hn : n ≤ 1000) (w : World) : (Instr.makeChan 72 (.int .i64 n)).run Tryd.prog w = .ok (.chan (some w.heap.size)) (w.alloc (.chan n #[] false 0 0 false)) := by
  obtain ⟨i0, hi, hz0, hz1, hz2⟩ := info_parts info_int
  exact run_makeChan Tryd.underlying72 hi .i64 n (by omega) (by rw [hz2]; omega)
/-- The channel's cells. -/
def chB (H : List Int) (a : Int) (k : Nat) : Array Value := ((wkL H a k).map (Value.int .i64)).toArray
set_option maxHeartbeats 1000000 in
theorem workDays_any (a : Int) (K : Nat) (l : List D3) (len cap B : Nat) (A : Option Addr) (w : World) (hM : MD w) (ha : 0 ≤ a) (hb : a + K ≤ 3652059) (hK : K ≤ 1000) (hv : l.all vld3 = true) (hl : l.length = len) (hP : Drs B w A l) (hB : B ≤ w.heap.size) (hm : len ≤ 2305843009213693951) :
    Calls Tryd.prog 52 #[.int .i64 a, .int .i64 (a + K), .slice A len cap] w fun e w' => e = .returned (.chan (some w.heap.size)) ∧ w'.heap[w.heap.size]? = some (.chan K (chB (nums l) a K) true (cnt (nums l) a K) 0 false) ∧ Below w.heap.size w w' := by
  have hmc : (Instr.makeChan 72 (.int .i64 (a + K - a))).run Tryd.prog w = .ok (.chan (some w.heap.size)) (w.alloc (.chan K #[] false 0 0 false)) := by
    rw [show a + (K : Int) - a = K by omega]
    exact mkChan K hK w
  have HL := hide hl
  have HP := hide hP
  have HV := hide hv
  clear hl hP hv
  go_enter Tryd.func52, Tryd.ntmps52
  go_wp2_with fail
  clear hmc
  have C0 := hide (heap_alloc_new w (.chan K #[] false 0 0 false))
  go_loopw [8] (fun d wr => ∃ k : Nat, k ≤ K ∧ d = .int .i64 (a + k) ∧ Hid (wr.heap[w.heap.size]? = some (.chan K (chB (nums l) a k) false (cnt (nums l) a k) 0 false)) ∧ w.heap.size < wr.heap.size ∧ Below w.heap.size w wr) (fun d _ => K - (intOf d - a).toNat)
  case atStart => exact ⟨0, by omega, by simp, C0, by simp, bal (Below.refl _ _) _⟩
  case round =>
    obtain ⟨k, hk, rfl, hC, hlt0, hbw⟩ := hrel
    by_cases hlt : k < K
    · have HW := hide (works_eq HV.out (n := a + k) (by omega) (by omega))
      cases h5 : decide ((a + (k : Int)) % 7 + 1 ≤ 5) with
      | false =>
        have HN := hide (show wkB (nums l) (a + k) = false by rw [HW.out, h5]; rfl)
        clear HW
        go_wp2_with (go_at_call 40; refine (weekdayOf_any _ _ (by omega) (by omega)).mono ?_; rintro e w' ⟨rfl, rfl⟩)
        go_roundw
        case rel => exact ⟨k + 1, by omega, by go_num, hide (by unfold chB; rw [wkL_no HN.out, cnt_no HN.out]; exact hC.out), hlt0, hbw⟩
        case measure => simp [intOf]; omega
      | true =>
        go_wp2_with (go_at_call 40; refine (weekdayOf_any _ _ (by omega) (by omega)).mono ?_; rintro e w' ⟨rfl, rfl⟩)
        refine (impl_dateAt (a + k) _ (hM.below hbw) (by omega) (by omega)).mono ?_
        rintro e w1 ⟨rfl, hb1⟩
        have hbw1 := bto hbw hb1
        have hC1 := hide ((hb1.block _ hlt0).trans hC.out)
        have hlt1 : w.heap.size < w1.heap.size := Nat.lt_of_lt_of_le hlt0 hb1.size
        clear hC hb1
        go_wp2_with fail
        refine (contD_any l _ _ _ _ _ B _ _ HL.out (HP.out.below' hbw1 hB) (by have := hbw1.size; omega) hm).mono ?_
        rintro e w2 ⟨rfl, hb2⟩
        have hbw2 := bto hbw1 hb2
        have hC2 := hide ((hb2.block _ hlt1).trans hC1.out)
        have hlt2 : w.heap.size < w2.heap.size := Nat.lt_of_lt_of_le hlt1 hb2.size
        clear hC1 hb2
        cases ha : l.any (eqD (yOf (a + k), mOf (a + k), dOf (a + k))) with
        | true =>
          have HN := hide (show wkB (nums l) (a + k) = false by rw [HW.out, h5, ha]; rfl)
          clear HW
          go_wp2_with fail
          go_roundw
          case rel => exact ⟨k + 1, by omega, by go_num, hide (by unfold chB; rw [wkL_no HN.out, cnt_no HN.out]; exact hC2.out), hlt2, hbw2⟩
          case measure => simp [intOf]; omega
        | false =>
          have HN := hide (show wkB (nums l) (a + k) = true by rw [HW.out, h5, ha]; rfl)
          clear HW
          have hroom : (chB (nums l) a k).size < K := by
            unfold chB
            have := cnt_le (nums l) a k
            rw [List.size_toArray, List.length_map, wkL_len]
            omega
          have HS := hide (below_setChan hbw2 (Nat.le_refl _) K ((chB (nums l) a k).push (.int .i64 (a + k))) false (cnt (nums l) a k + 1) 0 false)
          have HC3 := hide (heap_setChan w2 w.heap.size K ((chB (nums l) a k).push (.int .i64 (a + k))) false (cnt (nums l) a k + 1) 0 false hlt2)
          have hlt3 := hide (show w.heap.size < (w2.setChan w.heap.size K ((chB (nums l) a k).push (.int .i64 (a + k))) false (cnt (nums l) a k + 1) 0 false).heap.size by rw [size_setChan]; exact hlt2)
          go_upto_region 6 with fail
          refine wp_region_to ?_
          show OpsTo _ _ _ [0, 1, 2] _ _
          refine opsTo_value (v := .chan (some w.heap.size)) (w' := w2) rfl rfl rfl ?_
          refine opsTo_value (v := .int .i64 (a + k)) (w' := w2) rfl rfl rfl ?_
          refine opsTo_send (c := w.heap.size) (cap := K) (buf := chB (nums l) a k) (s := cnt (nums l) a k) (r := 0) (v := .int .i64 (a + k)) (z := .tuple #[]) (tm := false) rfl rfl (by simp [execOp, scase, Act.eval, Act.put]) hC2.out hroom ?_
          refine opsTo_wp ?_
          generalize w2.setChan w.heap.size K ((chB (nums l) a k).push (.int .i64 (a + k))) false (cnt (nums l) a k + 1) 0 false = w3 at HS HC3 hlt3 ⊢
          simp only [wpOps, Act.put]
          go_wp2_with fail
          go_roundw
          case rel => exact ⟨k + 1, by omega, by go_num, hide (by rw [HC3.out]; unfold chB; rw [wkL_yes HN.out, cnt_yes HN.out]; simp), hlt3.out, HS.out⟩
          case measure => simp [intOf]; omega
    · obtain rfl : k = K := by omega
      have hcl := fun ats ty => run_close_open (P := Tryd.prog) (w := wr) ats ty hC.out
      go_wp2_with fail
      go_ret
      refine ⟨rfl, ?_, ?_⟩
      · simp [hlt0]
      · exact below_setChan hbw (Nat.le_refl _) _ _ _ _ _ _
end Go.Proofs.YtdflacnegkgljaaDoor
