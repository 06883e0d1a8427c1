/- Contracts: the statements' own words on slices of dates: made, measured, compared; holidays. -/
import Derived.Test.YtdflacnegkgljaaDoorPd
import Derived.Test.YtdflacnegkgljaaDoorDt5
import Derived.Test.YtdflacnegkgljaaDoorEq
namespace Go.Proofs.YtdflacnegkgljaaDoor
open Go.RowKit
attribute [local go_sem] lt_cell

theorem info_date : (Tryd.prog.info? 25).map (fun i => (i.zero, i.size, i.bytes)) = some (some (.agg #[.int .i64 0, .int .i64 0, .int .i64 0]), 3, 24) := by kernel_rfl
theorem toDate_any (y mo d : Int) (w : World) :
    Calls Tryd.prog 25 #[.agg #[.int .i64 y, .int .i64 mo, .int .i64 d]] w fun e w' => e = .returned (.agg #[.int .i64 y, .int .i64 mo, .int .i64 d]) ∧ Below w.heap.size w w' := by
  go_enter Tryd.func25, Tryd.ntmps25
  go_wp2
  go_returns
  exact ⟨rfl, by go_grown⟩
theorem szD_any (len cap : Nat) (A : Option Addr) (n : Int) (w : World) (h0 : 0 ≤ n) (h1 : n ≤ 1048576) (hm : len ≤ 9223372036854775807) :
    Calls Tryd.prog 23 #[.slice A len cap, .int .i64 n] w fun e w' => e = .returned (.int .i64 (if n < len then -1 else n - len)) ∧ w = w' := by
  by_cases h : n < len
  · rw [if_pos h]
    go_enter Tryd.func23, Tryd.ntmps23
    go_wp2
    go_ret
    exact ⟨rfl, rfl⟩
  · rw [if_neg h]
    go_enter Tryd.func23, Tryd.ntmps23
    go_wp2
    go_ret
    exact ⟨rfl, rfl⟩

set_option maxHeartbeats 1000000 in
theorem toDS_any (l : List D3) (len cap B : Nat) (A : Option Addr) (w : World) (hl : l.length = len) (hP : Drs B w A l) (hB : B ≤ w.heap.size) (hm : len ≤ 1048576) :
    Calls Tryd.prog 26 #[.slice A len cap] w (MadeD 25 l w) := by
  obtain ⟨i0, hi, hz0, hz1, hz2⟩ := info_parts info_date
  have HL := hide hl
  have hz := hP.view
  clear hl hP
  rcases hz with hl0 | ⟨b, o, rfl, hbB, hc⟩
  · obtain rfl : len = 0 := by have := HL.out; omega
    clear hl0
    go_enter Tryd.func26, Tryd.ntmps26
    go_wp2_with (at_make; refine wpList_make_full _ rfl _ _ 41 rfl w.heap.size 25 i0 (.agg #[.int .i64 0, .int .i64 0, .int .i64 0]) 3 Tryd.underlying41 hi hz0 hz1 .i64 .i64 0 0 0 rfl rfl rfl rfl (by rw [hz2]; omega) (by unfold maxLen; omega) (Nat.le_refl _) ?_; intro w1 hown1 hgrow1)
    refine wp_loop_rounds 1 ?_
    rw [rounds_succ]
    go_wp2
    go_ret
    refine ⟨w.heap.size, 0, by rw [HL.out]; rfl, ?_, (Below.refl _ _).grown hgrow1 (Nat.le_refl _) (by intro k hk; cases hk)⟩
    have e : l = [] := by have := HL.out; cases l; rfl; simp at this
    have e2 := made_dates 0
    subst e
    rw [show flatD [] = (madeCells #[Value.int .i64 0, Value.int .i64 0, Value.int .i64 0] (0 * 3)).toList from e2.symm]
    exact hown1
  have HC' := hide hc
  clear hc
  go_enter Tryd.func26, Tryd.ntmps26
  go_wp2_with (at_make; refine wpList_make_full _ rfl _ _ 41 rfl w.heap.size 25 i0 (.agg #[.int .i64 0, .int .i64 0, .int .i64 0]) 3 Tryd.underlying41 hi hz0 hz1 .i64 .i64 len len len rfl rfl rfl rfl (by rw [hz2]; omega) (by unfold maxLen; omega) (Nat.le_refl _) ?_; intro w1 hown1 hgrow1)
  have hown0 : w1.ownsRow w.heap.size 25 3 (.slice (some ⟨w.heap.size, 0, none⟩) len len) len (flatD (l.take 0 ++ List.replicate (len - 0) (0, 0, 0))) := by
    have e := made_dates len
    rw [List.take_zero, List.nil_append, Nat.sub_zero, ← e]
    exact hown1
  have hb0 : Below w.heap.size w w1 := (Below.refl _ _).grown hgrow1 (Nat.le_refl _) (by intro k hk; cases hk)
  have HO := hide hown0
  clear hown1 hgrow1 hown0
  go_loopw [4] (fun i wr => ∃ k : Nat, k ≤ len ∧ i = .int .i64 k ∧ Hid (wr.ownsRow w.heap.size 25 3 (.slice (some ⟨w.heap.size, 0, none⟩) len len) len (flatD (l.take k ++ List.replicate (len - k) (0, 0, 0)))) ∧ Below w.heap.size w wr) (fun i _ => len - (intOf i).toNat)
  case atStart => exact ⟨0, by omega, rfl, HO, hb0⟩
  case round =>
    obtain ⟨k, hk, rfl, hO, hb⟩ := hrel
    by_cases hlt : k < len
    · obtain ⟨x, y, z, hxy⟩ := date_ex l k
      have hbw : b < w.heap.size := by omega
      obtain ⟨c0, c1, c2⟩ := HC'.out.at hb hbw (by rw [HL.out]; omega) hxy
      have HX := hide hxy
      clear hxy
      go_wp2_with fail
      refine (toDate_any _ _ _ _).mono ?_
      rintro e w2 ⟨rfl, hb2⟩
      have hO2 := own_belowD hO.out hb2
      have hH2 := bto hb hb2
      have d0 := hO2.cellAt (k * 3) (by omega)
      have d1 := hO2.cellAt (k * 3 + 1) (by omega)
      have d2 := hO2.cellAt (k * 3 + 2) (by omega)
      have f0 := hO2.frozenAt (k * 3)
      have f1 := hO2.frozenAt (k * 3 + 1)
      have f2 := hO2.frozenAt (k * 3 + 2)
      have hg := flatD_get (l.take k ++ List.replicate (len - k) (0, 0, 0)) k (by simp; rw [HL.out]; omega)
      rw [hg.1] at d0
      rw [hg.2.1] at d1
      rw [hg.2.2] at d2
      have s1 := hO2.stored (k * 3) (.int .i64 x)
      have s2 := s1.1.stored (k * 3 + 1) (.int .i64 y)
      have s3 := s2.1.stored (k * 3 + 2) (.int .i64 z)
      have H2 := hide (⟨hH2, s1, s2, s3⟩ : _ ∧ _ ∧ _ ∧ _)
      clear hO2 hH2 hg s1 s2 s3 hO hb2 c0 c1 c2
      go_wp2
      go_roundw
      case rel =>
        obtain ⟨hH2, s1, s2, s3⟩ := H2.out
        have hset := set_step3 (z := (0, 0, 0)) (show k < l.length by rw [HL.out]; exact hlt) HX.out hlt
        refine ⟨k + 1, by omega, by go_num, ?_, ?_⟩
        · have h3 := s3.1
          rw [flatD_set _ k (x, y, z) (by simp; rw [HL.out]; omega), hset] at h3
          exact hide h3
        · exact ((hH2.setCell (by simp) _).setCell (by simp) _).setCell (by simp) _
      case measure => simp [intOf]; omega
    · obtain rfl : k = len := by omega
      go_wp2
      go_ret
      refine ⟨w.heap.size, k, by rw [HL.out]; rfl, ?_, hb⟩
      have h3 := hO.out
      rw [List.take_of_length_le (by rw [HL.out]; omega), Nat.sub_self, List.replicate_zero, List.append_nil] at h3
      rw [HL.out]
      exact h3

set_option maxHeartbeats 1000000 in
theorem eqDS_same (l : List D3) (len cap cap' B : Nat) (A A' : Option Addr) (w : World) (hl : l.length = len) (hP : Drs B w A l) (hP' : Drs B w A' l) (hB : B ≤ w.heap.size) (hm : len ≤ 1048576) :
    Calls Tryd.prog 28 #[.slice A len cap, .slice A' len cap'] w (RetB true w) := by
  have HL := hide hl
  rcases hP.view with h0 | ⟨b, o, rfl, hbB, hc⟩
  · obtain rfl : len = 0 := by omega
    clear hl h0 hP hP'
    go_enter Tryd.func28, Tryd.ntmps28
    go_wp2
    refine wp_loop_rounds 1 ?_
    rw [rounds_succ]
    go_wp2
    go_ret
    exact ⟨rfl, Below.refl _ _⟩
  rcases hP'.view with h0 | ⟨b', o', rfl, hbB', hc'⟩
  · obtain rfl : len = 0 := by omega
    clear hl h0 hP hP' hc
    go_enter Tryd.func28, Tryd.ntmps28
    go_wp2
    refine wp_loop_rounds 1 ?_
    rw [rounds_succ]
    go_wp2
    go_ret
    exact ⟨rfl, Below.refl _ _⟩
  have HC := hide hc
  have HC' := hide hc'
  have g1 : ((len : Int) != (len : Int)) = false := by simp
  clear hc hc' hP hP' hl
  go_enter Tryd.func28, Tryd.ntmps28
  go_wp2
  go_loopw [5] (fun i wr => ∃ k : Nat, k ≤ len ∧ i = .int .i64 k ∧ Below w.heap.size w wr) (fun i _ => len - (intOf i).toNat)
  case atStart => exact ⟨0, by omega, rfl, Below.refl _ _⟩
  case round =>
    obtain ⟨k, hk, rfl, hb⟩ := hrel
    by_cases hlt : k < len
    · obtain ⟨x, y, z, hxy⟩ := date_ex l k
      have hs := hb.size
      obtain ⟨c0, c1, c2⟩ := HC.out.at hb (show b < w.heap.size by omega) (by rw [HL.out]; omega) hxy
      obtain ⟨c3, c4, c5⟩ := HC'.out.at hb (show b' < w.heap.size by omega) (by rw [HL.out]; omega) hxy
      have hn1 : b < wr.heap.size := by omega
      have hn2 : b' < wr.heap.size := by omega
      clear hxy
      go_wp2_with fail
      refine region_below (by kernel_rfl) (by kernel_rfl) ?_
      repeat (go_big_quiet_step ((go_at_call 20; exact lt_call (eqDate_same _ _ _ _))))
      refine wpQuiet_nil ?_
      rintro wq ⟨⟨_, hq⟩, rfl⟩
      go_wp2
      go_roundw
      case rel => exact ⟨k + 1, by omega, by go_num, bto hb hq⟩
      case measure => simp [intOf]; omega
    · obtain rfl : k = len := by omega
      go_wp2
      go_ret
      exact ⟨rfl, hb⟩

/-! Holidays. -/
def vld3 (r : D3) : Bool := vld r.1 r.2.1 r.2.2
def badD (r : D3) : Bool := !vld3 r
def num3 (r : D3) : Int := num r.1 r.2.1 r.2.2
def hvB (l : List D3) : Bool := decide (l.length ≤ 10) && l.all vld3
theorem badFn_any (x y z : Int) (w : World) (hM : MD w) :
    Calls Tryd.prog 65 #[.agg #[.int .i64 x, .int .i64 y, .int .i64 z]] w (RetB (badD (x, y, z)) w) := by
  go_enter Tryd.func65, Tryd.ntmps65
  go_wp2_with fail
  refine (impl_dateValid x y z _ (hM.alloc _)).mono ?_
  rintro e w1 ⟨rfl, hb1⟩
  have B1 := bto (bal (Below.refl w.heap.size w) (.cells #[.int .i64 x, .int .i64 y, .int .i64 z] 25)) hb1
  go_wp2_with fail
  go_ret
  exact ⟨rfl, B1⟩
/-- An index, or -1. -/
def IdxD (b : Bool) (w : World) (e : Ending) (w' : World) : Prop :=
  ∃ z : Int, -1 ≤ z ∧ z ≤ 2305843009213693951 ∧ decide (0 ≤ z) = b ∧ e = .returned (.int .i64 z) ∧ Below w.heap.size w w'
theorem any_at {l : List D3} {p : D3 → Bool} {k : Nat} (hk : k < l.length) (hr : p (l.getD k (0, 0, 0)) = true) : l.any p = true := List.any_eq_true.2 ⟨l[k], List.getElem_mem hk, by simpa [List.getD, hk] using hr⟩
theorem any_none {l : List D3} {p : D3 → Bool} (h : ∀ k : Nat, k < l.length → p (l.getD k (0, 0, 0)) = false) : l.any p = false := List.any_eq_false.2 fun x hx => by
  obtain ⟨k, hk, rfl⟩ := List.getElem_of_mem hx
  have := h k hk
  simpa [List.getD, hk] using this
set_option maxHeartbeats 1000000 in
theorem idxBad (l : List D3) (len cap B : Nat) (A : Option Addr) (w : World) (hM : MD w) (hl : l.length = len) (hP : Drs B w A l) (hB : B ≤ w.heap.size) (hm : len ≤ 2305843009213693951) :
    Calls Tryd.prog 68 #[.slice A len cap, .func (.func 65) #[] #[]] w (IdxD (l.any badD) w) := by
  have HL := hide hl
  rcases hP.view with h0 | ⟨b, o, rfl, hbB, hc⟩
  · obtain rfl : len = 0 := by omega
    have HN := hide (any_none (l := l) (p := badD) (by omega))
    clear hl h0 hP
    go_enter Tryd.func68, Tryd.ntmps68
    go_wp2
    refine wp_loop_rounds 1 ?_
    rw [rounds_succ]
    go_wp2
    go_ret
    exact ⟨-1, by omega, by omega, by rw [HN.out]; rfl, rfl, Below.refl _ _⟩
  have HC := hide hc
  clear hc hP hl
  go_enter Tryd.func68, Tryd.ntmps68
  go_wp2
  go_loopw [8] (fun i wr => ∃ k : Nat, k ≤ len ∧ i = .int .i64 k ∧ Hid (∀ j, j < k → badD (l.getD j (0, 0, 0)) = false) ∧ Below w.heap.size w wr) (fun i _ => len - (intOf i).toNat)
  case atStart => exact ⟨0, by omega, rfl, hide (by omega), Below.refl _ _⟩
  case round =>
    obtain ⟨k, hk, rfl, hno, hb⟩ := hrel
    by_cases hlt : k < len
    · obtain ⟨x, y, z, hxy⟩ := date_ex l k
      have hs := hb.size
      obtain ⟨c0, c1, c2⟩ := HC.out.at hb (show b < w.heap.size by omega) (by rw [HL.out]; omega) hxy
      have HX := hide hxy
      clear hxy
      go_wp2_with fail
      refine (badFn_any x y z _ (hM.below hb)).mono ?_
      rintro e w1 ⟨rfl, hb1⟩
      have hb' := bto hb hb1
      cases hp : badD (x, y, z) with
      | true =>
        have HT := hide (any_at (l := l) (p := badD) (k := k) (by rw [HL.out]; exact hlt) (by rw [HX.out]; exact hp))
        go_wp2
        go_ret
        exact ⟨k, by omega, by omega, by rw [HT.out]; simp, rfl, hb'⟩
      | false =>
        have HN := hide (show badD (l.getD k (0, 0, 0)) = false by rw [HX.out]; exact hp)
        go_wp2
        go_roundw
        case rel => exact ⟨k + 1, by omega, by go_num, hide (upto hno.out HN.out), hb'⟩
        case measure => simp [intOf]; omega
    · obtain rfl : k = len := by omega
      have HN := hide (any_none (l := l) (p := badD) (by rw [HL.out]; exact hno.out))
      go_wp2
      go_ret
      exact ⟨-1, by omega, by omega, by rw [HN.out]; rfl, rfl, hb⟩
theorem contBad (l : List D3) (len cap B : Nat) (A : Option Addr) (w : World) (hM : MD w) (hl : l.length = len) (hP : Drs B w A l) (hB : B ≤ w.heap.size) (hm : len ≤ 2305843009213693951) :
    Calls Tryd.prog 64 #[.slice A len cap, .func (.func 65) #[] #[]] w (RetB (l.any badD) w) := by
  go_enter Tryd.func64, Tryd.ntmps64
  go_wp2_with fail
  refine (idxBad l len cap B A w hM hl hP hB hm).mono ?_
  rintro e w1 ⟨z, h1, h2, hz, rfl, hb1⟩
  have HZ := hide hz
  clear hz
  go_wp2_with fail
  go_ret
  exact ⟨ret_bool HZ.out, hb1⟩
theorem any_badD (l : List D3) : l.any badD = !l.all vld3 := by
  rw [Bool.eq_iff_iff]
  simp [badD]
theorem impl_hv (l : List D3) (len cap B : Nat) (A : Option Addr) (w : World) (hM : MD w) (hl : l.length = len) (hP : Drs B w A l) (hB : B ≤ w.heap.size) (hm : len ≤ 2305843009213693951) :
    Calls Tryd.prog 51 #[.slice A len cap] w (RetB (hvB l) w) := by
  by_cases h : len ≤ 10
  · have hc := contBad l len cap B A w hM hl hP hB hm
    rw [any_badD] at hc
    have HV := hide (show hvB l = l.all vld3 by unfold hvB; rw [decide_eq_true (by omega)]; rfl)
    clear hl hP
    go_enter Tryd.func51, Tryd.ntmps51
    go_wp2_with fail
    refine hc.mono ?_
    rintro e w1 ⟨rfl, hb1⟩
    cases ha : l.all vld3 with
    | true =>
      go_wp2_with fail
      go_ret
      exact ⟨by rw [HV.out, ha]; rfl, hb1⟩
    | false =>
      go_wp2_with fail
      go_ret
      exact ⟨by rw [HV.out, ha]; rfl, hb1⟩
  · have HV := hide (show hvB l = false by unfold hvB; rw [decide_eq_false (by omega)]; rfl)
    clear hl hP
    go_enter Tryd.func51, Tryd.ntmps51
    go_wp2_with fail
    go_ret
    exact ⟨by rw [HV.out]; rfl, Below.refl _ _⟩
set_option maxHeartbeats 1000000 in
theorem spec_hv (l : List D3) (len cap B : Nat) (A : Option Addr) (w : World) (hl : l.length = len) (hP : Drs B w A l) (hB : B ≤ w.heap.size) (hm : len ≤ 2305843009213693951) :
    Calls Tryd.prog 48 #[.slice A len cap] w (RetB (hvB l) w) := by
  have HL := hide hl
  rcases hP.view with h0 | ⟨b, o, rfl, hbB, hc⟩
  · obtain rfl : len = 0 := by omega
    have HV := hide (show hvB l = true by
      have : l = [] := by cases l; rfl; simp at h0
      subst this; rfl)
    clear hl h0 hP
    go_enter Tryd.func48, Tryd.ntmps48
    go_wp2
    refine wp_loop_rounds 1 ?_
    rw [rounds_succ]
    go_wp2
    go_ret
    exact ⟨by rw [HV.out]; rfl, Below.refl _ _⟩
  have HC := hide hc
  clear hc hP hl
  go_enter Tryd.func48, Tryd.ntmps48
  go_wp2
  go_loopw [3] (fun i wr => ∃ k : Nat, k ≤ len ∧ i = .int .i64 k ∧ Hid (∀ j, j < k → badD (l.getD j (0, 0, 0)) = false) ∧ Below w.heap.size w wr) (fun i _ => len - (intOf i).toNat)
  case atStart => exact ⟨0, by omega, rfl, hide (by omega), Below.refl _ _⟩
  case round =>
    obtain ⟨k, hk, rfl, hno, hb⟩ := hrel
    by_cases hlt : k < len
    · obtain ⟨x, y, z, hxy⟩ := date_ex l k
      have hs := hb.size
      obtain ⟨c0, c1, c2⟩ := HC.out.at hb (show b < w.heap.size by omega) (by rw [HL.out]; omega) hxy
      have HX := hide hxy
      clear hxy
      go_wp2_with fail
      refine (spec_dateValid x y z _).mono ?_
      rintro e w1 ⟨rfl, hb1⟩
      have hb' := bto hb hb1
      cases hp : vld x y z with
      | false =>
        have HT := hide (show hvB l = false by
          have ha := any_at (l := l) (p := badD) (k := k) (by rw [HL.out]; exact hlt) (by rw [HX.out]; show (!vld x y z) = true; rw [hp]; rfl)
          rw [any_badD] at ha
          unfold hvB
          rw [show l.all vld3 = false by simpa using ha]
          simp)
        go_wp2
        go_ret
        exact ⟨by rw [HT.out]; rfl, hb'⟩
      | true =>
        have HN := hide (show badD (l.getD k (0, 0, 0)) = false by rw [HX.out]; show (!vld x y z) = false; rw [hp]; rfl)
        go_wp2
        go_roundw
        case rel => exact ⟨k + 1, by omega, by go_num, hide (upto hno.out HN.out), hb'⟩
        case measure => simp [intOf]; omega
    · obtain rfl : k = len := by omega
      have HN := hide (show hvB l = decide ((k : Int) ≤ 10) by
        have ha := any_none (l := l) (p := badD) (by rw [HL.out]; exact hno.out)
        rw [any_badD] at ha
        unfold hvB
        rw [show l.all vld3 = true by simpa using ha, HL.out]
        simp
        omega)
      go_wp2
      go_ret
      exact ⟨ret_bool HN.out.symm, hb⟩
end Go.Proofs.YtdflacnegkgljaaDoor
