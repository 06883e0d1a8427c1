/- Contracts: is a date among dates; is a day a working day. -/
import Derived.Test.YtdflacnegkgljaaDoorWd1
import Derived.Test.YtdflacnegkgljaaDoorWkPl
namespace Go.Proofs.YtdflacnegkgljaaDoor
open Go.RowKit

def eqD (p : D3) (r : D3) : Bool := (p.1 == r.1) && ((p.2.1 == r.2.1) && (p.2.2 == r.2.2))
set_option maxHeartbeats 1000000 in
theorem idxD_any (l : List D3) (p q s : Int) (len cap B : Nat) (A : Option Addr) (w : World) (hl : l.length = len) (hP : Drs B w A l) (hB : B ≤ w.heap.size) (hm : len ≤ 2305843009213693951) :
    Calls Tryd.prog 69 #[.slice A len cap, .agg #[.int .i64 p, .int .i64 q, .int .i64 s]] w (IdxD (l.any (eqD (p, q, s))) w) := by
  have HL := hide hl
  have X0 := Blk.new w 25 #[.int .i64 p, .int .i64 q, .int .i64 s]
  rcases hP.view with h0 | ⟨b, o, rfl, hbB, hc⟩
  · obtain rfl : len = 0 := by omega
    have HN := hide (any_none (l := l) (p := eqD (p, q, s)) (by omega))
    clear hl h0 hP
    go_enter Tryd.func69, Tryd.ntmps69
    go_wp2
    refine wp_loop_rounds 1 ?_
    rw [rounds_succ]
    go_wp2
    go_ret
    exact ⟨-1, by omega, by omega, by rw [HN.out]; rfl, rfl, bal (Below.refl _ _) _⟩
  have HC := hide hc
  clear hc hP hl
  have B0 := bal (Below.refl w.heap.size w) (.cells #[.int .i64 p, .int .i64 q, .int .i64 s] 25)
  go_enter Tryd.func69, Tryd.ntmps69
  go_wp2
  go_loopw [8] (fun i wr => ∃ k : Nat, k ≤ len ∧ i = .int .i64 k ∧ Hid (∀ j, j < k → eqD (p, q, s) (l.getD j (0, 0, 0)) = false) ∧ Blk wr w.heap.size 25 #[.int .i64 p, .int .i64 q, .int .i64 s] ∧ Below w.heap.size w wr) (fun i _ => len - (intOf i).toNat)
  case atStart => exact ⟨0, by omega, rfl, hide (by omega), X0, B0⟩
  case round =>
    obtain ⟨k, hk, rfl, hno, hX, hb⟩ := hrel
    by_cases hlt : k < len
    · obtain ⟨x, y, z, hxy⟩ := date_ex l k
      have hs := hb.size
      have hxl := hX.lt
      have x0 := hX.cell 0
      have x1 := hX.cell 1
      have x2 := hX.cell 2
      simp at x0 x1 x2
      obtain ⟨c0, c1, c2⟩ := HC.out.at hb (show b < w.heap.size by omega) (by rw [HL.out]; omega) hxy
      have HX := hide hxy
      clear hxy
      cases h1 : p == x with
      | false =>
        have HN := hide (show eqD (p, q, s) (l.getD k (0, 0, 0)) = false by rw [HX.out]; show ((p == x) && ((q == y) && (s == z))) = false; rw [h1]; rfl)
        clear HX
        go_wp2_with fail
        go_quiet (fail)
        go_wp2
        go_roundw
        case rel => exact ⟨k + 1, by omega, by go_num, hide (upto hno.out HN.out), hX.drewN _, bdrewN hb _⟩
        case measure => simp [intOf]; omega
      | true =>
        cases h2 : q == y with
        | false =>
          have HN := hide (show eqD (p, q, s) (l.getD k (0, 0, 0)) = false by rw [HX.out]; show ((p == x) && ((q == y) && (s == z))) = false; rw [h1, h2]; rfl)
          clear HX
          go_wp2_with fail
          go_quiet (fail)
          go_wp2
          go_roundw
          case rel => exact ⟨k + 1, by omega, by go_num, hide (upto hno.out HN.out), hX.drewN _, bdrewN hb _⟩
          case measure => simp [intOf]; omega
        | true =>
          cases h3 : s == z with
          | false =>
            have HN := hide (show eqD (p, q, s) (l.getD k (0, 0, 0)) = false by rw [HX.out]; show ((p == x) && ((q == y) && (s == z))) = false; rw [h1, h2, h3]; rfl)
            clear HX
            go_wp2_with fail
            go_quiet (fail)
            go_wp2
            go_roundw
            case rel => exact ⟨k + 1, by omega, by go_num, hide (upto hno.out HN.out), hX.drewN _, bdrewN hb _⟩
            case measure => simp [intOf]; omega
          | true =>
            have HT := hide (any_at (l := l) (p := eqD (p, q, s)) (k := k) (by rw [HL.out]; exact hlt) (by rw [HX.out]; show ((p == x) && ((q == y) && (s == z))) = true; rw [h1, h2, h3]; rfl))
            clear HX
            go_wp2_with fail
            go_quiet (fail)
            go_wp2
            go_ret
            exact ⟨k, by omega, by omega, by rw [HT.out]; simp, rfl, bdrewN hb _⟩
    · obtain rfl : k = len := by omega
      have HN := hide (any_none (l := l) (p := eqD (p, q, s)) (by rw [HL.out]; exact hno.out))
      go_wp2
      go_ret
      exact ⟨-1, by omega, by omega, by rw [HN.out]; rfl, rfl, hb⟩
theorem contD_any (l : List D3) (p q s : Int) (len cap B : Nat) (A : Option Addr) (w : World) (hl : l.length = len) (hP : Drs B w A l) (hB : B ≤ w.heap.size) (hm : len ≤ 2305843009213693951) :
    Calls Tryd.prog 66 #[.slice A len cap, .agg #[.int .i64 p, .int .i64 q, .int .i64 s]] w (RetB (l.any (eqD (p, q, s))) w) := by
  have hc := idxD_any l p q s len cap B A (w.alloc (.cells #[.int .i64 p, .int .i64 q, .int .i64 s] 25)) hl (hP.alloc hB _) (by simp; omega) hm
  clear hP hl
  go_enter Tryd.func66, Tryd.ntmps66
  go_wp2_with fail
  refine hc.mono ?_
  rintro e w1 ⟨z, h1, h2, hz, rfl, hb1⟩
  have HZ := hide hz
  have B1 := bto (bal (Below.refl w.heap.size w) (.cells #[.int .i64 p, .int .i64 q, .int .i64 s] 25)) hb1
  clear hz hc hb1
  go_wp2_with fail
  go_ret
  exact ⟨ret_bool HZ.out, B1⟩
/-- The numbers of dates. -/
def nums (l : List D3) : List Int := l.map num3
theorem nums_has (l : List D3) (n : Int) : (nums l).contains n = l.any fun r => num3 r == n := by
  induction l with
  | nil => rfl
  | cons r t ih =>
    show ((num3 r :: nums t).contains n) = ((num3 r == n) || t.any fun r => num3 r == n)
    rw [List.contains_cons, ih, Bool.beq_comm]
theorem all_getD {l : List D3} {p : D3 → Bool} (h : l.all p = true) {k : Nat} (hk : k < l.length) {r : D3} (e : l.getD k (0, 0, 0) = r) : p r = true := by
  have h1 := List.all_eq_true.1 h (l[k]) (List.getElem_mem hk)
  rw [← e]
  simpa [List.getD, hk] using h1
theorem works_eq {l : List D3} (h : l.all vld3 = true) {n : Int} (h0 : 0 ≤ n) (h1 : n ≤ 3652058) : wkB (nums l) n = (decide (n % 7 + 1 ≤ 5) && !l.any (eqD (yOf n, mOf n, dOf n))) := by
  unfold wkB
  have e1 : decide (n % 7 < 5) = decide (n % 7 + 1 ≤ 5) := by
    rw [decide_eq_decide]; omega
  have e2 : (nums l).contains n = l.any (eqD (yOf n, mOf n, dOf n)) := by
    obtain ⟨hv, hn⟩ := dateD_in h0 h1
    rw [Bool.eq_iff_iff]
    simp only [List.contains_eq_any_beq, List.any_eq_true, nums, List.mem_map, beq_iff_eq]
    constructor
    · rintro ⟨x, ⟨r, hr, rfl⟩, rfl⟩
      refine ⟨r, hr, ?_⟩
      have hvr := List.all_eq_true.1 h r hr
      obtain ⟨a, b, c⟩ := num_inj hv hvr hn
      unfold eqD
      simp only [Bool.and_eq_true, beq_iff_eq]
      exact ⟨a, b, c⟩
    · rintro ⟨r, hr, he⟩
      unfold eqD at he
      simp only [Bool.and_eq_true, beq_iff_eq] at he
      obtain ⟨a, b, c⟩ := he
      refine ⟨num3 r, ⟨r, hr, rfl⟩, ?_⟩
      unfold num3
      rw [← a, ← b, ← c]
      exact hn.symm
  rw [e1, e2]
set_option maxHeartbeats 1000000 in
/-- spec's test of a working day. -/
theorem spec_works (l : List D3) (n : Int) (len cap B : Nat) (A : Option Addr) (w : World) (h0 : 0 ≤ n) (h1 : n ≤ 4000000) (hv : l.all vld3 = true) (hl : l.length = len) (hP : Drs B w A l) (hB : B ≤ w.heap.size) (hm : len ≤ 2305843009213693951) :
    Calls Tryd.prog 50 #[.int .i64 n, .slice A len cap] w (RetB (wkB (nums l) n) w) := by
  have HL := hide hl
  have hno' : (∀ k : Nat, k < l.length → ((num3 (l.getD k (0, 0, 0))) == n) = false) → wkB (nums l) n = decide (n % 7 < 5) := fun h => by
    have := any_none (l := l) (p := fun r => num3 r == n) h
    unfold wkB
    rw [nums_has, this]
    simp
  have HNO := hide hno'
  have HV := hide hv
  clear hno' hv
  rcases hP.view with hz | ⟨b, o, rfl, hbB, hc⟩
  · obtain rfl : len = 0 := by omega
    have HW := hide (HNO.out (by omega))
    clear hl hz hP HV HNO
    go_enter Tryd.func50, Tryd.ntmps50
    go_wp2
    refine wp_loop_rounds 1 ?_
    rw [rounds_succ]
    go_wp2
    go_ret
    exact ⟨ret_bool HW.out.symm, Below.refl _ _⟩
  have HC := hide hc
  clear hc hP hl
  go_enter Tryd.func50, Tryd.ntmps50
  go_wp2
  go_loopw [5] (fun i wr => ∃ k : Nat, k ≤ len ∧ i = .int .i64 k ∧ Hid (∀ j, j < k → (num3 (l.getD j (0, 0, 0)) == n) = false) ∧ Below w.heap.size w wr) (fun i _ => len - (intOf i).toNat)
  case atStart => exact ⟨0, by omega, rfl, hide (by omega), Below.refl _ _⟩
  case round =>
    obtain ⟨k, hk, rfl, hno, hb⟩ := hrel
    by_cases hlt : k < len
    · obtain ⟨x, y, z, hxy⟩ := date_ex l k
      have hs := hb.size
      obtain ⟨c0, c1, c2⟩ := HC.out.at hb (show b < w.heap.size by omega) (by rw [HL.out]; omega) hxy
      have hvx : vld x y z = true := all_getD HV.out (by rw [HL.out]; exact hlt) hxy
      have HX := hide hxy
      have HD := hide (dnum_yes hvx)
      clear hxy hvx
      go_wp2_with fail
      refine (spec_dayNumber x y z _).mono ?_
      rintro e w1 ⟨rfl, hb1⟩
      rw [HD.out]
      have hb' := bto hb hb1
      cases hp : num x y z == n with
      | true =>
        have HT := hide (show wkB (nums l) n = false by
          have ha := any_at (l := l) (p := fun r => num3 r == n) (k := k) (by rw [HL.out]; exact hlt) (by rw [HX.out]; exact hp)
          unfold wkB
          rw [nums_has, ha]
          simp)
        go_wp2
        go_ret
        exact ⟨by rw [HT.out]; rfl, hb'⟩
      | false =>
        have HN := hide (show (num3 (l.getD k (0, 0, 0)) == n) = false by rw [HX.out]; exact hp)
        go_wp2
        go_roundw
        case rel => exact ⟨k + 1, by omega, by go_num, hide (upto hno.out HN.out), hb'⟩
        case measure => simp [intOf]; omega
    · obtain rfl : k = len := by omega
      have HN := hide (HNO.out (by rw [HL.out]; exact hno.out))
      go_wp2
      go_ret
      exact ⟨ret_bool HN.out.symm, hb⟩
end Go.Proofs.YtdflacnegkgljaaDoor
