/- Contracts: the parts of a period; valid periods. -/
import Derived.Test.YtinemkjoohgmjaaDoorSt4
namespace Go.Proofs.YtinemkjoohgmjaaDoor
open Go.RowKit

set_option maxHeartbeats 2000000 in
theorem parts_any (g : Nat) (w : World) :
    Calls Tryd.prog 34 #[.pointer (some ⟨g, 0, none⟩)] w fun e w' => e = .returned (.slice (some ⟨w.heap.size, 0, none⟩) 6 6) ∧
      Blk w' w.heap.size 75 #[.int .u8 89, .bool false, .pointer (some ⟨g, 0, none⟩), .int .u8 77, .bool false, .pointer (some ⟨g, 1, none⟩), .int .u8 68, .bool false, .pointer (some ⟨g, 2, none⟩), .int .u8 72, .bool true, .pointer (some ⟨g, 3, none⟩), .int .u8 77, .bool true, .pointer (some ⟨g, 4, none⟩), .int .u8 83, .bool true, .pointer (some ⟨g, 5, none⟩)] ∧ Below w.heap.size w w' := by
  go_enter Tryd.func34, Tryd.ntmps34
  go_wp2_with fail
  first | go_region | fail
  all_goals
    go_wp2_with fail
    go_ret
    exact ⟨rfl, Blk.new _ _ _, bal (bdrew (Below.refl _ _)) _⟩
def mx (a b : Int) : Int := if b > a then b else a
theorem mx_law (a b : Int) : a ≤ mx a b ∧ b ≤ mx a b ∧ (mx a b = a ∨ mx a b = b) := by unfold mx; split <;> omega
theorem run_max6 {P : Program} (p1 p2 p3 p4 p5 p6 : Int) (ts : Array TypeId) (t : TypeId) (w : World) :
    Sem.run P (Builtin.max_ ts t #[.int .i64 p1, .int .i64 p2, .int .i64 p3, .int .i64 p4, .int .i64 p5, .int .i64 p6]) w = .ok (.int .i64 (mx (mx (mx (mx (mx p1 p2) p3) p4) p5) p6)) w := by
  simp [Builtin.max_, Builtin.max2, mx]
theorem mx6 (p1 p2 p3 p4 p5 p6 : Int) : ∃ M, M = mx (mx (mx (mx (mx p1 p2) p3) p4) p5) p6 ∧ p1 ≤ M ∧ p2 ≤ M ∧ p3 ≤ M ∧ p4 ≤ M ∧ p5 ≤ M ∧ p6 ≤ M ∧ (M = p1 ∨ M = p2 ∨ M = p3 ∨ M = p4 ∨ M = p5 ∨ M = p6) := by
  refine ⟨_, rfl, ?_⟩
  have h1 := mx_law p1 p2
  have h2 := mx_law (mx p1 p2) p3
  have h3 := mx_law (mx (mx p1 p2) p3) p4
  have h4 := mx_law (mx (mx (mx p1 p2) p3) p4) p5
  have h5 := mx_law (mx (mx (mx (mx p1 p2) p3) p4) p5) p6
  omega
/-- The greatest part. -/
def IsMax (p1 p2 p3 p4 p5 p6 M : Int) : Prop := p1 ≤ M ∧ p2 ≤ M ∧ p3 ≤ M ∧ p4 ≤ M ∧ p5 ≤ M ∧ p6 ≤ M ∧ (M = p1 ∨ M = p2 ∨ M = p3 ∨ M = p4 ∨ M = p5 ∨ M = p6)
theorem most_any (p1 p2 p3 p4 p5 p6 : Int) (w : World) :
    Calls Tryd.prog 59 #[.agg #[.int .i64 p1, .int .i64 p2, .int .i64 p3, .int .i64 p4, .int .i64 p5, .int .i64 p6]] w fun e w' => (∃ M : Int, e = .returned (.int .i64 M) ∧ Hid (IsMax p1 p2 p3 p4 p5 p6 M)) ∧ Below w.heap.size w w' := by
  obtain ⟨M, eM, hM⟩ := mx6 p1 p2 p3 p4 p5 p6
  have hmax : ∀ (ts : Array TypeId) (t : TypeId) (W : World), Sem.run Tryd.prog (Builtin.max_ ts t #[.int .i64 p1, .int .i64 p2, .int .i64 p3, .int .i64 p4, .int .i64 p5, .int .i64 p6]) W = .ok (.int .i64 M) W := fun ts t W => by rw [run_max6, ← eM]
  have HM := hide (show IsMax p1 p2 p3 p4 p5 p6 M from hM)
  clear eM hM
  go_enter Tryd.func59, Tryd.ntmps59
  go_wp2_with fail
  go_ret
  exact ⟨⟨M, rfl, HM⟩, (by repeat' (first | (with_reducible exact Below.refl _ _) | (with_reducible assumption) | (with_reducible refine bal ?_ _) | (with_reducible refine bdrewN ?_ _) | (with_reducible refine bdrew ?_) | (with_reducible refine bset ?_ ?_ _) | (with_reducible refine brow ?_ ?_ _) | omega | (simp; done) | (simp; omega)))⟩
/-- All parts are in range. -/
def pvB (p1 p2 p3 p4 p5 p6 : Int) : Bool := inB p1 0 9999 && (inB p2 0 9999 && (inB p3 0 9999 && (inB p4 0 9999 && (inB p5 0 9999 && inB p6 0 9999))))
set_option maxRecDepth 100000 in
set_option maxHeartbeats 4000000 in
theorem impl_pv (p1 p2 p3 p4 p5 p6 : Int) (w : World) :
    Calls Tryd.prog 33 #[.agg #[.int .i64 p1, .int .i64 p2, .int .i64 p3, .int .i64 p4, .int .i64 p5, .int .i64 p6]] w (RetB (pvB p1 p2 p3 p4 p5 p6) w) := by
  have X0 := Blk.new w 44 #[.int .i64 p1, .int .i64 p2, .int .i64 p3, .int .i64 p4, .int .i64 p5, .int .i64 p6]
  have B0 := bal (Below.refl w.heap.size w) (.cells #[.int .i64 p1, .int .i64 p2, .int .i64 p3, .int .i64 p4, .int .i64 p5, .int .i64 p6] 44)
  go_enter Tryd.func33, Tryd.ntmps33
  go_wp2_with fail
  refine (parts_any w.heap.size _).mono ?_
  rintro e w1 ⟨rfl, hp1, hb1⟩
  have X1 := X0.below hb1 X0.lt
  have B1 := bto B0 hb1
  have hq := hide hp1
  have hx := hide X1
  simp only [World.size_alloc] at hq
  have hl := hq.out.lt
  have hl0 : w.heap.size < w1.heap.size := by omega
  have hl1 : w.heap.size < w1.heap.size + 1 := by omega
  have hl2 : w.heap.size < w1.heap.size + 1 + 1 := by omega
  have hl3 : w.heap.size < w1.heap.size + 1 + 1 + 1 := by omega
  have hl4 : w.heap.size < w1.heap.size + 1 + 1 + 1 + 1 := by omega
  have hl5 : w.heap.size < w1.heap.size + 1 + 1 + 1 + 1 + 1 := by omega
  have hl6 : w.heap.size < w1.heap.size + 1 + 1 + 1 + 1 + 1 + 1 := by omega
  clear X0 B0 hb1 hp1 X1
  go_wp2_with fail
  refine wp_loop_rounds 7 ?_
  rw [rounds_succ]
  have a0_0 := hq.out.cell 0
  have a0_1 := hq.out.cell 1
  have a0_2 := hq.out.cell 2
  have b0 := (hx.out).cell 0
  simp at a0_0 a0_1 a0_2 b0
  cases h1 : inB p1 0 9999 with
  | false =>
    go_wp2_with (go_at_call 58; refine (within_any _ _ _ _).mono ?_; rintro e w' ⟨rfl, rfl⟩)
    go_ret
    exact ⟨ret_bool (by simp [pvB, *]), (by repeat' (first | (with_reducible exact Below.refl _ _) | (with_reducible assumption) | (with_reducible refine bal ?_ _) | (with_reducible refine bdrewN ?_ _) | (with_reducible refine bdrew ?_) | (with_reducible refine bset ?_ ?_ _) | (with_reducible refine brow ?_ ?_ _) | omega | (simp; done) | (simp; omega)))⟩
  | true =>
    go_wp2_with (go_at_call 58; refine (within_any _ _ _ _).mono ?_; rintro e w' ⟨rfl, rfl⟩)
    clear a0_0 a0_1 a0_2 b0
    rw [rounds_succ]
    have a1_0 := ((hq.out).alloc (Obj.cells #[.int .u8 89, .bool false, .pointer (some ⟨w.heap.size, 0, none⟩)] 75)).cell 3
    have a1_1 := ((hq.out).alloc (Obj.cells #[.int .u8 89, .bool false, .pointer (some ⟨w.heap.size, 0, none⟩)] 75)).cell 4
    have a1_2 := ((hq.out).alloc (Obj.cells #[.int .u8 89, .bool false, .pointer (some ⟨w.heap.size, 0, none⟩)] 75)).cell 5
    have b1 := ((hx.out).alloc (Obj.cells #[.int .u8 89, .bool false, .pointer (some ⟨w.heap.size, 0, none⟩)] 75)).cell 1
    simp at a1_0 a1_1 a1_2 b1
    cases h2 : inB p2 0 9999 with
    | false =>
      go_wp2_with (go_at_call 58; refine (within_any _ _ _ _).mono ?_; rintro e w' ⟨rfl, rfl⟩)
      go_ret
      exact ⟨ret_bool (by simp [pvB, *]), (by repeat' (first | (with_reducible exact Below.refl _ _) | (with_reducible assumption) | (with_reducible refine bal ?_ _) | (with_reducible refine bdrewN ?_ _) | (with_reducible refine bdrew ?_) | (with_reducible refine bset ?_ ?_ _) | (with_reducible refine brow ?_ ?_ _) | omega | (simp; done) | (simp; omega)))⟩
    | true =>
      go_wp2_with (go_at_call 58; refine (within_any _ _ _ _).mono ?_; rintro e w' ⟨rfl, rfl⟩)
      clear a1_0 a1_1 a1_2 b1
      rw [rounds_succ]
      have a2_0 := (((hq.out).alloc (Obj.cells #[.int .u8 89, .bool false, .pointer (some ⟨w.heap.size, 0, none⟩)] 75)).alloc (Obj.cells #[.int .u8 77, .bool false, .pointer (some ⟨w.heap.size, 1, none⟩)] 75)).cell 6
      have a2_1 := (((hq.out).alloc (Obj.cells #[.int .u8 89, .bool false, .pointer (some ⟨w.heap.size, 0, none⟩)] 75)).alloc (Obj.cells #[.int .u8 77, .bool false, .pointer (some ⟨w.heap.size, 1, none⟩)] 75)).cell 7
      have a2_2 := (((hq.out).alloc (Obj.cells #[.int .u8 89, .bool false, .pointer (some ⟨w.heap.size, 0, none⟩)] 75)).alloc (Obj.cells #[.int .u8 77, .bool false, .pointer (some ⟨w.heap.size, 1, none⟩)] 75)).cell 8
      have b2 := (((hx.out).alloc (Obj.cells #[.int .u8 89, .bool false, .pointer (some ⟨w.heap.size, 0, none⟩)] 75)).alloc (Obj.cells #[.int .u8 77, .bool false, .pointer (some ⟨w.heap.size, 1, none⟩)] 75)).cell 2
      simp at a2_0 a2_1 a2_2 b2
      cases h3 : inB p3 0 9999 with
      | false =>
        go_wp2_with (go_at_call 58; refine (within_any _ _ _ _).mono ?_; rintro e w' ⟨rfl, rfl⟩)
        go_ret
        exact ⟨ret_bool (by simp [pvB, *]), (by repeat' (first | (with_reducible exact Below.refl _ _) | (with_reducible assumption) | (with_reducible refine bal ?_ _) | (with_reducible refine bdrewN ?_ _) | (with_reducible refine bdrew ?_) | (with_reducible refine bset ?_ ?_ _) | (with_reducible refine brow ?_ ?_ _) | omega | (simp; done) | (simp; omega)))⟩
      | true =>
        go_wp2_with (go_at_call 58; refine (within_any _ _ _ _).mono ?_; rintro e w' ⟨rfl, rfl⟩)
        clear a2_0 a2_1 a2_2 b2
        rw [rounds_succ]
        have a3_0 := ((((hq.out).alloc (Obj.cells #[.int .u8 89, .bool false, .pointer (some ⟨w.heap.size, 0, none⟩)] 75)).alloc (Obj.cells #[.int .u8 77, .bool false, .pointer (some ⟨w.heap.size, 1, none⟩)] 75)).alloc (Obj.cells #[.int .u8 68, .bool false, .pointer (some ⟨w.heap.size, 2, none⟩)] 75)).cell 9
        have a3_1 := ((((hq.out).alloc (Obj.cells #[.int .u8 89, .bool false, .pointer (some ⟨w.heap.size, 0, none⟩)] 75)).alloc (Obj.cells #[.int .u8 77, .bool false, .pointer (some ⟨w.heap.size, 1, none⟩)] 75)).alloc (Obj.cells #[.int .u8 68, .bool false, .pointer (some ⟨w.heap.size, 2, none⟩)] 75)).cell 10
        have a3_2 := ((((hq.out).alloc (Obj.cells #[.int .u8 89, .bool false, .pointer (some ⟨w.heap.size, 0, none⟩)] 75)).alloc (Obj.cells #[.int .u8 77, .bool false, .pointer (some ⟨w.heap.size, 1, none⟩)] 75)).alloc (Obj.cells #[.int .u8 68, .bool false, .pointer (some ⟨w.heap.size, 2, none⟩)] 75)).cell 11
        have b3 := ((((hx.out).alloc (Obj.cells #[.int .u8 89, .bool false, .pointer (some ⟨w.heap.size, 0, none⟩)] 75)).alloc (Obj.cells #[.int .u8 77, .bool false, .pointer (some ⟨w.heap.size, 1, none⟩)] 75)).alloc (Obj.cells #[.int .u8 68, .bool false, .pointer (some ⟨w.heap.size, 2, none⟩)] 75)).cell 3
        simp at a3_0 a3_1 a3_2 b3
        cases h4 : inB p4 0 9999 with
        | false =>
          go_wp2_with (go_at_call 58; refine (within_any _ _ _ _).mono ?_; rintro e w' ⟨rfl, rfl⟩)
          go_ret
          exact ⟨ret_bool (by simp [pvB, *]), (by repeat' (first | (with_reducible exact Below.refl _ _) | (with_reducible assumption) | (with_reducible refine bal ?_ _) | (with_reducible refine bdrewN ?_ _) | (with_reducible refine bdrew ?_) | (with_reducible refine bset ?_ ?_ _) | (with_reducible refine brow ?_ ?_ _) | omega | (simp; done) | (simp; omega)))⟩
        | true =>
          go_wp2_with (go_at_call 58; refine (within_any _ _ _ _).mono ?_; rintro e w' ⟨rfl, rfl⟩)
          clear a3_0 a3_1 a3_2 b3
          rw [rounds_succ]
          have a4_0 := (((((hq.out).alloc (Obj.cells #[.int .u8 89, .bool false, .pointer (some ⟨w.heap.size, 0, none⟩)] 75)).alloc (Obj.cells #[.int .u8 77, .bool false, .pointer (some ⟨w.heap.size, 1, none⟩)] 75)).alloc (Obj.cells #[.int .u8 68, .bool false, .pointer (some ⟨w.heap.size, 2, none⟩)] 75)).alloc (Obj.cells #[.int .u8 72, .bool true, .pointer (some ⟨w.heap.size, 3, none⟩)] 75)).cell 12
          have a4_1 := (((((hq.out).alloc (Obj.cells #[.int .u8 89, .bool false, .pointer (some ⟨w.heap.size, 0, none⟩)] 75)).alloc (Obj.cells #[.int .u8 77, .bool false, .pointer (some ⟨w.heap.size, 1, none⟩)] 75)).alloc (Obj.cells #[.int .u8 68, .bool false, .pointer (some ⟨w.heap.size, 2, none⟩)] 75)).alloc (Obj.cells #[.int .u8 72, .bool true, .pointer (some ⟨w.heap.size, 3, none⟩)] 75)).cell 13
          have a4_2 := (((((hq.out).alloc (Obj.cells #[.int .u8 89, .bool false, .pointer (some ⟨w.heap.size, 0, none⟩)] 75)).alloc (Obj.cells #[.int .u8 77, .bool false, .pointer (some ⟨w.heap.size, 1, none⟩)] 75)).alloc (Obj.cells #[.int .u8 68, .bool false, .pointer (some ⟨w.heap.size, 2, none⟩)] 75)).alloc (Obj.cells #[.int .u8 72, .bool true, .pointer (some ⟨w.heap.size, 3, none⟩)] 75)).cell 14
          have b4 := (((((hx.out).alloc (Obj.cells #[.int .u8 89, .bool false, .pointer (some ⟨w.heap.size, 0, none⟩)] 75)).alloc (Obj.cells #[.int .u8 77, .bool false, .pointer (some ⟨w.heap.size, 1, none⟩)] 75)).alloc (Obj.cells #[.int .u8 68, .bool false, .pointer (some ⟨w.heap.size, 2, none⟩)] 75)).alloc (Obj.cells #[.int .u8 72, .bool true, .pointer (some ⟨w.heap.size, 3, none⟩)] 75)).cell 4
          simp at a4_0 a4_1 a4_2 b4
          cases h5 : inB p5 0 9999 with
          | false =>
            go_wp2_with (go_at_call 58; refine (within_any _ _ _ _).mono ?_; rintro e w' ⟨rfl, rfl⟩)
            go_ret
            exact ⟨ret_bool (by simp [pvB, *]), (by repeat' (first | (with_reducible exact Below.refl _ _) | (with_reducible assumption) | (with_reducible refine bal ?_ _) | (with_reducible refine bdrewN ?_ _) | (with_reducible refine bdrew ?_) | (with_reducible refine bset ?_ ?_ _) | (with_reducible refine brow ?_ ?_ _) | omega | (simp; done) | (simp; omega)))⟩
          | true =>
            go_wp2_with (go_at_call 58; refine (within_any _ _ _ _).mono ?_; rintro e w' ⟨rfl, rfl⟩)
            clear a4_0 a4_1 a4_2 b4
            rw [rounds_succ]
            have a5_0 := ((((((hq.out).alloc (Obj.cells #[.int .u8 89, .bool false, .pointer (some ⟨w.heap.size, 0, none⟩)] 75)).alloc (Obj.cells #[.int .u8 77, .bool false, .pointer (some ⟨w.heap.size, 1, none⟩)] 75)).alloc (Obj.cells #[.int .u8 68, .bool false, .pointer (some ⟨w.heap.size, 2, none⟩)] 75)).alloc (Obj.cells #[.int .u8 72, .bool true, .pointer (some ⟨w.heap.size, 3, none⟩)] 75)).alloc (Obj.cells #[.int .u8 77, .bool true, .pointer (some ⟨w.heap.size, 4, none⟩)] 75)).cell 15
            have a5_1 := ((((((hq.out).alloc (Obj.cells #[.int .u8 89, .bool false, .pointer (some ⟨w.heap.size, 0, none⟩)] 75)).alloc (Obj.cells #[.int .u8 77, .bool false, .pointer (some ⟨w.heap.size, 1, none⟩)] 75)).alloc (Obj.cells #[.int .u8 68, .bool false, .pointer (some ⟨w.heap.size, 2, none⟩)] 75)).alloc (Obj.cells #[.int .u8 72, .bool true, .pointer (some ⟨w.heap.size, 3, none⟩)] 75)).alloc (Obj.cells #[.int .u8 77, .bool true, .pointer (some ⟨w.heap.size, 4, none⟩)] 75)).cell 16
            have a5_2 := ((((((hq.out).alloc (Obj.cells #[.int .u8 89, .bool false, .pointer (some ⟨w.heap.size, 0, none⟩)] 75)).alloc (Obj.cells #[.int .u8 77, .bool false, .pointer (some ⟨w.heap.size, 1, none⟩)] 75)).alloc (Obj.cells #[.int .u8 68, .bool false, .pointer (some ⟨w.heap.size, 2, none⟩)] 75)).alloc (Obj.cells #[.int .u8 72, .bool true, .pointer (some ⟨w.heap.size, 3, none⟩)] 75)).alloc (Obj.cells #[.int .u8 77, .bool true, .pointer (some ⟨w.heap.size, 4, none⟩)] 75)).cell 17
            have b5 := ((((((hx.out).alloc (Obj.cells #[.int .u8 89, .bool false, .pointer (some ⟨w.heap.size, 0, none⟩)] 75)).alloc (Obj.cells #[.int .u8 77, .bool false, .pointer (some ⟨w.heap.size, 1, none⟩)] 75)).alloc (Obj.cells #[.int .u8 68, .bool false, .pointer (some ⟨w.heap.size, 2, none⟩)] 75)).alloc (Obj.cells #[.int .u8 72, .bool true, .pointer (some ⟨w.heap.size, 3, none⟩)] 75)).alloc (Obj.cells #[.int .u8 77, .bool true, .pointer (some ⟨w.heap.size, 4, none⟩)] 75)).cell 5
            simp at a5_0 a5_1 a5_2 b5
            cases h6 : inB p6 0 9999 with
            | false =>
              go_wp2_with (go_at_call 58; refine (within_any _ _ _ _).mono ?_; rintro e w' ⟨rfl, rfl⟩)
              go_ret
              exact ⟨ret_bool (by simp [pvB, *]), (by repeat' (first | (with_reducible exact Below.refl _ _) | (with_reducible assumption) | (with_reducible refine bal ?_ _) | (with_reducible refine bdrewN ?_ _) | (with_reducible refine bdrew ?_) | (with_reducible refine bset ?_ ?_ _) | (with_reducible refine brow ?_ ?_ _) | omega | (simp; done) | (simp; omega)))⟩
            | true =>
              go_wp2_with (go_at_call 58; refine (within_any _ _ _ _).mono ?_; rintro e w' ⟨rfl, rfl⟩)
              clear a5_0 a5_1 a5_2 b5
              rw [rounds_succ]
              go_wp2_with fail
              go_ret
              exact ⟨ret_bool (by simp [pvB, *]), (by repeat' (first | (with_reducible exact Below.refl _ _) | (with_reducible assumption) | (with_reducible refine bal ?_ _) | (with_reducible refine bdrewN ?_ _) | (with_reducible refine bdrew ?_) | (with_reducible refine bset ?_ ?_ _) | (with_reducible refine brow ?_ ?_ _) | omega | (simp; done) | (simp; omega)))⟩
end Go.Proofs.YtinemkjoohgmjaaDoor
