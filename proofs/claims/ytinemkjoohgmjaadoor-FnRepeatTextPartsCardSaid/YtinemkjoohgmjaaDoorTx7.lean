/- Contracts: a date's text. -/
import Derived.Test.YtinemkjoohgmjaaDoorTx6
namespace Go.Proofs.YtinemkjoohgmjaaDoor
open Go.RowKit
attribute [local go_sem] S_mk S_size S_app p1_len p2_len p3_len p4_len lt_cell

/-- A date's text. -/
def datT (y mo d : Int) : List UInt8 := p4 y ++ [45] ++ p2 mo ++ [45] ++ p2 d
theorem datT_len (y mo d : Int) : (datT y mo d).length = 10 := by simp [datT, p4_len, p2_len]
set_option maxRecDepth 100000 in
set_option maxHeartbeats 1000000 in
theorem parts3 (y mo d : Int) (w : World) (a0 : 0 ≤ y) (a1 : y ≤ 9999) (b0 : 0 ≤ mo) (b1 : mo ≤ 99) (c0 : 0 ≤ d) (c1 : d ≤ 99) :
    Calls Tryd.prog 140 #[.agg #[], .agg #[.int .i64 y, .int .i64 mo, .int .i64 d]] w fun e w' =>
      ∃ g : Nat, e = .returned (.slice (some ⟨g, 0, none⟩) 3 3) ∧ w.heap.size ≤ g ∧ Blk w' g 9 #[.string (S (p4 y)), .string (S (p2 mo)), .string (S (p2 d))] ∧ Below w.heap.size w w' := by
  have hd1 := fun W => digits4 y W a0 a1
  have hd2 := fun W => digits2 mo W b0 (by omega)
  have hd3 := fun W => digits2 d W c0 (by omega)
  have X0 := Blk.newE (W := w.alloc (.cells #[] 64)) (g := w.heap.size + 1) (t := 24) (cs := #[.int .i64 y, .int .i64 mo, .int .i64 d]) (by simp)
  obtain ⟨W, hW⟩ : ∃ W, W = (w.alloc (.cells #[] 64)).alloc (.cells #[.int .i64 y, .int .i64 mo, .int .i64 d] 24) := ⟨_, rfl⟩
  have B0 := hide (show Below w.heap.size w W by rw [hW]; exact bal (bal (Below.refl _ _) _) _)
  rw [← hW] at X0
  have n1 := X0.lt
  have HX := hide X0
  have ww : ∀ w', Blk w' (w.heap.size + 1) 24 #[.int .i64 y, .int .i64 mo, .int .i64 d] → w'.cell? ⟨w.heap.size + 1, 0, none⟩ = some (.int .i64 y) ∧ w'.cell? ⟨w.heap.size + 1, 1, none⟩ = some (.int .i64 mo) ∧ w'.cell? ⟨w.heap.size + 1, 2, none⟩ = some (.int .i64 d) := fun w' k => ⟨k.cell 0, k.cell 1, k.cell 2⟩
  have HW := hide hW
  clear hW X0
  go_enter Tryd.func140, Tryd.ntmps140
  go_wp2_with fail
  rw [← HW.out]
  go_region_held3 (fun w' => w'.cell? ⟨w.heap.size + 1, 0, none⟩ = some (.int .i64 y) ∧ w'.cell? ⟨w.heap.size + 1, 1, none⟩ = some (.int .i64 mo) ∧ w'.cell? ⟨w.heap.size + 1, 2, none⟩ = some (.int .i64 d)) (first | (with_reducible exact ww _ HX.out.drew) | (with_reducible exact ww _ K) | (with_reducible exact ww _ (K.alloc _))) (first | ((go_at_call_of 52 y); (with_reducible refine (hd1 _).mono ?_); rintro e w1 ⟨rfl, hb1⟩; have K := HX.out.drew.below hb1 n1; have Bk := bto (bdrew (Below.refl W.heap.size W)) hb1) | ((go_at_call_of 52 mo); (with_reducible refine (hd2 _).mono ?_); rintro e w2 ⟨rfl, hb2⟩; replace Bk := bto Bk hb2; replace K := K.below hb2 K.lt) | ((go_at_call_of 52 d); (with_reducible refine (hd3 _).mono ?_); rintro e w3 ⟨rfl, hb3⟩; replace Bk := bto Bk hb3; replace K := K.below hb3 K.lt))
  all_goals
    rename_i hS
    clear hS
    go_wp2_with fail
    go_ret
    exact ⟨w3.heap.size, rfl, Nat.le_trans B0.out.size Bk.size, Blk.new w3 _ _, bal (bto B0.out Bk) _⟩
set_option maxRecDepth 100000 in
set_option maxHeartbeats 1000000 in
theorem impl_datT (y mo d : Int) (w : World) (a0 : 0 ≤ y) (a1 : y ≤ 9999) (b0 : 0 ≤ mo) (b1 : mo ≤ 99) (c0 : 0 ≤ d) (c1 : d ≤ 99) :
    Calls Tryd.prog 23 #[.agg #[.int .i64 y, .int .i64 mo, .int .i64 d], .iface 64 (.agg #[]), .bool true] w fun e w' => e = .returned (.string (S (datT y mo d))) ∧ Below w.heap.size w w' := by
  have hp := fun W => parts3 y mo d W a0 a1 b0 b1 c0 c1
  have HF := hide (show datT y mo d = p4 y ++ [45] ++ p2 mo ++ [45] ++ p2 d from rfl)
  have B0 := hide (bal (Below.refl w.heap.size w) (.cells #[.int .i64 y, .int .i64 mo, .int .i64 d] 24))
  go_enter Tryd.func23, Tryd.ntmps23
  go_wp2_with fail
  refine (hp _).mono ?_
  rintro e w1 ⟨g, rfl, hg, X, hb⟩
  have B1 := hide (bto B0.out hb)
  have q0 := X.cell 0
  have q1 := X.cell 1
  have q2 := X.cell 2
  simp at q0 q1 q2
  clear X hb B0 hg
  go_wp2_with fail
  refine wp_loop_rounds 4 ?_
  rw [rounds_succ]
  go_wp2_with fail
  rw [rounds_succ]
  go_wp2_with fail
  rw [rounds_succ]
  go_wp2_with fail
  rw [rounds_succ]
  go_wp2_with fail
  go_ret
  exact ⟨by rw [HF.out]; simp, B1.out⟩
set_option maxRecDepth 100000 in
set_option maxHeartbeats 1000000 in
theorem join3 (y mo d : Int) (g : Nat) (w : World) (X : Blk w g 9 #[.string (S (p4 y)), .string (S (p2 mo)), .string (S (p2 d))]) :
    Calls Tryd.prog 74 #[.slice (some ⟨g, 0, none⟩) 3 3, .bool true] w fun e w' => e = .returned (.string (S (datT y mo d))) ∧ Below w.heap.size w w' := by
  have HF := hide (show datT y mo d = p4 y ++ [45] ++ p2 mo ++ [45] ++ p2 d from rfl)
  have q0 := X.cell 0
  have q1 := X.cell 1
  have q2 := X.cell 2
  simp at q0 q1 q2
  clear X
  go_enter Tryd.func74, Tryd.ntmps74
  go_wp2_with fail
  refine wp_loop_rounds 4 ?_
  rw [rounds_succ]
  go_wp2_with fail
  rw [rounds_succ]
  go_wp2_with fail
  rw [rounds_succ]
  go_wp2_with fail
  rw [rounds_succ]
  go_wp2_with fail
  go_ret
  exact ⟨by rw [HF.out]; simp, Below.refl _ _⟩
set_option maxRecDepth 100000 in
set_option maxHeartbeats 1000000 in
theorem spec_datT (y mo d : Int) (w : World) (hv : vld y mo d = true) (a0 : 0 ≤ y) (a1 : y ≤ 9999) (b0 : 0 ≤ mo) (b1 : mo ≤ 99) (c0 : 0 ≤ d) (c1 : d ≤ 99) :
    Calls Tryd.prog 46 #[.agg #[.int .i64 y, .int .i64 mo, .int .i64 d], .int .i64 0, .bool true] w fun e w' => e = .returned (.tuple #[.string (S (datT y mo d)), .bool true]) ∧ Below w.heap.size w w' := by
  have hd1 := fun W => put4 y W a0 a1
  have hd2 := fun W => put2 mo W b0 (by omega)
  have hd3 := fun W => put2 d W c0 (by omega)
  have B0 := hide (bal (Below.refl w.heap.size w) (.cells #[.int .i64 y, .int .i64 mo, .int .i64 d] 24))
  have X0 := hide (Blk.new w 24 #[.int .i64 y, .int .i64 mo, .int .i64 d])
  have ww : ∀ w', Blk w' w.heap.size 24 #[.int .i64 y, .int .i64 mo, .int .i64 d] → w'.cell? ⟨w.heap.size, 0, none⟩ = some (.int .i64 y) ∧ w'.cell? ⟨w.heap.size, 1, none⟩ = some (.int .i64 mo) ∧ w'.cell? ⟨w.heap.size, 2, none⟩ = some (.int .i64 d) := fun w' k => ⟨k.cell 0, k.cell 1, k.cell 2⟩
  go_enter Tryd.func46, Tryd.ntmps46
  go_wp2_with fail
  refine (spec_dateValid y mo d _).mono ?_
  rintro e wv ⟨rfl, hbv⟩
  rw [hv]
  have HX := hide (X0.out.below hbv X0.out.lt)
  have BV := hide (bto B0.out hbv)
  have n1 := HX.out.lt
  clear X0 B0 hbv
  go_wp2_with fail
  go_region_held3 (fun w' => w'.cell? ⟨w.heap.size, 0, none⟩ = some (.int .i64 y) ∧ w'.cell? ⟨w.heap.size, 1, none⟩ = some (.int .i64 mo) ∧ w'.cell? ⟨w.heap.size, 2, none⟩ = some (.int .i64 d)) (first | (with_reducible exact ww _ HX.out.drew) | (with_reducible exact ww _ K) | (with_reducible exact ww _ (K.alloc _))) (first | ((go_at_call_of 75 y); (with_reducible refine (hd1 _).mono ?_); rintro e w1 ⟨rfl, hb1⟩; have K := HX.out.drew.below hb1 n1; have Bk := bto (bdrew (Below.refl wv.heap.size wv)) hb1) | ((go_at_call_of 75 mo); (with_reducible refine (hd2 _).mono ?_); rintro e w2 ⟨rfl, hb2⟩; replace Bk := bto Bk hb2; replace K := K.below hb2 K.lt) | ((go_at_call_of 75 d); (with_reducible refine (hd3 _).mono ?_); rintro e w3 ⟨rfl, hb3⟩; replace Bk := bto Bk hb3; replace K := K.below hb3 K.lt) | (go_at_call 74; refine (join3 y mo d w3.heap.size _ (Blk.new w3 _ _)).mono ?_; rintro e w4 ⟨rfl, hb4⟩; have B4 := bto (bal Bk (.cells #[.string (S (p4 y)), .string (S (p2 mo)), .string (S (p2 d))] 9)) hb4; replace K := (K.alloc (.cells #[.string (S (p4 y)), .string (S (p2 mo)), .string (S (p2 d))] 9)).below hb4 (K.alloc (.cells #[.string (S (p4 y)), .string (S (p2 mo)), .string (S (p2 d))] 9)).lt))
  all_goals
    rename_i hS
    clear hS
    go_wp2_with fail
    go_returns
    exact ⟨rfl, bto BV.out B4⟩
end Go.Proofs.YtinemkjoohgmjaaDoor
