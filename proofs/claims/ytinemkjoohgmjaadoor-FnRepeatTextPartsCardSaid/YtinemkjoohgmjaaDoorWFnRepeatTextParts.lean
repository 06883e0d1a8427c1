/- The law FnRepeatTextParts returns true. -/
import Derived.Test.YtinemkjoohgmjaaDoorRt1
import Derived.Deep.CutRange
import Derived.Laws.DeepStrings4
import Derived.Test.YtinemkjoohgmjaaDoorShellD
namespace Go.Proofs.YtinemkjoohgmjaaDoor
open Go.RowKit
attribute [local go_sem] S_mk S_size S_app p1_len p2_len p3_len p4_len S_toList lt_cell

/-- A drawn repeat. -/
def DrawnRv (w : World) (e : Ending) (w' : World) : Prop :=
  ∃ y mo d h mi s ms o p1 p2 p3 p4 p5 p6 n : Int, e = .returned (.agg #[.int .i64 y, .int .i64 mo, .int .i64 d, .int .i64 h, .int .i64 mi, .int .i64 s, .int .i64 ms, .int .i64 o, .int .i64 p1, .int .i64 p2, .int .i64 p3, .int .i64 p4, .int .i64 p5, .int .i64 p6, .int .i64 n]) ∧ Below w.heap.size w w'
theorem putD_below {w0 w : World} {k : Nat} (p1 p2 p3 p4 p5 p6 : Int) (h : Below w0.heap.size w0 w) (nb : w0.heap.size ≤ k) : Below w0.heap.size w0 (putD w k p1 p2 p3 p4 p5 p6) := by
  unfold putD
  exact bset (bset (bset (bset (bset (bset h (p := ⟨k, 8, none⟩) nb (.int .i64 p1)) (p := ⟨k, 9, none⟩) nb (.int .i64 p2)) (p := ⟨k, 10, none⟩) nb (.int .i64 p3)) (p := ⟨k, 11, none⟩) nb (.int .i64 p4)) (p := ⟨k, 12, none⟩) nb (.int .i64 p5)) (p := ⟨k, 13, none⟩) nb (.int .i64 p6)
theorem putD_size {w : World} {k : Nat} (p1 p2 p3 p4 p5 p6 : Int) : (putD w k p1 p2 p3 p4 p5 p6).heap.size = w.heap.size := by
  have e : ∀ (W : World) (a : Addr) (u : Value), (W.setCell a u).heap.size = W.heap.size := fun W a u => by simp [World.setCell]
  show (((((((w.setCell _ _).setCell _ _).setCell _ _).setCell _ _).setCell _ _).setCell _ _)).heap.size = _
  rw [e, e, e, e, e, e]
theorem rpT_cut {x : S8} {p1 p2 p3 p4 p5 p6 n : Int} : [82] ++ d2 n ++ [47] ++ stT x ++ [47] ++ perT p1 p2 p3 p4 p5 p6 = ([82] ++ d2 n) ++ (47 :: (stT x ++ 47 :: perT p1 p2 p3 p4 p5 p6)) := by simp
section
attribute [local go_sem ↓] storeD_eq storeR_eq loadR_eq
set_option maxRecDepth 100000 in
set_option maxHeartbeats 4000000 in
theorem drawRT {B len cap : Nat} {A : Option Addr} {w : World} (hs : Src B w A len) (hB : B ≤ w.heap.size) (hc : len ≤ cap) (hm : cap ≤ maxLen) :
    Calls Tryd.prog 14 #[.slice A len cap] w (DrawnRv w) := by
  have R0 := Blk.new w 46 #[.int .i64 0, .int .i64 0, .int .i64 0, .int .i64 0, .int .i64 0, .int .i64 0, .int .i64 0, .int .i64 0, .int .i64 0, .int .i64 0, .int .i64 0, .int .i64 0, .int .i64 0, .int .i64 0, .int .i64 0]
  go_enter Tryd.func14, Tryd.ntmps14
  go_wp2_with fail
  refine (l6Open_any (hs.keep fun p hp => World.cell?_alloc_lt w _ p (by omega)) (by simp; omega) hc hm).mono ?_
  rintro e w1 ⟨g, rfl, hg, hr1, hb1⟩
  have hg' : w.heap.size < g := Nat.lt_of_lt_of_le R0.lt hg
  have R1 := hide (R0.below hb1 R0.lt)
  have B1 := hide (bto (bal (Below.refl w.heap.size w) (.cells #[.int .i64 0, .int .i64 0, .int .i64 0, .int .i64 0, .int .i64 0, .int .i64 0, .int .i64 0, .int .i64 0, .int .i64 0, .int .i64 0, .int .i64 0, .int .i64 0, .int .i64 0, .int .i64 0, .int .i64 0] 46)) hb1)
  clear R0 hb1
  go_wp2_with fail
  refine (l92Repeat_any hr1 (by omega)).mono ?_
  rintro e w2 ⟨y, mo, d, h, mi, s, ms, o, p1, p2, p3, p4, p5, p6, n, rfl, _, _, hg2⟩
  have R2 := R1.out.grown' hg2 (by omega)
  have B2 := bonly B1.out hg2 (Nat.le_of_lt hg')
  obtain ⟨We, ste, ke, Be⟩ : ∃ W, (storeR (.pointer (some ⟨w.heap.size, 0, none⟩)) (.agg #[.int .i64 y, .int .i64 mo, .int .i64 d, .int .i64 h, .int .i64 mi, .int .i64 s, .int .i64 ms, .int .i64 o, .int .i64 p1, .int .i64 p2, .int .i64 p3, .int .i64 p4, .int .i64 p5, .int .i64 p6, .int .i64 n])).run Tryd.prog w2 = .ok () W ∧ (∀ j, W.cell? ⟨w.heap.size, j, none⟩ = (#[.int .i64 y, .int .i64 mo, .int .i64 d, .int .i64 h, .int .i64 mi, .int .i64 s, .int .i64 ms, .int .i64 o, .int .i64 p1, .int .i64 p2, .int .i64 p3, .int .i64 p4, .int .i64 p5, .int .i64 p6, .int .i64 n] : Array Value)[j]?) ∧ Hid (Below w.heap.size w W) := ⟨_, storeR_rq ⟨_, rfl, R2⟩ _ _ _ _ _ _ _ _ _ _ _ _ _ _ _, fun j => cell_setRow_same _ _ j _ _ _ (0, 0) R2, hide (brow B2 (Nat.le_refl _) _)⟩
  clear R1 B1 R2 B2 hr1 hg2
  go_wp2_with fail
  refine bodyPost_ret (by simp [results, Tryd.results14, go_sem, ke]; try rfl) rfl ?_
  exact ⟨_, _, _, _, _, _, _, _, _, _, _, _, _, _, _, rfl, Be.out⟩
set_option maxRecDepth 100000 in
set_option maxHeartbeats 4000000 in
theorem w_FnRepeatTextParts (w : World) (hM : MD w) (A : Option Addr) (len cap : Nat) (hs : Src w.heap.size w A len) (hc : len ≤ cap) (hm : cap ≤ maxLen) :
    Calls Tryd.prog 5 #[.slice A len cap] w fun e w' => e = .returned (.bool true) ∧ Below w.heap.size w w' := by
  have hm' := hm
  unfold maxLen at hm'
  by_cases hbig : 1048576 < len
  · go_enter Tryd.func5, Tryd.ntmps5
    go_wp2_with fail
    go_ret
    exact ⟨rfl, Below.refl _ _⟩
  · go_enter Tryd.func5, Tryd.ntmps5
    go_wp2_with fail
    refine (drawRT hs (Nat.le_refl _) hc hm).mono ?_
    rintro e w1 ⟨y, mo, d, h, mi, s, ms, o, p1, p2, p3, p4, p5, p6, n, rfl, hb1⟩
    have hsz1 := hb1.size
    obtain ⟨w2, st2, A2, B2⟩ : ∃ W, (storeR (.pointer (some ⟨w1.heap.size, 0, none⟩)) (.agg #[.int .i64 y, .int .i64 mo, .int .i64 d, .int .i64 h, .int .i64 mi, .int .i64 s, .int .i64 ms, .int .i64 o, .int .i64 p1, .int .i64 p2, .int .i64 p3, .int .i64 p4, .int .i64 p5, .int .i64 p6, .int .i64 n])).run Tryd.prog (w1.alloc (.cells #[.int .i64 0, .int .i64 0, .int .i64 0, .int .i64 0, .int .i64 0, .int .i64 0, .int .i64 0, .int .i64 0, .int .i64 0, .int .i64 0, .int .i64 0, .int .i64 0, .int .i64 0, .int .i64 0, .int .i64 0] 46)) = .ok () W ∧ Hid (Blk W (w1.heap.size) 46 #[.int .i64 y, .int .i64 mo, .int .i64 d, .int .i64 h, .int .i64 mi, .int .i64 s, .int .i64 ms, .int .i64 o, .int .i64 p1, .int .i64 p2, .int .i64 p3, .int .i64 p4, .int .i64 p5, .int .i64 p6, .int .i64 n]) ∧ Hid (Below w.heap.size w W) := ⟨_, storeR_rq ⟨_, rfl, Blk.new w1 46 #[.int .i64 0, .int .i64 0, .int .i64 0, .int .i64 0, .int .i64 0, .int .i64 0, .int .i64 0, .int .i64 0, .int .i64 0, .int .i64 0, .int .i64 0, .int .i64 0, .int .i64 0, .int .i64 0, .int .i64 0]⟩ _ _ _ _ _ _ _ _ _ _ _ _ _ _ _, hide ((Blk.new w1 46 #[.int .i64 0, .int .i64 0, .int .i64 0, .int .i64 0, .int .i64 0, .int .i64 0, .int .i64 0, .int .i64 0, .int .i64 0, .int .i64 0, .int .i64 0, .int .i64 0, .int .i64 0, .int .i64 0, .int .i64 0]).setRow _), hide (brow (bal hb1 (.cells #[.int .i64 0, .int .i64 0, .int .i64 0, .int .i64 0, .int .i64 0, .int .i64 0, .int .i64 0, .int .i64 0, .int .i64 0, .int .i64 0, .int .i64 0, .int .i64 0, .int .i64 0, .int .i64 0, .int .i64 0] 46)) (by omega) _)⟩
    have hld2 := loadR_row A2.out
    clear hb1 hs hc hm hm'
    go_wp2_with fail
    refine (impl_rpT y mo d h mi s ms o p1 p2 p3 p4 p5 p6 n _ (hM.below B2.out)).mono ?_
    rintro e w3 ⟨rfl, hb3⟩
    have A3 := hide (A2.out.below hb3 A2.out.lt)
    have B3 := hide (bto B2.out hb3)
    clear st2 hld2 A2 B2 hb3
    have hld3 := loadR_row A3.out
    go_wp2_with fail
    refine (spec_rpT y mo d h mi s ms o p1 p2 p3 p4 p5 p6 n _).mono ?_
    rintro e w4 ⟨rfl, hb4⟩
    have A4 := hide (A3.out.below hb4 A3.out.lt)
    have hlt4 := A4.out.lt
    have B4 := hide (bto B3.out hb4)
    clear hld3 A3 B3 hb4
    cases hok : rpB ⟨y, mo, d, h, mi, s, ms, o⟩ p1 p2 p3 p4 p5 p6 n with
    | false =>
      rw [rpT_no hok]
      clear hok
      go_wp2_with fail
      go_ret
      exact ⟨rfl, B4.out⟩
    | true =>
      rw [rpT_yes hok, rpT_cut]
      obtain ⟨oks, hsm, hn⟩ := rpB_in hok
      have hM4 := hM.below B4.out
      have hst := fun x : Lt w4 => impl_stT y mo d h mi s ms o x.w (hM4.below x.h) oks
      have hpt := fun W => impl_perT p1 p2 p3 p4 p5 p6 W hsm
      have l1 := d2_len n
      have l2 : (((stT ⟨y, mo, d, h, mi, s, ms, o⟩).length : Nat) : Int) ≤ 29 := by have := stT_len ⟨y, mo, d, h, mi, s, ms, o⟩; omega
      have l3 : (((perT p1 p2 p3 p4 p5 p6).length : Nat) : Int) ≤ 25 := by have := perT_len p1 p2 p3 p4 p5 p6; omega
      generalize d2 n = DN at *
      generalize stT ⟨y, mo, d, h, mi, s, ms, o⟩ = TS at *
      generalize perT p1 p2 p3 p4 p5 p6 = TP at *
      obtain ⟨E, hE⟩ : ∃ E, E = 47 :: (TS ++ 47 :: TP) := ⟨_, rfl⟩
      rw [← hE]
      obtain ⟨R, hR⟩ : ∃ R, R = ([82] ++ DN) ++ E := ⟨_, rfl⟩
      rw [← hR]
      have l4 : ((E.length : Nat) : Int) ≤ 60 := by rw [hE]; simp; omega
      obtain ⟨m, hm⟩ : ∃ m : Nat, m = 1 + DN.length := ⟨_, rfl⟩
      have hRl : R.length = m + E.length := by rw [hR, hm]; simp; omega
      have r1 : (R == []) = false := by rw [hR]; rfl
      have hcut : (S R).extract m R.length = S E := by rw [S_cut, hR, hm]; congr 1; simp [Nat.add_comm]
      have hidx : ∀ h : 0 < (S R).size, (S R)[0]'h = 82 := by
        have e : R = 82 :: (DN ++ E) := hR
        rw [e]
        intro h
        rfl
      have HE := hide hE.symm
      have HC := hide hcut
      have HR := hide hR
      have n1 : w1.heap.size ≤ w4.heap.size := by omega
      have c0 := A4.out.cell 0
      have c1 := A4.out.cell 1
      have c2 := A4.out.cell 2
      have c3 := A4.out.cell 3
      have c4 := A4.out.cell 4
      have c5 := A4.out.cell 5
      have c6 := A4.out.cell 6
      have c7 := A4.out.cell 7
      have c8 := A4.out.cell 8
      have c9 := A4.out.cell 9
      have c10 := A4.out.cell 10
      have c11 := A4.out.cell 11
      have c12 := A4.out.cell 12
      have c13 := A4.out.cell 13
      have c14 := A4.out.cell 14
      simp at c0 c1 c2 c3 c4 c5 c6 c7 c8 c9 c10 c11 c12 c13 c14
      have s1 : IntKind.i64.wrap ((R.length : Int) - (E.length : Int)) = (m : Int) := by rw [IntWalk.i64_in _ (by omega)]; omega
      have s1' : (R.length : Int) - (E.length : Int) = (m : Int) := by omega
      have s2 : (2 : Int) ≤ (m : Int) := by omega
      have s3 : (m : Int) ≤ (R.length : Int) := by omega
      have s4 : (0 : Int) < (R.length : Int) := by omega
      have s5 : ((R.length : Nat) : Int) ≤ 100 := by omega
      clear hok oks hsm hn hE hcut hR hm hRl l1
      go_wp2_with fail
      refine region_below (by kernel_rfl) (by kernel_rfl) ?_
      repeat (go_big_quiet_step ((first | (go_at_call 10; exact lt_call (hst _)) | (go_at_call 15; exact lt_call (hpt _)))))
      refine wpQuiet_nil ?_
      rintro wq ⟨⟨_, hq⟩, rfl⟩
      have BQ := hide (bto B4.out hq)
      clear c0 c1 c2 c3 c4 c5 c6 c7 c8 c9 c10 c11 c12 c13 c14 hst hpt
      rw [HE.out]
      have hcut := HC.out
      go_wp2_with fail
      go_ret
      exact ⟨rfl, BQ.out⟩
end
end Go.Proofs.YtinemkjoohgmjaaDoor
