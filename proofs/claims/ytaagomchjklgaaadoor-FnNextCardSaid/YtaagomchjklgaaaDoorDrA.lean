/- Draws: a repeat and a number; the earlier stamp. -/
import Derived.Test.YtaagomchjklgaaaDoorDrQ
import Derived.Test.YtaagomchjklgaaaDoorRa2
namespace Go.Proofs.YtaagomchjklgaaaDoor
open Go.RowKit

theorem run_max2 {P : Program} (p1 p2 : Int) (ts : Array TypeId) (t : TypeId) (w : World) :
    Sem.run P (Builtin.max_ ts t #[.int .i64 p1, .int .i64 p2]) w = .ok (.int .i64 (mx p1 p2)) w := by
  simp [Builtin.max_, Builtin.max2, mx]
/-- A drawn repeat and a number. -/
def DrawnRa (w : World) (e : Ending) (w' : World) : Prop :=
  ∃ y mo d h mi s ms o p1 p2 p3 p4 p5 p6 n k : Int, e = .returned (.tuple #[.agg #[.int .i64 y, .int .i64 mo, .int .i64 d, .int .i64 h, .int .i64 mi, .int .i64 s, .int .i64 ms, .int .i64 o, .int .i64 p1, .int .i64 p2, .int .i64 p3, .int .i64 p4, .int .i64 p5, .int .i64 p6, .int .i64 n], .int .i64 k]) ∧ Below w.heap.size w w'
section
attribute [local go_sem ↓] storeD_eq storeR_eq loadR_eq
set_option maxRecDepth 100000 in
set_option maxHeartbeats 4000000 in
theorem drawRA {B len cap : Nat} {A : Option Addr} {w : World} (hs : Src B w A len) (hB : B ≤ w.heap.size) (hc : len ≤ cap) (hm : cap ≤ maxLen) :
    Calls Tryd.prog 17 #[.slice A len cap] w (DrawnRa w) := by
  have R0 := Blk.new w 40 #[.int .i64 0, .int .i64 0, .int .i64 0, .int .i64 0, .int .i64 0, .int .i64 0, .int .i64 0, .int .i64 0, .int .i64 0, .int .i64 0, .int .i64 0, .int .i64 0, .int .i64 0, .int .i64 0, .int .i64 0]
  go_enter Tryd.func17, Tryd.ntmps17
  go_wp2_with fail
  refine (l6Open_any (hs.keep fun p hp => World.cell?_alloc_lt w _ p (by omega)) (by simp; omega) hc hm).mono ?_
  rintro e w1 ⟨g, rfl, hg, hr1, hb1⟩
  have hg' : w.heap.size < g := Nat.lt_of_lt_of_le R0.lt hg
  have R1 := hide (R0.below hb1 R0.lt)
  have B1 := hide (bto (bal (Below.refl w.heap.size w) (.cells #[.int .i64 0, .int .i64 0, .int .i64 0, .int .i64 0, .int .i64 0, .int .i64 0, .int .i64 0, .int .i64 0, .int .i64 0, .int .i64 0, .int .i64 0, .int .i64 0, .int .i64 0, .int .i64 0, .int .i64 0] 40)) hb1)
  clear R0 hb1
  go_wp2_with fail
  refine (l92Repeat_any hr1 (by omega)).mono ?_
  rintro e w2 ⟨y, mo, d, h, mi, s, ms, o, p1, p2, p3, p4, p5, p6, n, rfl, hn, hr2, hg2⟩
  have hgl2 := hr2.lt
  have R2 := R1.out.grown' hg2 (by omega)
  have hrl2 := R2.lt
  have B2 := bonly B1.out hg2 (Nat.le_of_lt hg')
  obtain ⟨w3, st3, X3, R3, T3, B3⟩ : ∃ W, (storeR (.pointer (some ⟨w2.heap.size, 0, none⟩)) (.agg #[.int .i64 y, .int .i64 mo, .int .i64 d, .int .i64 h, .int .i64 mi, .int .i64 s, .int .i64 ms, .int .i64 o, .int .i64 p1, .int .i64 p2, .int .i64 p3, .int .i64 p4, .int .i64 p5, .int .i64 p6, .int .i64 n])).run Tryd.prog (w2.alloc (.cells #[.int .i64 0, .int .i64 0, .int .i64 0, .int .i64 0, .int .i64 0, .int .i64 0, .int .i64 0, .int .i64 0, .int .i64 0, .int .i64 0, .int .i64 0, .int .i64 0, .int .i64 0, .int .i64 0, .int .i64 0] 40)) = .ok () W ∧ Hid (Blk W w2.heap.size 40 #[.int .i64 y, .int .i64 mo, .int .i64 d, .int .i64 h, .int .i64 mi, .int .i64 s, .int .i64 ms, .int .i64 o, .int .i64 p1, .int .i64 p2, .int .i64 p3, .int .i64 p4, .int .i64 p5, .int .i64 p6, .int .i64 n]) ∧ Hid (Blk W w.heap.size 40 #[.int .i64 0, .int .i64 0, .int .i64 0, .int .i64 0, .int .i64 0, .int .i64 0, .int .i64 0, .int .i64 0, .int .i64 0, .int .i64 0, .int .i64 0, .int .i64 0, .int .i64 0, .int .i64 0, .int .i64 0]) ∧ Hid (Rd B W g (0 + 60)) ∧ Hid (Below w.heap.size w W) :=
    ⟨_, storeR_rq ⟨_, rfl, Blk.new w2 40 #[.int .i64 0, .int .i64 0, .int .i64 0, .int .i64 0, .int .i64 0, .int .i64 0, .int .i64 0, .int .i64 0, .int .i64 0, .int .i64 0, .int .i64 0, .int .i64 0, .int .i64 0, .int .i64 0, .int .i64 0]⟩ _ _ _ _ _ _ _ _ _ _ _ _ _ _ _, hide ((Blk.new w2 40 #[.int .i64 0, .int .i64 0, .int .i64 0, .int .i64 0, .int .i64 0, .int .i64 0, .int .i64 0, .int .i64 0, .int .i64 0, .int .i64 0, .int .i64 0, .int .i64 0, .int .i64 0, .int .i64 0, .int .i64 0]).setRow _), hide ((R2.alloc (.cells #[.int .i64 0, .int .i64 0, .int .i64 0, .int .i64 0, .int .i64 0, .int .i64 0, .int .i64 0, .int .i64 0, .int .i64 0, .int .i64 0, .int .i64 0, .int .i64 0, .int .i64 0, .int .i64 0, .int .i64 0] 40)).setRow_far (by omega) _), hide ((hr2.alloc (.cells #[.int .i64 0, .int .i64 0, .int .i64 0, .int .i64 0, .int .i64 0, .int .i64 0, .int .i64 0, .int .i64 0, .int .i64 0, .int .i64 0, .int .i64 0, .int .i64 0, .int .i64 0, .int .i64 0, .int .i64 0] 40)).setRow (by omega) _), hide (brow (bal B2 (.cells #[.int .i64 0, .int .i64 0, .int .i64 0, .int .i64 0, .int .i64 0, .int .i64 0, .int .i64 0, .int .i64 0, .int .i64 0, .int .i64 0, .int .i64 0, .int .i64 0, .int .i64 0, .int .i64 0, .int .i64 0] 40)) (by omega) _)⟩
  obtain ⟨M, eM⟩ : ∃ M, M = mx n 0 := ⟨_, rfl⟩
  have hM : 0 ≤ M ∧ M ≤ 100 := by have := mx_law n 0; omega
  have hwr : IntKind.i64.wrap (M + 1) = M + 1 := IntWalk.i64_in _ (by omega)
  have hmax : ∀ (ts : Array TypeId) (t : TypeId) (W : World), Sem.run Tryd.prog (Builtin.max_ ts t #[.int .i64 n, .int .i64 0]) W = .ok (.int .i64 M) W := fun ts t W => by rw [run_max2, ← eM]
  have hld3 := loadR_row X3.out.drew
  have c14 := X3.out.cell 14
  simp at c14
  clear R1 B1 R2 B2 hr1 hg2 hr2 eM
  go_wp2_with fail
  have hd := T3.out.drew
  go_region_with (first | (go_simp; go_at_call 39; refine (pick_any hd (by omega) (by omega)).mono ?_; rintro e w4 ⟨v4, a4, b4, rfl, hr4, hg4⟩; have X4 := hide (X3.out.drew.grown' hg4 (by omega)); have R4 := hide (R3.out.drew.grown' hg4 (by omega)); have B4 := hide (bonly (bdrew B3.out) hg4 (by omega)); have hld4 := loadR_row X4.out; clear hd) | (go_simp; go_at_call 39; refine (pick_any hr4 (by omega) (by omega)).mono ?_; rintro e w5 ⟨v5, a5, b5, rfl, hr5, hg5⟩; have X5 := hide (X4.out.grown' hg5 (by omega)); have R5 := hide (R4.out.grown' hg5 (by omega)); have B5 := hide (bonly B4.out hg5 (by omega)); have hld5 := loadR_row X5.out; clear hr4) | (go_simp; go_at_call 39; refine (pick_any hr5 (by omega) (by omega)).mono ?_; rintro e w6 ⟨v6, a6, b6, rfl, hr6, hg6⟩; have X6 := hide (X5.out.grown' hg6 (by omega)); have R6 := hide (R5.out.grown' hg6 (by omega)); have B6 := hide (bonly B5.out hg6 (by omega)); have hld6 := loadR_row X6.out; clear hr5; obtain ⟨We, ste, ke, Be⟩ : ∃ W, (storeR (.pointer (some ⟨w.heap.size, 0, none⟩)) (.agg #[.int .i64 y, .int .i64 mo, .int .i64 d, .int .i64 h, .int .i64 mi, .int .i64 s, .int .i64 ms, .int .i64 o, .int .i64 p1, .int .i64 p2, .int .i64 p3, .int .i64 p4, .int .i64 p5, .int .i64 p6, .int .i64 n])).run Tryd.prog w6 = .ok () W ∧ (∀ j, W.cell? ⟨w.heap.size, j, none⟩ = (#[.int .i64 y, .int .i64 mo, .int .i64 d, .int .i64 h, .int .i64 mi, .int .i64 s, .int .i64 ms, .int .i64 o, .int .i64 p1, .int .i64 p2, .int .i64 p3, .int .i64 p4, .int .i64 p5, .int .i64 p6, .int .i64 n] : Array Value)[j]?) ∧ Hid (Below w.heap.size w W) := ⟨_, storeR_rq ⟨_, rfl, R6.out⟩ _ _ _ _ _ _ _ _ _ _ _ _ _ _ _, fun j => cell_setRow_same _ _ j _ _ _ (0, 0) R6.out, hide (brow B6.out (Nat.le_refl _) _)⟩))
  all_goals
    as_aux_lemma =>
      go_wp2_with fail
      refine bodyPost_ret (by simp [results, Tryd.results17, go_sem, ke]; try rfl) rfl ?_
      exact ⟨_, _, _, _, _, _, _, _, _, _, _, _, _, _, _, _, rfl, Be.out⟩
end
attribute [local go_sem] lt_cell
set_option maxRecDepth 100000 in
set_option maxHeartbeats 4000000 in
theorem less_any (a b : S8) (w : World) (hM : MD w) (hka : a.ok = true) (hkb : b.ok = true) :
    Calls Tryd.prog 19 #[.agg a.v, .agg b.v] w (RetB (decide (a.ins < b.ins)) w) := by
  obtain ⟨ya, moa, da, ha, mia, sa, msa, oa⟩ := a
  obtain ⟨yb, mob, db, hb, mib, sb, msb, ob⟩ := b
  have hA : ∀ W, MD W → Calls Tryd.prog 29 #[.agg #[.int .i64 ya, .int .i64 moa, .int .i64 da, .int .i64 ha, .int .i64 mia, .int .i64 sa, .int .i64 msa, .int .i64 oa]] W fun e w' => e = .returned (.bool true) ∧ Below W.heap.size W w' := fun W hW => by have := impl_sv ⟨ya, moa, da, ha, mia, sa, msa, oa⟩ W hW; rw [hka] at this; exact this
  have hB : ∀ W, MD W → Calls Tryd.prog 29 #[.agg #[.int .i64 yb, .int .i64 mob, .int .i64 db, .int .i64 hb, .int .i64 mib, .int .i64 sb, .int .i64 msb, .int .i64 ob]] W fun e w' => e = .returned (.bool true) ∧ Below W.heap.size W w' := fun W hW => by have := impl_sv ⟨yb, mob, db, hb, mib, sb, msb, ob⟩ W hW; rw [hkb] at this; exact this
  have hIA : ∀ W, MD W → Calls Tryd.prog 31 #[.agg #[.int .i64 ya, .int .i64 moa, .int .i64 da, .int .i64 ha, .int .i64 mia, .int .i64 sa, .int .i64 msa, .int .i64 oa]] W fun e w' => e = .returned (.int .i64 (S8.ins ⟨ya, moa, da, ha, mia, sa, msa, oa⟩)) ∧ Below W.heap.size W w' := fun W hW => instantOf_any ⟨ya, moa, da, ha, mia, sa, msa, oa⟩ W hW hka
  have hIB : ∀ W, MD W → Calls Tryd.prog 31 #[.agg #[.int .i64 yb, .int .i64 mob, .int .i64 db, .int .i64 hb, .int .i64 mib, .int .i64 sb, .int .i64 msb, .int .i64 ob]] W fun e w' => e = .returned (.int .i64 (S8.ins ⟨yb, mob, db, hb, mib, sb, msb, ob⟩)) ∧ Below W.heap.size W w' := fun W hW => instantOf_any ⟨yb, mob, db, hb, mib, sb, msb, ob⟩ W hW hkb
  have XA := hide ((Blk.new w 37 #[.int .i64 ya, .int .i64 moa, .int .i64 da, .int .i64 ha, .int .i64 mia, .int .i64 sa, .int .i64 msa, .int .i64 oa]).alloc (.cells #[.int .i64 yb, .int .i64 mob, .int .i64 db, .int .i64 hb, .int .i64 mib, .int .i64 sb, .int .i64 msb, .int .i64 ob] 37))
  have XB := hide (Blk.newE (W := w.alloc (.cells #[.int .i64 ya, .int .i64 moa, .int .i64 da, .int .i64 ha, .int .i64 mia, .int .i64 sa, .int .i64 msa, .int .i64 oa] 37)) (g := w.heap.size + 1) (t := 37) (cs := #[.int .i64 yb, .int .i64 mob, .int .i64 db, .int .i64 hb, .int .i64 mib, .int .i64 sb, .int .i64 msb, .int .i64 ob]) (by simp))
  have B0 := hide (bal (bal (Below.refl w.heap.size w) (.cells #[.int .i64 ya, .int .i64 moa, .int .i64 da, .int .i64 ha, .int .i64 mia, .int .i64 sa, .int .i64 msa, .int .i64 oa] 37)) (.cells #[.int .i64 yb, .int .i64 mob, .int .i64 db, .int .i64 hb, .int .i64 mib, .int .i64 sb, .int .i64 msb, .int .i64 ob] 37))
  have hM0 := hM.below B0.out
  clear hka hkb
  generalize S8.ins ⟨ya, moa, da, ha, mia, sa, msa, oa⟩ = na at *
  generalize S8.ins ⟨yb, mob, db, hb, mib, sb, msb, ob⟩ = nb at *
  simp only [S8.v]
  go_enter Tryd.func19, Tryd.ntmps19
  go_wp2_with fail
  generalize (w.alloc (.cells #[.int .i64 ya, .int .i64 moa, .int .i64 da, .int .i64 ha, .int .i64 mia, .int .i64 sa, .int .i64 msa, .int .i64 oa] 37)).alloc (.cells #[.int .i64 yb, .int .i64 mob, .int .i64 db, .int .i64 hb, .int .i64 mib, .int .i64 sb, .int .i64 msb, .int .i64 ob] 37) = w0 at *
  obtain ⟨a0, a1, a2, a3, a4, a5, a6, a7⟩ := st8 XA.out
  obtain ⟨b0, b1, b2, b3, b4, b5, b6, b7⟩ := st8 XB.out
  have hla := XA.out.lt
  have hlb := XB.out.lt
  have hla' := Nat.le_of_lt hla
  have hlb' := Nat.le_of_lt hlb
  refine region_below (by kernel_rfl) (by kernel_rfl) ?_
  repeat (go_big_quiet_step ((first | ((go_at_call_of 29 ya); exact lt_call (hA _ (MD.below hM0 (Lt.h _)))) | ((go_at_call_of 29 yb); exact lt_call (hB _ (MD.below hM0 (Lt.h _)))) | ((go_at_call_of 31 ya); exact lt_call (hIA _ (MD.below hM0 (Lt.h _)))) | ((go_at_call_of 31 yb); exact lt_call (hIB _ (MD.below hM0 (Lt.h _)))))))
  refine wpQuiet_nil ?_
  rintro wq ⟨⟨_, hq⟩, rfl⟩
  go_wp2_with fail
  go_ret
  exact ⟨rfl, bto B0.out hq⟩
end Go.Proofs.YtaagomchjklgaaaDoor
