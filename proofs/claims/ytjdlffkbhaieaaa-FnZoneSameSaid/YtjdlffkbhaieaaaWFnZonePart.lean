/- The law FnZonePart returns true. -/
import Derived.Test.YtjdlffkbhaieaaaDrZ
import Derived.Test.YtjdlffkbhaieaaaZn3
import Derived.Test.YtjdlffkbhaieaaaZn6
import Derived.Test.YtjdlffkbhaieaaaZn7
import Derived.Test.YtjdlffkbhaieaaaShellZ
namespace Go.Proofs.Ytjdlffkbhaieaaa
open Go.RowKit
attribute [local go_sem] lt_cell

/-- A drawn zone. -/
def DrawnZV (w : World) (e : Ending) (w' : World) : Prop :=
  ∃ (o : Int) (b cap : Nat) (l : List R2), e = .returned (.agg #[.int .i64 o, .slice (some ⟨b, 0, none⟩) l.length cap]) ∧ w'.ownsRow w.heap.size 37 2 (.slice (some ⟨b, 0, none⟩) l.length cap) l.length (flatP l) ∧ l.length ≤ 5 ∧ Bd 1000000000000000 l ∧ Below w.heap.size w w'
theorem drawZV {B len cap : Nat} {A : Option Addr} {w : World} (hs : Src B w A len) (hB : B ≤ w.heap.size) (hc : len ≤ cap) (hm : cap ≤ maxLen) :
    Calls Try.prog 13 #[.slice A len cap] w (DrawnZV w) := by
  have R0 := Blk.new w 29 #[.int .i64 0, .slice none 0 0]
  go_enter Try.func13, Try.ntmps13
  go_wp2_with fail
  refine (l6Open_any (hs.keep fun p hp => World.cell?_alloc_lt w _ p (by omega)) (by simp; omega) hc hm).mono ?_
  rintro e w1 ⟨g, rfl, hg, hr1, hb1⟩
  have B1 := bto (bal (Below.refl w.heap.size w) (.cells #[.int .i64 0, .slice none 0 0] 29)) hb1
  go_wp2_with fail
  refine (l92Zone_any hr1 (by omega)).mono ?_
  rintro e w2 ⟨o, b, cap', l, y, mo, d, rfl, ho, hl, hbd, hr2, hg2⟩
  have hg' : w.heap.size < g := Nat.lt_of_lt_of_le R0.lt hg
  have R2 := (R0.below hb1 R0.lt).grown' hg2 (by omega)
  have rc0 := R2.cell 0
  have rc1 := R2.cell 1
  have rf0 := R2.frozen 0
  have rf1 := R2.frozen 1
  have hlt := R2.lt
  have hl1 : w.heap.size < w1.heap.size := Nat.lt_of_lt_of_le R0.lt hb1.size
  have Q := hide (⟨ownsRow_setCell_below (ownsRow_setCell_below ho (a := ⟨w.heap.size, 0, none⟩) hl1 (.int .i64 o)) (a := ⟨w.heap.size, 1, none⟩) hl1 (.slice (some ⟨b, 0, none⟩) l.length cap'), bonly B1 hg2 (Nat.le_of_lt hg')⟩ : _ ∧ _)
  simp at rc0 rc1
  have HR := hide R2
  clear R0 R2 hb1 B1 hg2 ho hr1 hr2 hs
  go_wp2_with fail
  have R := (((HR.out.set_ 0 (.int .i64 o)).set_ 1 (.slice (some ⟨b, 0, none⟩) l.length cap')).alloc (.cells #[.int .i64 o, .slice (some ⟨b, 0, none⟩) l.length cap'] 29)).alloc (.cells #[.int .i64 y, .int .i64 mo, .int .i64 d] 49)
  have r0 := R.cell 0
  have r1 := R.cell 1
  simp at r0 r1
  refine bodyPost_ret (by simp [results, Try.results13, go_sem, r0, r1]; try rfl) rfl ?_
  exact ⟨o, b, cap', l, rfl, ((own_more Q.out.1 (Nat.le_of_lt hl1)).alloc _).alloc _, hl, hbd, bal (bal (bset (bset Q.out.2 (Nat.le_refl _) _) (Nat.le_refl _) _) _) _⟩

theorem zv_init {o : Int} {l : List R2} (h : zvB o l = true) (h0 : l.length ≠ 0) : zvB o (l.take (l.length - 1)) = true := by
  have hz := zv_of h
  obtain ⟨l', t, rfl⟩ : ∃ l' t, l = l' ++ [t] := by
    refine ⟨l.dropLast, l.getLast (by intro e; rw [e] at h0; exact h0 rfl), (List.dropLast_concat_getLast _).symm⟩
  have e : (l' ++ [t]).take ((l' ++ [t]).length - 1) = l' := by simp
  rw [e]
  exact of_zv hz.init

set_option maxHeartbeats 2000000 in
theorem w_FnZonePart (w : World) (A : Option Addr) (len cap : Nat) (hs : Src w.heap.size w A len) (hc : len ≤ cap) (hm : cap ≤ maxLen) :
    Calls Try.prog 4 #[.slice A len cap] w fun e w' => e = .returned (.bool true) ∧ Below w.heap.size w w' := by
  have hm' := hm
  unfold maxLen at hm'
  by_cases hbig : 1048576 < len
  · go_enter Try.func4, Try.ntmps4
    go_wp2_with fail
    go_ret
    exact ⟨rfl, Below.refl _ _⟩
  · go_enter Try.func4, Try.ntmps4
    go_wp2_with fail
    refine (drawZV hs (Nat.le_refl _) hc hm).mono ?_
    rintro e w1 ⟨o, b, cap1, l, rfl, ho1, hl5, hbd, hb1⟩
    have P1 := hide (Prs.own ho1)
    have hcap := own_cap ho1
    have hcm : cap1 ≤ 9223372036854775807 := hcap.2
    have hlc : l.length ≤ cap1 := hcap.1
    have hbl := (ho1.lt b rfl).2
    clear ho1 hbd hcap hs
    go_wp2_with fail
    refine (impl_zv o l _ _ _ _ _ rfl (P1.out.alloc (Nat.le_refl _) _) (by simp)).mono ?_
    rintro e w2 ⟨rfl, hb2⟩
    have Z2 : Blk w2 w1.heap.size 29 #[.int .i64 o, .slice (some ⟨b, 0, none⟩) l.length cap1] := (Blk.new w1 _ _).below hb2 (by simp)
    have H2 := bto (bal (Below.refl w1.heap.size w1) (.cells #[.int .i64 o, .slice (some ⟨b, 0, none⟩) l.length cap1] 29)) hb2
    have c20 := Z2.cell 0
    have c21 := Z2.cell 1
    have hz2 := Z2.lt
    simp at c20 c21
    go_wp2_with fail
    refine (spec_zv o l _ _ _ _ _ rfl (P1.out.below H2) (Nat.le_of_lt hz2)).mono ?_
    rintro e w3 ⟨rfl, hb3⟩
    have Z3 := Z2.below hb3 hz2
    have H3 := bto H2 hb3
    have c30 := Z3.cell 0
    have c31 := Z3.cell 1
    have hz3 := Z3.lt
    have P3 := hide (P1.out.below H3)
    have F3 := bto hb1 H3
    simp at c30 c31
    clear Z2 Z3 H2 H3 hb2 hb3 c20 c21
    cases hv : zvB o l with
    | false =>
      go_wp2_with fail
      go_ret
      exact ⟨rfl, F3⟩
    | true =>
      by_cases h0 : l.length = 0
      · have g0 : ((l.length : Int) == 0) = true := by rw [h0]; rfl
        go_wp2_with fail
        go_ret
        exact ⟨rfl, F3⟩
      · have HV := hide (zv_init hv h0)
        have g0 : ((l.length : Int) == 0) = false := beq_eq_false_iff_ne.2 (by omega)
        have q1 : (0 : Int) ≤ (l.length : Int) - 1 := by omega
        have q2 : (l.length : Int) - 1 ≤ (cap1 : Int) := by omega
        have q3 : ((l.length : Int) - 1).toNat = l.length - 1 := by omega
        have hn1 : w1.heap.size ≤ w3.heap.size := Nat.le_of_lt hz3
        have hln := hide (show (l.take (l.length - 1)).length = l.length - 1 by rw [List.length_take]; omega)
        go_wp2_with fail
        refine region_below (by kernel_rfl) (by kernel_rfl) ?_
        repeat (go_big_quiet_step ((go_at_call 11; exact lt_call (impl_zv o (l.take (l.length - 1)) _ _ w1.heap.size _ _ hln.out ((P3.out.take _).below ((Lt.h _).mono hn1)) (Nat.le_trans hn1 (Lt.h _).size)))))
        refine wpQuiet_nil ?_
        rintro wq ⟨⟨_, hq⟩, rfl⟩
        rw [HV.out]
        go_wp2_with fail
        go_ret
        exact ⟨rfl, bto F3 hq⟩
end Go.Proofs.Ytjdlffkbhaieaaa
