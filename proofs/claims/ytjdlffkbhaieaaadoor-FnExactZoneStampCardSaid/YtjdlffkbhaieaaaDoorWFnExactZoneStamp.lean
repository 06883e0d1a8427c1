/- The law FnExactZoneStamp returns true. -/
import Derived.Test.YtjdlffkbhaieaaaDoorZt
import Derived.Test.YtjdlffkbhaieaaaDoorEqs
import Derived.Test.YtjdlffkbhaieaaaDoorZn6
import Derived.Test.YtjdlffkbhaieaaaDoorShellZ
import Derived.Test.YtjdlffkbhaieaaaDoorShellD
namespace Go.Proofs.YtjdlffkbhaieaaaDoor
open Go.RowKit
attribute [local go_sem] lt_cell

set_option maxRecDepth 100000 in
set_option maxHeartbeats 2000000 in
theorem w_FnExactZoneStamp (w : World) (hM : MD w) (o : Int) (A : Option Addr) (len cap : Nat) (_ho : I64 o) (l : List R2) (hl : l.length = len) (hP : Prs w.heap.size w A l) (_hi : ∀ r ∈ l, I64 r.1 ∧ I64 r.2) (hc : len ≤ cap) (hm : cap ≤ maxLen) (t : Int) (_ht : I64 t) :
    Calls Tryd.prog 3 #[.agg #[.int .i64 o, .slice A len cap], .int .i64 t] w fun e w' => e = .returned (.bool true) ∧ Below w.heap.size w w' := by
  unfold maxLen at hm
  obtain ⟨⟨⟨y, mo, d, h, mi, s, ms, oo⟩, ok⟩, hz⟩ : ∃ r, zsV o l t = r := ⟨_, rfl⟩
  have HZ := hide hz
  have g2 : (ok != ok) = false := by simp
  have g3 : (!(ok == ok)) = false := by simp
  clear hz
  have HL := hide hl
  have HP := hide hP
  clear hl hP
  by_cases hbig : (1048576 : Int) < len
  · go_enter Tryd.func3, Tryd.ntmps3
    go_wp2_with fail
    refine (szZone_any o len cap A _ _ (by omega) (by omega) (by omega)).mono ?_
    rintro e w1 ⟨rfl, hb1⟩
    rw [if_pos (by omega)]
    go_wp2_with fail
    go_ret
    exact ⟨rfl, bto (bal (Below.refl _ _) _) hb1⟩
  · have h0 : (0 : Int) ≤ 1048576 - len := by omega
    have HX0 := hide (Blk.new w 24 #[.int .i64 o, .slice A len cap])
    have hs0 := HX0.out.lt
    go_enter Tryd.func3, Tryd.ntmps3
    go_wp2_with fail
    refine (szZone_any o len cap A _ _ (by omega) (by omega) (by omega)).mono ?_
    rintro e w1 ⟨rfl, hb1⟩
    rw [if_neg (by omega)]
    have H1 := bto (bal (Below.refl w.heap.size w) (.cells #[.int .i64 o, .slice A len cap] 24)) hb1
    have X1 := HX0.out.below hb1 hs0
    have k10 := X1.cell 0
    have k11 := X1.cell 1
    have hs1 := X1.lt
    simp at k10 k11
    have HX1 := hide X1
    clear X1
    go_wp2_with fail
    refine (toZone_any o l len cap _ A _ HL.out (HP.out.below H1) (by omega) (by omega)).mono ?_
    rintro e w2 ⟨g2, cap2, rfl, ho2, hb2⟩
    have P2 := Prs.own ho2
    clear ho2
    go_wp2_with fail
    refine (spec_zs o t l _ _ _ _ _ rfl P2 (Nat.le_refl _) (by have := HL.out; omega)).mono ?_
    rintro e w3 ⟨rfl, hb3⟩
    rw [HZ.out]
    simp only [S8.v]
    have H13 := bto hb2 hb3
    have H3 := bto H1 H13
    have X3 := HX1.out.below H13 hs1
    have k30 := X3.cell 0
    have k31 := X3.cell 1
    have hs3 := X3.lt
    simp at k30 k31
    have HX3 := hide X3
    clear X3 k10 k11 P2
    have S3 := hide (Blk.new w3 31 #[.int .i64 y, .int .i64 mo, .int .i64 d, .int .i64 h, .int .i64 mi, .int .i64 s, .int .i64 ms, .int .i64 oo])
    have H3' := bal H3 (.cells #[.int .i64 y, .int .i64 mo, .int .i64 d, .int .i64 h, .int .i64 mi, .int .i64 s, .int .i64 ms, .int .i64 oo] 31)
    go_wp2_with fail
    refine (toZone_any o l len cap _ A _ HL.out (HP.out.below H3') (by simp; omega) (by omega)).mono ?_
    rintro e w4 ⟨g4, cap4, rfl, ho4, hb4⟩
    have P4 := hide (Prs.own ho4)
    have H4 := bto H3' hb4
    have S4 := hide (S3.out.below hb4 S3.out.lt)
    have MM := (hM.below H4).alloc (.cells #[.int .i64 o, .slice (some ⟨g4, 0, none⟩) l.length cap4] 36)
    have HX3' := hide (HX3.out.alloc (.cells #[.int .i64 y, .int .i64 mo, .int .i64 d, .int .i64 h, .int .i64 mi, .int .i64 s, .int .i64 ms, .int .i64 oo] 31))
    have hs3' := HX3'.out.lt
    have hs4 := hb4.size
    have hcap := own_cap ho4
    clear ho4
    go_wp2_with fail
    refine (impl_zs o t l _ _ _ _ _ MM rfl (P4.out.alloc (Nat.le_refl _) _) (by simp) hcap.1 (by have := hcap.2; unfold maxLen at this; exact this)).mono ?_
    rintro e w5 ⟨rfl, hb5⟩
    rw [HZ.out]
    simp only [S8.v]
    have Y5 : Blk w5 w4.heap.size 36 #[.int .i64 o, .slice (some ⟨g4, 0, none⟩) l.length cap4] := (Blk.newE rfl).below hb5 (by simp)
    have X5 : Blk w5 w.heap.size 24 #[.int .i64 o, .slice A len cap] := ((HX3'.out.below hb4 hs3').alloc _).below hb5 (by simp; omega)
    have k50 := X5.cell 0
    have k51 := X5.cell 1
    have j50 := Y5.cell 0
    have j51 := Y5.cell 1
    have hs5 := Y5.lt
    simp at k50 k51 j50 j51
    have H5 := bto (bal H4 (.cells #[.int .i64 o, .slice (some ⟨g4, 0, none⟩) l.length cap4] 36)) hb5
    have hs5' := H5.size
    have hsw : w.heap.size < w4.heap.size := by omega
    have hll : l.length ≤ 1048576 := by have := HL.out; omega
    have P5 : Hid (Prs w4.heap.size w5 (some ⟨g4, 0, none⟩) l) := hide ((P4.out.alloc (Nat.le_refl _) _).below (hb5.mono (by simp)))
    have S5 := (S4.out.alloc (.cells #[.int .i64 o, .slice (some ⟨g4, 0, none⟩) l.length cap4] 36)).below hb5 (by simp; have := S4.out.lt; omega)
    have q0 := S5.cell 0
    have q1 := S5.cell 1
    have q2 := S5.cell 2
    have q3 := S5.cell 3
    have q4 := S5.cell 4
    have q5 := S5.cell 5
    have q6 := S5.cell 6
    have q7 := S5.cell 7
    simp at q0 q1 q2 q3 q4 q5 q6 q7
    have hs5s := S5.lt
    clear MM
    go_wp2_with fail
    refine (eqStamp_same _ _ _ _ _ _ _ _ _).mono ?_
    rintro e w7 ⟨rfl, hb7'⟩
    have H6 := bal H5 (.cells #[.int .i64 y, .int .i64 mo, .int .i64 d, .int .i64 h, .int .i64 mi, .int .i64 s, .int .i64 ms, .int .i64 oo] 31)
    have H7 := bto H6 hb7'
    have Y7 := (Y5.alloc (.cells #[.int .i64 y, .int .i64 mo, .int .i64 d, .int .i64 h, .int .i64 mi, .int .i64 s, .int .i64 ms, .int .i64 oo] 31)).below hb7' (by simp; omega)
    have X7 := (X5.alloc (.cells #[.int .i64 y, .int .i64 mo, .int .i64 d, .int .i64 h, .int .i64 mi, .int .i64 s, .int .i64 ms, .int .i64 oo] 31)).below hb7' (by simp; omega)
    have l50 := X7.cell 0
    have l51 := X7.cell 1
    have m50 := Y7.cell 0
    have m51 := Y7.cell 1
    have hs7 := Y7.lt
    simp at l50 l51 m50 m51
    have hs7' := H7.size
    have hzz := hb7'.size
    have P7 : Hid (Prs w4.heap.size w7 (some ⟨g4, 0, none⟩) l) := hide ((P5.out.alloc (by omega) _).below (hb7'.mono (by simp; omega)))
    clear k50 k51 j50 j51 q0 q1 q2 q3 q4 q5 q6 q7 hzz
    go_wp2_with fail
    go_region_held3 (fun w' => w'.cell? ⟨w4.heap.size, 0, none⟩ = some (.int .i64 o) ∧ w'.cell? ⟨w4.heap.size, 1, none⟩ = some (.slice (some ⟨g4, 0, none⟩) l.length cap4) ∧ w'.cell? ⟨w.heap.size, 0, none⟩ = some (.int .i64 o) ∧ w'.cell? ⟨w.heap.size, 1, none⟩ = some (.slice A len cap)) (first | go_keep | (refine keep4 hb6 ?_ ?_ ?_; (simp; omega); (simp; omega); assumption) | (refine keep4 hb7 n1 n2 ?_; assumption)) (first | (go_at_call 16; refine (toZone_any o l len cap _ A _ HL.out (HP.out.below (bdrew H7)) hs7' (by omega)).mono ?_; rintro e w6 ⟨g6, cap6, rfl, ho6, hb6⟩; have P6 := Prs.own ho6; have hs6 := hb6.size; have n1 : w4.heap.size < w6.heap.size := Nat.lt_of_lt_of_le hs7 hs6; have n2 : w.heap.size < w6.heap.size := Nat.lt_of_le_of_lt (Nat.le_of_lt hsw) n1) | (go_at_call 19; refine (eqZone_same o l _ _ _ _ _ _ _ rfl ((P7.out.drew.below (hb6.mono (Nat.le_of_lt hs7))).more (Nat.le_of_lt n1)) P6 (Nat.le_refl _) hll).mono ?_; rintro e w7 ⟨rfl, hb7⟩))
    go_wp2_with fail
    go_ret
    exact ⟨rfl, bto (bto (bdrew H7) hb6) hb7⟩
end Go.Proofs.YtjdlffkbhaieaaaDoor
