/- The law FnZoneStamp returns true. -/
import Derived.Test.YtjdlffkbhaieaaaDoorDrZO
import Derived.Test.YtjdlffkbhaieaaaDoorZt
import Derived.Test.YtjdlffkbhaieaaaDoorSt4
import Derived.Test.YtjdlffkbhaieaaaDoorZn8
import Derived.Test.YtjdlffkbhaieaaaDoorShellZ
import Derived.Test.YtjdlffkbhaieaaaDoorShellD
namespace Go.Proofs.YtjdlffkbhaieaaaDoor
open Go.RowKit
attribute [local go_sem] lt_cell

theorem zsV_in {o n : Int} {l : List R2} {x : S8} (h : zsV o l n = (x, true)) : zvB o l = true ∧ insB n = true ∧ x.ok = true ∧ x.ins = n ∧ x.o = offAt o l n := by
  cases hv : zvB o l with
  | false => rw [zsV_no1 hv] at h; exact absurd (Prod.mk.inj h).2 (by simp)
  | true =>
    cases hn : insB n with
    | false => rw [zsV_no2 hn] at h; exact absurd (Prod.mk.inj h).2 (by simp)
    | true =>
      rw [zsV_yes hv hn] at h
      cases hs : stOk n (offAt o l n) with
      | false => rw [stAt_no hs] at h; exact absurd (Prod.mk.inj h).2 (by simp)
      | true =>
        rw [stAt_yes hs] at h
        obtain ⟨s1, s2, s3, s4⟩ := stOk_iff.1 hs
        have e := (Prod.mk.inj h).1
        obtain ⟨k1, k2, k3⟩ := stL_ok (o := offAt o l n) s3 s4 (offB_iff.2 s2)
        rw [← e]
        exact ⟨rfl, rfl, k1, by rw [k3]; omega, rfl⟩
theorem impl_instant (x : S8) (w : World) (hM : MD w) (hok : x.ok = true) :
    Calls Tryd.prog 21 #[.agg x.v] w fun e w' => e = .returned (.tuple #[.int .i64 x.ins, .bool true]) ∧ Below w.heap.size w w' := by
  obtain ⟨y, mo, d, h, mi, s, ms, o⟩ := x
  have X0 := Blk.new w 31 #[.int .i64 y, .int .i64 mo, .int .i64 d, .int .i64 h, .int .i64 mi, .int .i64 s, .int .i64 ms, .int .i64 o]
  have B0 := bal (Below.refl w.heap.size w) (.cells #[.int .i64 y, .int .i64 mo, .int .i64 d, .int .i64 h, .int .i64 mi, .int .i64 s, .int .i64 ms, .int .i64 o] 31)
  simp only [S8.v]
  go_enter Tryd.func21, Tryd.ntmps21
  go_wp2_with fail
  refine (impl_sv ⟨y, mo, d, h, mi, s, ms, o⟩ _ (hM.alloc _)).mono ?_
  rintro e w1 ⟨rfl, hb1⟩
  have B1 := bto B0 hb1
  have X1 := hide (X0.below hb1 X0.lt)
  have x0 := X1.out.cell 0
  have x1 := X1.out.cell 1
  have x2 := X1.out.cell 2
  have x3 := X1.out.cell 3
  have x4 := X1.out.cell 4
  have x5 := X1.out.cell 5
  have x6 := X1.out.cell 6
  have x7 := X1.out.cell 7
  simp at x0 x1 x2 x3 x4 x5 x6 x7
  have HK := hide hok
  rw [hok]
  clear hok
  go_wp2_with fail
  refine (instantOf_any ⟨y, mo, d, h, mi, s, ms, o⟩ _ (hM.below B1) HK.out).mono ?_
  rintro e w2 ⟨rfl, hb2⟩
  go_wp2_with fail
  go_returns
  exact ⟨rfl, bto B1 hb2⟩

set_option maxRecDepth 100000 in
set_option maxHeartbeats 2000000 in
theorem w_FnZoneStamp (w : World) (hM : MD w) (A : Option Addr) (len cap : Nat) (hs : Src w.heap.size w A len) (hc : len ≤ cap) (hm : cap ≤ maxLen) :
    Calls Tryd.prog 4 #[.slice A len cap] w fun e w' => e = .returned (.bool true) ∧ Below w.heap.size w w' := by
  have hm' := hm
  unfold maxLen at hm'
  by_cases hbig : 1048576 < len
  · go_enter Tryd.func4, Tryd.ntmps4
    go_wp2_with fail
    go_ret
    exact ⟨rfl, Below.refl _ _⟩
  · go_enter Tryd.func4, Tryd.ntmps4
    go_wp2_with fail
    refine (drawZS hs (Nat.le_refl _) hc hm).mono ?_
    rintro e w1 ⟨o, b, cap1, l, n, rfl, ho1, hl5, hbd, hb1⟩
    have P1 := hide (Prs.own ho1)
    have hcap := own_cap ho1
    have hcm : cap1 ≤ 9223372036854775807 := hcap.2
    have hlc : l.length ≤ cap1 := hcap.1
    clear ho1 hbd hcap hs
    have M1 := hM.below hb1
    obtain ⟨⟨⟨y, mo, d, h, mi, s, ms, oo⟩, ok⟩, hz⟩ : ∃ r, zsV o l n = r := ⟨_, rfl⟩
    have HZ := hide hz
    clear hz
    go_wp2_with fail
    refine (impl_zs o n l _ _ _ _ _ (M1.alloc _) rfl (P1.out.alloc (Nat.le_refl _) _) (by simp) hlc hcm).mono ?_
    rintro e w2 ⟨rfl, hb2⟩
    rw [HZ.out]
    simp only [S8.v]
    have Z2 := (Blk.new w1 36 #[.int .i64 o, .slice (some ⟨b, 0, none⟩) l.length cap1]).below hb2 (by simp)
    have H2 := bto (bal (Below.refl w1.heap.size w1) (.cells #[.int .i64 o, .slice (some ⟨b, 0, none⟩) l.length cap1] 36)) hb2
    have hz2 := Z2.lt
    have Z2' := hide (Z2.alloc (.cells #[.int .i64 y, .int .i64 mo, .int .i64 d, .int .i64 h, .int .i64 mi, .int .i64 s, .int .i64 ms, .int .i64 oo] 31))
    have S2 := hide (Blk.new w2 31 #[.int .i64 y, .int .i64 mo, .int .i64 d, .int .i64 h, .int .i64 mi, .int .i64 s, .int .i64 ms, .int .i64 oo])
    have H2' := bal H2 (.cells #[.int .i64 y, .int .i64 mo, .int .i64 d, .int .i64 h, .int .i64 mi, .int .i64 s, .int .i64 ms, .int .i64 oo] 31)
    have c20 := Z2'.out.cell 0
    have c21 := Z2'.out.cell 1
    simp at c20 c21
    clear Z2 hb2
    go_wp2_with fail
    refine (spec_zs o n l _ _ _ _ _ rfl (P1.out.below H2') (Nat.le_of_lt Z2'.out.lt) (by omega)).mono ?_
    rintro e w3 ⟨rfl, hb3⟩
    rw [HZ.out]
    simp only [S8.v]
    have H3 := bal (bto H2' hb3) (.cells #[.int .i64 y, .int .i64 mo, .int .i64 d, .int .i64 h, .int .i64 mi, .int .i64 s, .int .i64 ms, .int .i64 oo] 31)
    have Z3 := hide ((Z2'.out.below hb3 Z2'.out.lt).alloc (.cells #[.int .i64 y, .int .i64 mo, .int .i64 d, .int .i64 h, .int .i64 mi, .int .i64 s, .int .i64 ms, .int .i64 oo] 31))
    have S3 := hide ((S2.out.below hb3 S2.out.lt).alloc (.cells #[.int .i64 y, .int .i64 mo, .int .i64 d, .int .i64 h, .int .i64 mi, .int .i64 s, .int .i64 ms, .int .i64 oo] 31))
    have hz3 := (Z2'.out.below hb3 Z2'.out.lt).lt
    have hs3 := (S2.out.below hb3 S2.out.lt).lt
    have q0 := S3.out.cell 0
    have q1 := S3.out.cell 1
    have q2 := S3.out.cell 2
    have q3 := S3.out.cell 3
    have q4 := S3.out.cell 4
    have q5 := S3.out.cell 5
    have q6 := S3.out.cell 6
    have q7 := S3.out.cell 7
    simp at q0 q1 q2 q3 q4 q5 q6 q7
    clear Z2' S2 H2 H2' hb3 c20 c21
    cases ok with
    | false =>
      go_wp2_with fail
      go_ret
      exact ⟨rfl, bto hb1 H3⟩
    | true =>
      obtain ⟨f1, f2, f3, f4, f5⟩ := zsV_in HZ.out
      have F1 := hide f1
      have F2 := hide f2
      have F3 := hide f3
      have F4 := hide f4
      have F5 : Hid (oo = offAt o l n) := hide f5
      clear f1 f2 f3 f4 f5
      go_wp2_with fail
      refine (impl_instant ⟨y, mo, d, h, mi, s, ms, oo⟩ _ (M1.below H3) F3.out).mono ?_
      rintro e w4 ⟨rfl, hb4⟩
      rw [F4.out]
      have H4 := bto H3 hb4
      have Z4 := hide (Z3.out.below hb4 Z3.out.lt)
      have S4 := hide (S3.out.below hb4 S3.out.lt)
      have c40 := Z4.out.cell 0
      have c41 := Z4.out.cell 1
      have hz4 := Z4.out.lt
      simp at c40 c41
      clear Z3 S3 H3 hb4 q0 q1 q2 q3 q4 q5 q6 q7
      go_wp2_with fail
      refine (impl_zo o n l _ _ _ _ _ rfl (P1.out.below H4) (Nat.le_of_lt hz4) hlc hcm).mono ?_
      rintro e w5 ⟨rfl, hb5⟩
      rw [zoV_yes F1.out F2.out, ← F5.out]
      have q7 := (S4.out.below hb5 S4.out.lt).cell 7
      simp at q7
      have g1 : (n == n) = true := by simp
      have g2 : (oo == oo) = true := by simp
      go_wp2_with fail
      go_ret
      exact ⟨rfl, bto hb1 (bto H4 hb5)⟩
end Go.Proofs.YtjdlffkbhaieaaaDoor
