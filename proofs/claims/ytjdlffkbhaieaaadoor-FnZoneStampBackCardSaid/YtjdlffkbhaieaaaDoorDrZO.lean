/- Draws: a zone and an instant. -/
import Derived.Test.YtjdlffkbhaieaaaDoorDrZ
import Derived.Test.YtjdlffkbhaieaaaDoorZn8
import Derived.Test.YtjdlffkbhaieaaaDoorShellZ
namespace Go.Proofs.YtjdlffkbhaieaaaDoor
open Go.RowKit
attribute [local go_sem] lt_cell

/-- A drawn zone and an instant. -/
def DrawnZO (w : World) (e : Ending) (w' : World) : Prop :=
  ∃ (o : Int) (b cap : Nat) (l : List R2) (n : Int), e = .returned (.tuple #[.agg #[.int .i64 o, .slice (some ⟨b, 0, none⟩) l.length cap], .int .i64 n]) ∧ w'.ownsRow w.heap.size 68 2 (.slice (some ⟨b, 0, none⟩) l.length cap) l.length (flatP l) ∧ l.length ≤ 5 ∧ Bd 1000000000000000 l ∧ Below w.heap.size w w'

/-- What stands while an instant is drawn. -/
structure So (w0 w : World) (B g m base zr zb : Nat) (o : Int) (b cap : Nat) (l : List R2) : Prop where
  Z : Blk w zb 36 #[.int .i64 o, .slice (some ⟨b, 0, none⟩) l.length cap]
  O : w.ownsRow base 68 2 (.slice (some ⟨b, 0, none⟩) l.length cap) l.length (flatP l)
  R : Blk w zr 36 #[.int .i64 0, .slice none 0 0]
  T : Rd B w g m
  G : Below w0.heap.size w0 w
  h0 : w0.heap.size ≤ zr
  h1 : zr < g
  h2 : g < base
  h3 : base ≤ zb
section
variable {w0 w w' : World} {B g m base zr zb : Nat} {o : Int} {b cap : Nat} {l : List R2}
theorem So.drew (h : So w0 w B g m base zr zb o b cap l) : So w0 w.drew B g m base zr zb o b cap l := ⟨h.Z, h.O, h.R, h.T, bdrew h.G, h.h0, h.h1, h.h2, h.h3⟩
theorem So.alloc (h : So w0 w B g m base zr zb o b cap l) (x : Obj) : So w0 (w.alloc x) B g m base zr zb o b cap l := ⟨h.Z.alloc x, h.O.alloc x, h.R.alloc x, h.T.alloc x, bal h.G x, h.h0, h.h1, h.h2, h.h3⟩
theorem So.below (h : So w0 w B g m base zr zb o b cap l) (hb : Below w.heap.size w w') : So w0 w' B g m base zr zb o b cap l :=
  ⟨h.Z.below hb h.Z.lt, own_below h.O hb, h.R.below hb h.R.lt, h.T.below hb h.T.lt, bto h.G hb, h.h0, h.h1, h.h2, h.h3⟩
theorem So.pick (h : So w0 w B g m base zr zb o b cap l) {m' : Nat} (hr : Rd B w' g m') (hg : w.grownBy w' (some g)) : So w0 w' B g m' base zr zb o b cap l :=
  have a0 := h.h0; have a1 := h.h1; have a2 := h.h2; have a3 := h.h3
  ⟨h.Z.grown' hg (by omega), own_rd h.O hg h.h2, h.R.grown' hg (by omega), hr, bonly h.G hg (by omega), h.h0, h.h1, h.h2, h.h3⟩
theorem So.zc (h : So w0 w B g m base zr zb o b cap l) : w.cell? ⟨zb, 0, none⟩ = some (.int .i64 o) ∧ w.cell? ⟨zb, 1, none⟩ = some (.slice (some ⟨b, 0, none⟩) l.length cap) := ⟨h.Z.cell 0, h.Z.cell 1⟩
theorem So.tc (h : So w0 w B g m base zr zb o b cap l) {k : Nat} (hk : k < l.length) : w.cell? ⟨b, k * 2, none⟩ = some (.int .i64 (l.getD k (0, 0)).1) := by
  have := h.O.cellAt (k * 2) (by omega)
  rw [(flatP_get l k hk).1] at this
  exact this
theorem zo_done {e : Ending} (h : So w0 w B g m base w0.heap.size zb o b cap l) (n : Int) (h5 : l.length ≤ 5) (hb : Bd 1000000000000000 l)
    (he : e = .returned (.tuple #[.agg #[.int .i64 o, .slice (some ⟨b, 0, none⟩) l.length cap], .int .i64 n])) : DrawnZO w0 e ((w.setCell ⟨w0.heap.size, 0, none⟩ (.int .i64 o)).setCell ⟨w0.heap.size, 1, none⟩ (.slice (some ⟨b, 0, none⟩) l.length cap)) :=
  have a1 := h.h1; have a2 := h.h2
  ⟨o, b, cap, l, n, he, own_more (ownsRow_setCell_below (ownsRow_setCell_below h.O (a := ⟨w0.heap.size, 0, none⟩) (by show w0.heap.size < base; omega) _) (a := ⟨w0.heap.size, 1, none⟩) (by show w0.heap.size < base; omega) _) (by omega), h5, hb, bset (bset h.G (Nat.le_refl _) _) (Nat.le_refl _) _⟩
end

set_option maxRecDepth 100000 in
set_option maxHeartbeats 4000000 in
theorem drawZO {B len cap : Nat} {A : Option Addr} {w : World} (hs : Src B w A len) (hB : B ≤ w.heap.size) (hc : len ≤ cap) (hm : cap ≤ maxLen) :
    Calls Tryd.prog 51 #[.slice A len cap] w (DrawnZO w) := by
  have R0 := Blk.new w 36 #[.int .i64 0, .slice none 0 0]
  go_enter Tryd.func51, Tryd.ntmps51
  go_wp2_with fail
  refine (l6Open_any (hs.keep fun p hp => World.cell?_alloc_lt w _ p (by omega)) (by simp; omega) hc hm).mono ?_
  rintro e w1 ⟨g, rfl, hg, hr1, hb1⟩
  have B1 := bto (bal (Below.refl w.heap.size w) (.cells #[.int .i64 0, .slice none 0 0] 36)) hb1
  go_wp2_with fail
  refine (l92Zone_any hr1 (by omega)).mono ?_
  rintro e w2 ⟨o, b, cap', l, y, mo, d, rfl, ho, hl, hbd, hr2, hg2⟩
  have hg' : w.heap.size < g := Nat.lt_of_lt_of_le R0.lt hg
  have B2 := hide (bonly B1 hg2 (Nat.le_of_lt hg'))
  have R2 := hide ((R0.below hb1 R0.lt).grown' hg2 (by omega))
  have hl1 : w.heap.size < w1.heap.size := Nat.lt_of_lt_of_le R0.lt hb1.size
  have hgl1 := hr1.lt
  have hgl2 := hr2.lt
  have hs2 := hg2.size
  have HO := hide ho
  have hcap := own_cap ho
  have hcm : cap' ≤ 9223372036854775807 := hcap.2
  have hlc : l.length ≤ cap' := hcap.1
  have hbb := ho.lt b rfl
  clear R0 hb1 B1 hg2 ho hs hr1 hcap
  go_wp2_with fail
  refine (spec_dayNumber _ _ _ _).mono ?_
  rintro e w3 ⟨rfl, hb3⟩
  have hdn : -1 ≤ dnum y mo d ∧ dnum y mo d ≤ 3652058 := by
    cases hv : vld y mo d with
    | false => rw [dnum_no hv]; omega
    | true => rw [dnum_yes hv]; have := num_bd hv; omega
  generalize dnum y mo d = dn at hdn
  have S3 := hide (show So w w3 B g (0 + 40) w1.heap.size w.heap.size w2.heap.size o b cap' l from
    ⟨((Blk.new w2 36 #[.int .i64 o, .slice (some ⟨b, 0, none⟩) l.length cap']).alloc _).below hb3 (by simp; omega), own_below ((HO.out.alloc _).alloc _) hb3, ((R2.out.alloc _).alloc _).below hb3 (by simp; omega), ((hr2.alloc _).alloc _).below hb3 (by simp; omega), bto (bal (bal B2.out _) _) hb3, Nat.le_refl _, hg', hgl1, by omega⟩)
  clear hb3 hr2 R2 HO B2
  go_wp2_with fail
  refine (pick_any S3.out.T (by omega) (by omega)).mono ?_
  rintro e w4 ⟨v4, a4, b4, rfl, hr4, hg4⟩
  have S4 := hide (S3.out.pick hr4 hg4)
  clear hr4 hg4 S3
  have z4 := S4.out.zc
  obtain ⟨z40, z41⟩ := z4
  by_cases h0 : l.length = 0
  · obtain rfl : l = [] := by cases l; rfl; simp at h0
    clear h0
    go_wp2_with fail
    refine (pick_any S4.out.T (by omega) (by omega)).mono ?_
    rintro e wxa ⟨vxa, axa, bxa, rfl, hrxa, hgxa⟩
    have Sxa := hide (S4.out.pick hrxa hgxa)
    clear hrxa hgxa
    by_cases hxa : vxa = 0
    · subst hxa
      have hzx := Sxa.out.T.lt
      go_wp2_with fail
      refine (pick_any (Sxa.out.T.alloc _) (by omega) (by omega)).mono ?_
      rintro e wxb ⟨vxb, axb, bxb, rfl, hrxb, hgxb⟩
      obtain ⟨z, _, cz⟩ := list2 ((Blk.new wxa _ _).grown' hgxb (by omega)) (v := vxb.toNat) (by omega)
      have Sxb := hide ((Sxa.out.alloc _).pick hrxb hgxb)
      obtain ⟨vn, rfl⟩ := Int.eq_ofNat_of_zero_le axb
      have q1 : (vn : Int) < 2 := bxb
      simp at cz
      clear hrxb hgxb Sxa
      obtain ⟨q0, q1⟩ := Sxb.out.zc
      have rf0 := Sxb.out.R.frozen 0
      have rf1 := Sxb.out.R.frozen 1
      have rc0 := Sxb.out.R.cell 0
      have rc1 := Sxb.out.R.cell 1
      simp at rc0 rc1
      go_wp2_with fail
      have RR := (Sxb.out.R.set_ 0 (.int .i64 o)).set_ 1 (.slice (some ⟨b, 0, none⟩) 0 cap')
      have r0 := RR.cell 0
      have r1 := RR.cell 1
      simp at r0 r1
      refine bodyPost_ret (by simp [results, Tryd.results51, go_sem, r0, r1]; try rfl) rfl ?_
      exact zo_done Sxb.out _ hl hbd rfl
    · have gx : (vxa == 0) = false := beq_eq_false_iff_ne.2 hxa
      obtain ⟨q0, q1⟩ := Sxa.out.zc
      have rf0 := Sxa.out.R.frozen 0
      have rf1 := Sxa.out.R.frozen 1
      have rc0 := Sxa.out.R.cell 0
      have rc1 := Sxa.out.R.cell 1
      simp at rc0 rc1
      go_wp2_with fail
      have RR := (Sxa.out.R.set_ 0 (.int .i64 o)).set_ 1 (.slice (some ⟨b, 0, none⟩) 0 cap')
      have r0 := RR.cell 0
      have r1 := RR.cell 1
      simp at r0 r1
      refine bodyPost_ret (by simp [results, Tryd.results51, go_sem, r0, r1]; try rfl) rfl ?_
      exact zo_done Sxa.out _ hl hbd rfl
  · go_wp2_with fail
    refine (pick_any S4.out.T (by omega) (by omega)).mono ?_
    rintro e w5 ⟨v5, a5, b5, rfl, hr5, hg5⟩
    have S5 := hide (S4.out.pick hr5 hg5)
    clear hr5 hg5 z40 z41 S4
    obtain ⟨z50, z51⟩ := S5.out.zc
    by_cases h5 : v5 = 0
    · subst h5
      go_wp2_with fail
      have S5d := hide S5.out.drew
      go_region_with (first | ((go_at_call 66); (with_reducible refine (pick_any S5d.out.T (by omega) (by omega)).mono ?_); rintro e w6 ⟨v6, a6, b6, rfl, hr6, hg6⟩; have S6 := hide (S5d.out.pick hr6 hg6); obtain ⟨z60, z61⟩ := S6.out.zc; obtain ⟨v6', rfl⟩ := Int.eq_ofNat_of_zero_le a6; have c6 := S6.out.tc (k := v6') (by omega); clear hr6 hg6) | ((go_at_call 66); (with_reducible refine (pick_any S6.out.T (by omega) (by omega)).mono ?_); rintro e w7 ⟨v7, a7, b7, rfl, hr7, hg7⟩; have S7 := hide (S6.out.pick hr7 hg7); obtain ⟨z70, z71⟩ := S7.out.zc; have c7 := S7.out.tc (k := v6') (by omega); clear hr7 hg7))
      all_goals
        go_wp2_with fail
        refine (pick_any S7.out.T (by omega) (by omega)).mono ?_
        rintro e wua ⟨vua, aua, bua, rfl, hrua, hgua⟩
        have Sua := hide (S7.out.pick hrua hgua)
        clear hrua hgua
        by_cases hua : vua = 0
        · subst hua
          have hzu := Sua.out.T.lt
          go_wp2_with fail
          refine (pick_any (Sua.out.T.alloc _) (by omega) (by omega)).mono ?_
          rintro e wub ⟨vub, aub, bub, rfl, hrub, hgub⟩
          obtain ⟨z, _, cz⟩ := list2 ((Blk.new wua _ _).grown' hgub (by omega)) (v := vub.toNat) (by omega)
          have Sub := hide ((Sua.out.alloc _).pick hrub hgub)
          obtain ⟨vn, rfl⟩ := Int.eq_ofNat_of_zero_le aub
          have q1 : (vn : Int) < 2 := bub
          simp at cz
          clear hrub hgub Sua
          obtain ⟨q0, q1⟩ := Sub.out.zc
          have rf0 := Sub.out.R.frozen 0
          have rf1 := Sub.out.R.frozen 1
          have rc0 := Sub.out.R.cell 0
          have rc1 := Sub.out.R.cell 1
          simp at rc0 rc1
          go_wp2_with fail
          have RR := (Sub.out.R.set_ 0 (.int .i64 o)).set_ 1 (.slice (some ⟨b, 0, none⟩) l.length cap')
          have r0 := RR.cell 0
          have r1 := RR.cell 1
          simp at r0 r1
          refine bodyPost_ret (by simp [results, Tryd.results51, go_sem, r0, r1]; try rfl) rfl ?_
          exact zo_done Sub.out _ hl hbd rfl
        · have gu : (vua == 0) = false := beq_eq_false_iff_ne.2 hua
          obtain ⟨q0, q1⟩ := Sua.out.zc
          have rf0 := Sua.out.R.frozen 0
          have rf1 := Sua.out.R.frozen 1
          have rc0 := Sua.out.R.cell 0
          have rc1 := Sua.out.R.cell 1
          simp at rc0 rc1
          go_wp2_with fail
          have RR := (Sua.out.R.set_ 0 (.int .i64 o)).set_ 1 (.slice (some ⟨b, 0, none⟩) l.length cap')
          have r0 := RR.cell 0
          have r1 := RR.cell 1
          simp at r0 r1
          refine bodyPost_ret (by simp [results, Tryd.results51, go_sem, r0, r1]; try rfl) rfl ?_
          exact zo_done Sua.out _ hl hbd rfl
    · have g5 : (v5 == 0) = false := beq_eq_false_iff_ne.2 h5
      go_wp2_with fail
      refine (pick_any S5.out.T (by omega) (by omega)).mono ?_
      rintro e wya ⟨vya, aya, bya, rfl, hrya, hgya⟩
      have Sya := hide (S5.out.pick hrya hgya)
      clear hrya hgya
      by_cases hya : vya = 0
      · subst hya
        have hzy := Sya.out.T.lt
        go_wp2_with fail
        refine (pick_any (Sya.out.T.alloc _) (by omega) (by omega)).mono ?_
        rintro e wyb ⟨vyb, ayb, byb, rfl, hryb, hgyb⟩
        obtain ⟨z, _, cz⟩ := list2 ((Blk.new wya _ _).grown' hgyb (by omega)) (v := vyb.toNat) (by omega)
        have Syb := hide ((Sya.out.alloc _).pick hryb hgyb)
        obtain ⟨vn, rfl⟩ := Int.eq_ofNat_of_zero_le ayb
        have q1 : (vn : Int) < 2 := byb
        simp at cz
        clear hryb hgyb Sya
        obtain ⟨q0, q1⟩ := Syb.out.zc
        have rf0 := Syb.out.R.frozen 0
        have rf1 := Syb.out.R.frozen 1
        have rc0 := Syb.out.R.cell 0
        have rc1 := Syb.out.R.cell 1
        simp at rc0 rc1
        go_wp2_with fail
        have RR := (Syb.out.R.set_ 0 (.int .i64 o)).set_ 1 (.slice (some ⟨b, 0, none⟩) l.length cap')
        have r0 := RR.cell 0
        have r1 := RR.cell 1
        simp at r0 r1
        refine bodyPost_ret (by simp [results, Tryd.results51, go_sem, r0, r1]; try rfl) rfl ?_
        exact zo_done Syb.out _ hl hbd rfl
      · have gy : (vya == 0) = false := beq_eq_false_iff_ne.2 hya
        obtain ⟨q0, q1⟩ := Sya.out.zc
        have rf0 := Sya.out.R.frozen 0
        have rf1 := Sya.out.R.frozen 1
        have rc0 := Sya.out.R.cell 0
        have rc1 := Sya.out.R.cell 1
        simp at rc0 rc1
        go_wp2_with fail
        have RR := (Sya.out.R.set_ 0 (.int .i64 o)).set_ 1 (.slice (some ⟨b, 0, none⟩) l.length cap')
        have r0 := RR.cell 0
        have r1 := RR.cell 1
        simp at r0 r1
        refine bodyPost_ret (by simp [results, Tryd.results51, go_sem, r0, r1]; try rfl) rfl ?_
        exact zo_done Sya.out _ hl hbd rfl

set_option maxHeartbeats 1000000 in
theorem drawZS {B len cap : Nat} {A : Option Addr} {w : World} (hs : Src B w A len) (hB : B ≤ w.heap.size) (hc : len ≤ cap) (hm : cap ≤ maxLen) :
    Calls Tryd.prog 20 #[.slice A len cap] w (DrawnZO w) := by
  have R0 := Blk.new w 36 #[.int .i64 0, .slice none 0 0]
  go_enter Tryd.func20, Tryd.ntmps20
  go_wp2_with fail
  refine (drawZO (hs.keep fun p hp => World.cell?_alloc_lt w _ p (by omega)) (by simp; omega) hc hm).mono ?_
  rintro e w1 ⟨o, b, cap', l, n, rfl, ho, hl, hbd, hb1⟩
  have R1 := R0.below hb1 R0.lt
  have B1 := bto (bal (Below.refl w.heap.size w) (.cells #[.int .i64 0, .slice none 0 0] 36)) hb1
  have rf0 := R1.frozen 0
  have rf1 := R1.frozen 1
  have rc0 := R1.cell 0
  have rc1 := R1.cell 1
  simp at rc0 rc1
  have HO := hide ho
  clear ho
  go_wp2_with fail
  have RR := (R1.set_ 0 (.int .i64 o)).set_ 1 (.slice (some ⟨b, 0, none⟩) l.length cap')
  have r0 := RR.cell 0
  have r1 := RR.cell 1
  simp at r0 r1
  refine bodyPost_ret (by simp [results, Tryd.results20, go_sem, r0, r1]; try rfl) rfl ?_
  exact ⟨o, b, cap', l, n, rfl, own_more (ownsRow_setCell_below (ownsRow_setCell_below HO.out (a := ⟨w.heap.size, 0, none⟩) (by simp) _) (a := ⟨w.heap.size, 1, none⟩) (by simp) _) (by simp), hl, hbd, bset (bset B1 (Nat.le_refl _) _) (Nat.le_refl _) _⟩
end Go.Proofs.YtjdlffkbhaieaaaDoor
