/- The law FnZoneOffset returns true. -/
import Derived.Test.YtjdlffkbhaieaaaDrZ
import Derived.Test.YtjdlffkbhaieaaaZn8
import Derived.Test.YtjdlffkbhaieaaaShellZ
namespace Go.Proofs.Ytjdlffkbhaieaaa
open Go.RowKit
attribute [local go_sem] lt_cell

/-- A drawn zone and an instant. -/
def DrawnZO (w : World) (e : Ending) (w' : World) : Prop :=
  ∃ (o : Int) (b cap : Nat) (l : List R2) (n : Int), e = .returned (.tuple #[.agg #[.int .i64 o, .slice (some ⟨b, 0, none⟩) l.length cap], .int .i64 n]) ∧ w'.ownsRow w.heap.size 37 2 (.slice (some ⟨b, 0, none⟩) l.length cap) l.length (flatP l) ∧ l.length ≤ 5 ∧ Bd 1000000000000000 l ∧ Below w.heap.size w w'

/-- What stands while an instant is drawn. -/
structure So (w0 w : World) (B g m base zr zb : Nat) (o : Int) (b cap : Nat) (l : List R2) : Prop where
  Z : Blk w zb 29 #[.int .i64 o, .slice (some ⟨b, 0, none⟩) l.length cap]
  O : w.ownsRow base 37 2 (.slice (some ⟨b, 0, none⟩) l.length cap) l.length (flatP l)
  R : Blk w zr 29 #[.int .i64 0, .slice none 0 0]
  T : Rd B w g m
  G : Below w0.heap.size w0 w
  h0 : w0.heap.size ≤ zr
  h1 : zr < g
  h2 : g < base
  h3 : base ≤ zb
section
variable {w0 w w' : World} {B g m base zr zb : Nat} {o : Int} {b cap : Nat} {l : List R2}
theorem So.drew (h : So w0 w B g m base zr zb o b cap l) : So w0 w.drew B g m base zr zb o b cap l := ⟨h.Z, h.O, h.R, h.T, bdrew h.G, h.h0, h.h1, h.h2, h.h3⟩
theorem So.alloc (h : So w0 w B g m base zr zb o b cap l) (x : Obj) : So w0 (w.alloc x) B g m base zr zb o b cap l := ⟨h.Z.alloc x, h.O.alloc x, h.R.alloc x, h.T.alloc x, bal h.G x, h.h0, h.h1, h.h2, h.h3⟩
theorem So.below (h : So w0 w B g m base zr zb o b cap l) (hb : Below w.heap.size w w') : So w0 w' B g m base zr zb o b cap l :=
  ⟨h.Z.below hb h.Z.lt, own_below h.O hb, h.R.below hb h.R.lt, h.T.below hb h.T.lt, bto h.G hb, h.h0, h.h1, h.h2, h.h3⟩
theorem So.pick (h : So w0 w B g m base zr zb o b cap l) {m' : Nat} (hr : Rd B w' g m') (hg : w.grownBy w' (some g)) : So w0 w' B g m' base zr zb o b cap l :=
  have a0 := h.h0; have a1 := h.h1; have a2 := h.h2; have a3 := h.h3
  ⟨h.Z.grown' hg (by omega), own_rd h.O hg h.h2, h.R.grown' hg (by omega), hr, bonly h.G hg (by omega), h.h0, h.h1, h.h2, h.h3⟩
theorem So.zc (h : So w0 w B g m base zr zb o b cap l) : w.cell? ⟨zb, 0, none⟩ = some (.int .i64 o) ∧ w.cell? ⟨zb, 1, none⟩ = some (.slice (some ⟨b, 0, none⟩) l.length cap) := ⟨h.Z.cell 0, h.Z.cell 1⟩
theorem So.tc (h : So w0 w B g m base zr zb o b cap l) {k : Nat} (hk : k < l.length) : w.cell? ⟨b, k * 2, none⟩ = some (.int .i64 (l.getD k (0, 0)).1) := by
  have := h.O.cellAt (k * 2) (by omega)
  rw [(flatP_get l k hk).1] at this
  exact this
theorem zo_done {e : Ending} (h : So w0 w B g m base w0.heap.size zb o b cap l) (n : Int) (h5 : l.length ≤ 5) (hb : Bd 1000000000000000 l)
    (he : e = .returned (.tuple #[.agg #[.int .i64 o, .slice (some ⟨b, 0, none⟩) l.length cap], .int .i64 n])) : DrawnZO w0 e ((w.setCell ⟨w0.heap.size, 0, none⟩ (.int .i64 o)).setCell ⟨w0.heap.size, 1, none⟩ (.slice (some ⟨b, 0, none⟩) l.length cap)) :=
  have a1 := h.h1; have a2 := h.h2
  ⟨o, b, cap, l, n, he, own_more (ownsRow_setCell_below (ownsRow_setCell_below h.O (a := ⟨w0.heap.size, 0, none⟩) (by show w0.heap.size < base; omega) _) (a := ⟨w0.heap.size, 1, none⟩) (by show w0.heap.size < base; omega) _) (by omega), h5, hb, bset (bset h.G (Nat.le_refl _) _) (Nat.le_refl _) _⟩
end

set_option maxRecDepth 100000 in
set_option maxHeartbeats 4000000 in
theorem drawZO {B len cap : Nat} {A : Option Addr} {w : World} (hs : Src B w A len) (hB : B ≤ w.heap.size) (hc : len ≤ cap) (hm : cap ≤ maxLen) :
    Calls Try.prog 16 #[.slice A len cap] w (DrawnZO w) := by
  have R0 := Blk.new w 29 #[.int .i64 0, .slice none 0 0]
  go_enter Try.func16, Try.ntmps16
  go_wp2_with fail
  refine (l6Open_any (hs.keep fun p hp => World.cell?_alloc_lt w _ p (by omega)) (by simp; omega) hc hm).mono ?_
  rintro e w1 ⟨g, rfl, hg, hr1, hb1⟩
  have B1 := bto (bal (Below.refl w.heap.size w) (.cells #[.int .i64 0, .slice none 0 0] 29)) hb1
  go_wp2_with fail
  refine (l92Zone_any hr1 (by omega)).mono ?_
  rintro e w2 ⟨o, b, cap', l, y, mo, d, rfl, ho, hl, hbd, hr2, hg2⟩
  have hg' : w.heap.size < g := Nat.lt_of_lt_of_le R0.lt hg
  have B2 := hide (bonly B1 hg2 (Nat.le_of_lt hg'))
  have R2 := hide ((R0.below hb1 R0.lt).grown' hg2 (by omega))
  have hl1 : w.heap.size < w1.heap.size := Nat.lt_of_lt_of_le R0.lt hb1.size
  have hgl1 := hr1.lt
  have hgl2 := hr2.lt
  have hs2 := hg2.size
  have HO := hide ho
  have hcap := own_cap ho
  have hcm : cap' ≤ 9223372036854775807 := hcap.2
  have hlc : l.length ≤ cap' := hcap.1
  have hbb := ho.lt b rfl
  clear R0 hb1 B1 hg2 ho hs hr1 hcap
  go_wp2_with fail
  refine (spec_dayNumber _ _ _ _).mono ?_
  rintro e w3 ⟨rfl, hb3⟩
  have hdn : -1 ≤ dnum y mo d ∧ dnum y mo d ≤ 3652058 := by
    cases hv : vld y mo d with
    | false => rw [dnum_no hv]; omega
    | true => rw [dnum_yes hv]; have := num_bd hv; omega
  generalize dnum y mo d = dn at hdn
  have S3 := hide (show So w w3 B g (0 + 40) w1.heap.size w.heap.size w2.heap.size o b cap' l from
    ⟨((Blk.new w2 29 #[.int .i64 o, .slice (some ⟨b, 0, none⟩) l.length cap']).alloc _).below hb3 (by simp; omega), own_below ((HO.out.alloc _).alloc _) hb3, ((R2.out.alloc _).alloc _).below hb3 (by simp; omega), ((hr2.alloc _).alloc _).below hb3 (by simp; omega), bto (bal (bal B2.out _) _) hb3, Nat.le_refl _, hg', hgl1, by omega⟩)
  clear hb3 hr2 R2 HO B2
  go_wp2_with fail
  refine (pick_any S3.out.T (by omega) (by omega)).mono ?_
  rintro e w4 ⟨v4, a4, b4, rfl, hr4, hg4⟩
  have S4 := hide (S3.out.pick hr4 hg4)
  clear hr4 hg4 S3
  have z4 := S4.out.zc
  obtain ⟨z40, z41⟩ := z4
  by_cases h0 : l.length = 0
  · obtain rfl : l = [] := by cases l; rfl; simp at h0
    clear h0
    go_wp2_with fail
    refine (pick_any S4.out.T (by omega) (by omega)).mono ?_
    rintro e wxa ⟨vxa, axa, bxa, rfl, hrxa, hgxa⟩
    have Sxa := hide (S4.out.pick hrxa hgxa)
    clear hrxa hgxa
    by_cases hxa : vxa = 0
    · subst hxa
      have hzx := Sxa.out.T.lt
      go_wp2_with fail
      refine (pick_any (Sxa.out.T.alloc _) (by omega) (by omega)).mono ?_
      rintro e wxb ⟨vxb, axb, bxb, rfl, hrxb, hgxb⟩
      obtain ⟨z, _, cz⟩ := list2 ((Blk.new wxa _ _).grown' hgxb (by omega)) (v := vxb.toNat) (by omega)
      have Sxb := hide ((Sxa.out.alloc _).pick hrxb hgxb)
      obtain ⟨vn, rfl⟩ := Int.eq_ofNat_of_zero_le axb
      have q1 : (vn : Int) < 2 := bxb
      simp at cz
      clear hrxb hgxb Sxa
      obtain ⟨q0, q1⟩ := Sxb.out.zc
      have rf0 := Sxb.out.R.frozen 0
      have rf1 := Sxb.out.R.frozen 1
      have rc0 := Sxb.out.R.cell 0
      have rc1 := Sxb.out.R.cell 1
      simp at rc0 rc1
      go_wp2_with fail
      have RR := (Sxb.out.R.set_ 0 (.int .i64 o)).set_ 1 (.slice (some ⟨b, 0, none⟩) 0 cap')
      have r0 := RR.cell 0
      have r1 := RR.cell 1
      simp at r0 r1
      refine bodyPost_ret (by simp [results, Try.results16, go_sem, r0, r1]; try rfl) rfl ?_
      exact zo_done Sxb.out _ hl hbd rfl
    · have gx : (vxa == 0) = false := beq_eq_false_iff_ne.2 hxa
      obtain ⟨q0, q1⟩ := Sxa.out.zc
      have rf0 := Sxa.out.R.frozen 0
      have rf1 := Sxa.out.R.frozen 1
      have rc0 := Sxa.out.R.cell 0
      have rc1 := Sxa.out.R.cell 1
      simp at rc0 rc1
      go_wp2_with fail
      have RR := (Sxa.out.R.set_ 0 (.int .i64 o)).set_ 1 (.slice (some ⟨b, 0, none⟩) 0 cap')
      have r0 := RR.cell 0
      have r1 := RR.cell 1
      simp at r0 r1
      refine bodyPost_ret (by simp [results, Try.results16, go_sem, r0, r1]; try rfl) rfl ?_
      exact zo_done Sxa.out _ hl hbd rfl
  · go_wp2_with fail
    refine (pick_any S4.out.T (by omega) (by omega)).mono ?_
    rintro e w5 ⟨v5, a5, b5, rfl, hr5, hg5⟩
    have S5 := hide (S4.out.pick hr5 hg5)
    clear hr5 hg5 z40 z41 S4
    obtain ⟨z50, z51⟩ := S5.out.zc
    by_cases h5 : v5 = 0
    · subst h5
      go_wp2_with fail
      have S5d := hide S5.out.drew
      go_region_with (first | ((go_at_call 29); (with_reducible refine (pick_any S5d.out.T (by omega) (by omega)).mono ?_); rintro e w6 ⟨v6, a6, b6, rfl, hr6, hg6⟩; have S6 := hide (S5d.out.pick hr6 hg6); obtain ⟨z60, z61⟩ := S6.out.zc; obtain ⟨v6', rfl⟩ := Int.eq_ofNat_of_zero_le a6; have c6 := S6.out.tc (k := v6') (by omega); clear hr6 hg6) | ((go_at_call 29); (with_reducible refine (pick_any S6.out.T (by omega) (by omega)).mono ?_); rintro e w7 ⟨v7, a7, b7, rfl, hr7, hg7⟩; have S7 := hide (S6.out.pick hr7 hg7); obtain ⟨z70, z71⟩ := S7.out.zc; have c7 := S7.out.tc (k := v6') (by omega); clear hr7 hg7))
      all_goals
        go_wp2_with fail
        refine (pick_any S7.out.T (by omega) (by omega)).mono ?_
        rintro e wua ⟨vua, aua, bua, rfl, hrua, hgua⟩
        have Sua := hide (S7.out.pick hrua hgua)
        clear hrua hgua
        by_cases hua : vua = 0
        · subst hua
          have hzu := Sua.out.T.lt
          go_wp2_with fail
          refine (pick_any (Sua.out.T.alloc _) (by omega) (by omega)).mono ?_
          rintro e wub ⟨vub, aub, bub, rfl, hrub, hgub⟩
          obtain ⟨z, _, cz⟩ := list2 ((Blk.new wua _ _).grown' hgub (by omega)) (v := vub.toNat) (by omega)
          have Sub := hide ((Sua.out.alloc _).pick hrub hgub)
          obtain ⟨vn, rfl⟩ := Int.eq_ofNat_of_zero_le aub
          have q1 : (vn : Int) < 2 := bub
          simp at cz
          clear hrub hgub Sua
          obtain ⟨q0, q1⟩ := Sub.out.zc
          have rf0 := Sub.out.R.frozen 0
          have rf1 := Sub.out.R.frozen 1
          have rc0 := Sub.out.R.cell 0
          have rc1 := Sub.out.R.cell 1
          simp at rc0 rc1
          go_wp2_with fail
          have RR := (Sub.out.R.set_ 0 (.int .i64 o)).set_ 1 (.slice (some ⟨b, 0, none⟩) l.length cap')
          have r0 := RR.cell 0
          have r1 := RR.cell 1
          simp at r0 r1
          refine bodyPost_ret (by simp [results, Try.results16, go_sem, r0, r1]; try rfl) rfl ?_
          exact zo_done Sub.out _ hl hbd rfl
        · have gu : (vua == 0) = false := beq_eq_false_iff_ne.2 hua
          obtain ⟨q0, q1⟩ := Sua.out.zc
          have rf0 := Sua.out.R.frozen 0
          have rf1 := Sua.out.R.frozen 1
          have rc0 := Sua.out.R.cell 0
          have rc1 := Sua.out.R.cell 1
          simp at rc0 rc1
          go_wp2_with fail
          have RR := (Sua.out.R.set_ 0 (.int .i64 o)).set_ 1 (.slice (some ⟨b, 0, none⟩) l.length cap')
          have r0 := RR.cell 0
          have r1 := RR.cell 1
          simp at r0 r1
          refine bodyPost_ret (by simp [results, Try.results16, go_sem, r0, r1]; try rfl) rfl ?_
          exact zo_done Sua.out _ hl hbd rfl
    · have g5 : (v5 == 0) = false := beq_eq_false_iff_ne.2 h5
      go_wp2_with fail
      refine (pick_any S5.out.T (by omega) (by omega)).mono ?_
      rintro e wya ⟨vya, aya, bya, rfl, hrya, hgya⟩
      have Sya := hide (S5.out.pick hrya hgya)
      clear hrya hgya
      by_cases hya : vya = 0
      · subst hya
        have hzy := Sya.out.T.lt
        go_wp2_with fail
        refine (pick_any (Sya.out.T.alloc _) (by omega) (by omega)).mono ?_
        rintro e wyb ⟨vyb, ayb, byb, rfl, hryb, hgyb⟩
        obtain ⟨z, _, cz⟩ := list2 ((Blk.new wya _ _).grown' hgyb (by omega)) (v := vyb.toNat) (by omega)
        have Syb := hide ((Sya.out.alloc _).pick hryb hgyb)
        obtain ⟨vn, rfl⟩ := Int.eq_ofNat_of_zero_le ayb
        have q1 : (vn : Int) < 2 := byb
        simp at cz
        clear hryb hgyb Sya
        obtain ⟨q0, q1⟩ := Syb.out.zc
        have rf0 := Syb.out.R.frozen 0
        have rf1 := Syb.out.R.frozen 1
        have rc0 := Syb.out.R.cell 0
        have rc1 := Syb.out.R.cell 1
        simp at rc0 rc1
        go_wp2_with fail
        have RR := (Syb.out.R.set_ 0 (.int .i64 o)).set_ 1 (.slice (some ⟨b, 0, none⟩) l.length cap')
        have r0 := RR.cell 0
        have r1 := RR.cell 1
        simp at r0 r1
        refine bodyPost_ret (by simp [results, Try.results16, go_sem, r0, r1]; try rfl) rfl ?_
        exact zo_done Syb.out _ hl hbd rfl
      · have gy : (vya == 0) = false := beq_eq_false_iff_ne.2 hya
        obtain ⟨q0, q1⟩ := Sya.out.zc
        have rf0 := Sya.out.R.frozen 0
        have rf1 := Sya.out.R.frozen 1
        have rc0 := Sya.out.R.cell 0
        have rc1 := Sya.out.R.cell 1
        simp at rc0 rc1
        go_wp2_with fail
        have RR := (Sya.out.R.set_ 0 (.int .i64 o)).set_ 1 (.slice (some ⟨b, 0, none⟩) l.length cap')
        have r0 := RR.cell 0
        have r1 := RR.cell 1
        simp at r0 r1
        refine bodyPost_ret (by simp [results, Try.results16, go_sem, r0, r1]; try rfl) rfl ?_
        exact zo_done Sya.out _ hl hbd rfl

theorem offAt_take {o : Int} {l : List R2} {t : Int} (hu : Up l) {k : Nat} {x y : Int} (hk : k < l.length) (e : l.getD k (0, 0) = (x, y)) : offAt o (l.take (k + 1)) t = if x ≤ t then y else offAt o (l.take k) t := by
  have ex : l[k] = (x, y) := by simpa [List.getD, hk] using e
  have e1 : l.take (k + 1) = l.take k ++ (x, y) :: [] := by rw [List.take_succ_eq_append_getElem hk, ex]
  have hu' : Up (l.take k ++ (x, y) :: []) := by rw [← e1]; exact List.Pairwise.sublist (List.take_sublist _ _) hu
  rw [e1, offAt_mid (x, y) [] hu']
  rfl

set_option maxHeartbeats 2000000 in
theorem w_FnZoneOffset (w : World) (A : Option Addr) (len cap : Nat) (hs : Src w.heap.size w A len) (hc : len ≤ cap) (hm : cap ≤ maxLen) :
    Calls Try.prog 7 #[.slice A len cap] w fun e w' => e = .returned (.bool true) ∧ Below w.heap.size w w' := by
  have hm' := hm
  unfold maxLen at hm'
  by_cases hbig : 1048576 < len
  · go_enter Try.func7, Try.ntmps7
    go_wp2_with fail
    go_ret
    exact ⟨rfl, Below.refl _ _⟩
  · go_enter Try.func7, Try.ntmps7
    go_wp2_with fail
    refine (drawZO hs (Nat.le_refl _) hc hm).mono ?_
    rintro e w1 ⟨o, b, cap1, l, n, rfl, ho1, hl5, hbd, hb1⟩
    have P1 := hide (Prs.own ho1)
    have O1 := hide ho1
    have hcap := own_cap ho1
    have hcm : cap1 ≤ 9223372036854775807 := hcap.2
    have hlc : l.length ≤ cap1 := hcap.1
    have hbl := (ho1.lt b rfl).2
    clear ho1 hbd hcap hs
    go_wp2_with fail
    refine (impl_zo o n l _ _ _ _ _ rfl (P1.out.alloc (Nat.le_refl _) _) (by simp) hlc hcm).mono ?_
    rintro e w2 ⟨rfl, hb2⟩
    have Z2 : Blk w2 w1.heap.size 29 #[.int .i64 o, .slice (some ⟨b, 0, none⟩) l.length cap1] := (Blk.new w1 _ _).below hb2 (by simp)
    have H2 := bto (bal (Below.refl w1.heap.size w1) (.cells #[.int .i64 o, .slice (some ⟨b, 0, none⟩) l.length cap1] 29)) hb2
    have c20 := Z2.cell 0
    have c21 := Z2.cell 1
    have hz2' := Z2.lt
    simp at c20 c21
    go_wp2_with fail
    refine (spec_zo o n l _ _ _ _ _ rfl (P1.out.below H2) (Nat.le_of_lt hz2') (by omega)).mono ?_
    rintro e w3 ⟨rfl, hb3⟩
    have Z3 := hide (Z2.below hb3 hz2')
    have H3 := bto H2 hb3
    have c30 := Z3.out.cell 0
    have c31 := Z3.out.cell 1
    have hz3 := Z3.out.lt
    have P3 := hide (P1.out.below H3)
    have F3 := bto hb1 H3
    simp at c30 c31
    clear Z2 H2 H3 hb2 hb3 c20 c21 hz2'
    cases hv : zvB o l with
    | false =>
      rw [zoV_no1 hv]
      go_wp2_with fail
      go_ret
      exact ⟨rfl, F3⟩
    | true =>
      cases hn : insB n with
      | false =>
        rw [zoV_no2 hn]
        go_wp2_with fail
        go_ret
        exact ⟨rfl, F3⟩
      | true =>
        rw [zoV_yes hv hn]
        have HUp := hide (up_of (zv_of hv))
        have VC := hide P3.out.view
        have hbw : b < w3.heap.size := by have := P3.out; omega
        have HR := hide (show offAt o (l.take l.length) n = offAt o l n by rw [List.take_length])
        generalize offAt o l n = r at HR
        go_wp2_with fail
        go_loopw [9, 10] (fun u i wr => ∃ (k : Nat), k ≤ l.length ∧ i = .int .i64 k ∧ u = .int .i64 (offAt o (l.take k) n) ∧ w3 = wr) (fun _ i _ => l.length - (intOf i).toNat)
        case atStart => exact ⟨0, by omega, rfl, rfl, rfl⟩
        case round =>
          obtain ⟨k, hk, rfl, rfl, rfl⟩ := hrel
          by_cases hlt : k < l.length
          · obtain ⟨x, y, hxy⟩ := pair_ex l k
            obtain ⟨d0, d1⟩ : w3.cell? ⟨b, 0 + k * 2, none⟩ = some (.int .i64 x) ∧ w3.cell? ⟨b, 0 + k * 2 + 1, none⟩ = some (.int .i64 y) := by
              rcases VC.out with h0 | ⟨b', o', e, _, hcs⟩
              · omega
              · cases e
                have := hcs k hlt
                rwa [hxy] at this
            have HY := hide (offAt_take (o := o) (t := n) HUp.out hlt hxy)
            simp at d0 d1
            clear hxy
            by_cases hxn : x ≤ n
            · rw [if_pos hxn] at HY
              go_wp2_with fail
              go_roundw
              case rel => exact ⟨k + 1, by omega, by go_num, by rw [HY.out], trivial⟩
              case measure => simp [intOf]; omega
            · rw [if_neg hxn] at HY
              go_wp2_with fail
              go_roundw
              case rel => exact ⟨k + 1, by omega, by go_num, by rw [HY.out], trivial⟩
              case measure => simp [intOf]; omega
          · obtain rfl : k = l.length := by omega
            rw [HR.out]
            go_wp2_with fail
            go_ret
            exact ⟨ret_bool (by simp), F3⟩
end Go.Proofs.Ytjdlffkbhaieaaa
