/- The law FnPick returns true. -/
import Derived.Test.YtjdlffkbhaieaaaDoorDrL3
import Derived.Test.YtjdlffkbhaieaaaDoorZi5
import Derived.Test.YtjdlffkbhaieaaaDoorZi6
import Derived.Test.YtjdlffkbhaieaaaDoorShellZ
import Derived.Test.YtjdlffkbhaieaaaDoorShellD
namespace Go.Proofs.YtjdlffkbhaieaaaDoor
open Go.RowKit
attribute [local go_sem] lt_cell

theorem zi_len (o : Int) (l : List R2) (y mo d h mi s ms : Int) : (ziV o l y mo d h mi s ms).length ≤ 2 := by
  cases hz : zdc o l y mo d h mi s ms with
  | false => rw [ziV_no hz]; simp
  | true =>
    obtain ⟨h1, h2, h3⟩ := zdc_in hz
    rw [ziV_yes h1 h2 h3]
    exact (insS_two (zv_of h1) _).1
theorem zp_zi {o : Int} {l : List R2} {y mo d h mi s ms : Int} {later : Bool} {v : Int} (he : zpV o l y mo d h mi s ms later = (v, true)) (hn : 0 < (ziV o l y mo d h mi s ms).length) : v = if later then (ziV o l y mo d h mi s ms).getD ((ziV o l y mo d h mi s ms).length - 1) 0 else (ziV o l y mo d h mi s ms).getD 0 0 := by
  obtain ⟨h1, h2, h3⟩ := zi_in hn
  rw [ziV_yes h1 h2 h3] at hn ⊢
  rw [zpV_yes h1 h2 h3] at he
  have hp := pick_one hn
  have := (Prod.mk.inj he).1
  cases later with
  | true => rw [← this, hp.1]; rfl
  | false => rw [← this, hp.2]; rfl

set_option maxRecDepth 100000 in
set_option maxHeartbeats 4000000 in
theorem w_FnPick (w : World) (hM : MD w) (A : Option Addr) (len cap : Nat) (hs : Src w.heap.size w A len) (hc : len ≤ cap) (hm : cap ≤ maxLen) :
    Calls Tryd.prog 12 #[.slice A len cap] w fun e w' => e = .returned (.bool true) ∧ Below w.heap.size w w' := by
  have hm' := hm
  unfold maxLen at hm'
  by_cases hbig : 1048576 < len
  · go_enter Tryd.func12, Tryd.ntmps12
    go_wp2_with fail
    go_ret
    exact ⟨rfl, Below.refl _ _⟩
  · go_enter Tryd.func12, Tryd.ntmps12
    go_wp2_with fail
    refine (drawZP hs (Nat.le_refl _) hc hm).mono ?_
    rintro e w1 ⟨o, b, cap1, l, y, mo, d, h, mi, s, ms, later, rfl, ho1, hl5, hb1⟩
    have P0 := Prs.own ho1
    have hcap := own_cap ho1
    have hcm : cap1 ≤ 9223372036854775807 := hcap.2
    have hlc : l.length ≤ cap1 := hcap.1
    have hM1 := hM.below hb1
    have X1 := hide (((Blk.new w1 36 #[.int .i64 o, .slice (some ⟨b, 0, none⟩) l.length cap1]).alloc (.cells #[.int .i64 y, .int .i64 mo, .int .i64 d] 27)).alloc (.cells #[.int .i64 h, .int .i64 mi, .int .i64 s, .int .i64 ms] 29))
    have Y1 := hide ((Blk.newE (W := w1.alloc (.cells #[.int .i64 o, .slice (some ⟨b, 0, none⟩) l.length cap1] 36)) (g := w1.heap.size + 1) (t := 27) (cs := #[.int .i64 y, .int .i64 mo, .int .i64 d]) (by simp)).alloc (.cells #[.int .i64 h, .int .i64 mi, .int .i64 s, .int .i64 ms] 29))
    have Z1 := hide (Blk.newE (W := (w1.alloc (.cells #[.int .i64 o, .slice (some ⟨b, 0, none⟩) l.length cap1] 36)).alloc (.cells #[.int .i64 y, .int .i64 mo, .int .i64 d] 27)) (g := w1.heap.size + 1 + 1) (t := 29) (cs := #[.int .i64 h, .int .i64 mi, .int .i64 s, .int .i64 ms]) (by simp))
    have B1 := bal (bal (bal (Below.refl w1.heap.size w1) (.cells #[.int .i64 o, .slice (some ⟨b, 0, none⟩) l.length cap1] 36)) (.cells #[.int .i64 y, .int .i64 mo, .int .i64 d] 27)) (.cells #[.int .i64 h, .int .i64 mi, .int .i64 s, .int .i64 ms] 29)
    have HB := hide hb1
    have PP := hide P0
    have HM1 := hide hM1
    clear ho1 hcap hs hb1 P0 hM1
    obtain ⟨⟨v, ok⟩, ev⟩ : ∃ r, zpV o l y mo d h mi s ms later = r := ⟨_, rfl⟩
    have EV := hide ev
    have g1 : (ok != ok) = false := by simp
    have g2 : (v != v) = false := by simp
    have g3 : (v == v) = true := by simp
    clear ev
    go_wp2_with fail
    refine (impl_zp o y mo d h mi s ms later l _ cap1 w1.heap.size _ _ (HM1.out.below B1) rfl (PP.out.below B1) B1.size hlc hcm).mono ?_
    rintro e w2 ⟨rfl, hb2⟩
    rw [EV.out]
    have X2 := hide (X1.out.below hb2 X1.out.lt)
    have Y2 := hide (Y1.out.below hb2 Y1.out.lt)
    have Z2 := hide (Z1.out.below hb2 Z1.out.lt)
    have B2 := bto B1 hb2
    clear hb2 X1 Y1 Z1
    have x0 := X2.out.cell 0
    have x1 := X2.out.cell 1
    have y0 := Y2.out.cell 0
    have y1 := Y2.out.cell 1
    have y2 := Y2.out.cell 2
    have z0 := Z2.out.cell 0
    have z1 := Z2.out.cell 1
    have z2 := Z2.out.cell 2
    have z3 := Z2.out.cell 3
    simp at x0 x1 y0 y1 y2 z0 z1 z2 z3
    have l2 := Z2.out.lt
    go_wp2_with fail
    refine (spec_zp o y mo d h mi s ms later l _ cap1 w1.heap.size _ _ rfl (PP.out.below B2) B2.size).mono ?_
    rintro e w3 ⟨rfl, hb3⟩
    rw [EV.out]
    clear x0 x1 y0 y1 y2 z0 z1 z2 z3
    have X3 := hide (X2.out.below hb3 X2.out.lt)
    have Y3 := hide (Y2.out.below hb3 Y2.out.lt)
    have Z3 := hide (Z2.out.below hb3 Z2.out.lt)
    have B3 := bto B2 hb3
    clear hb3 X2 Y2 Z2
    have x0 := X3.out.cell 0
    have x1 := X3.out.cell 1
    have y0 := Y3.out.cell 0
    have y1 := Y3.out.cell 1
    have y2 := Y3.out.cell 2
    have z0 := Z3.out.cell 0
    have z1 := Z3.out.cell 1
    have z2 := Z3.out.cell 2
    have z3 := Z3.out.cell 3
    simp at x0 x1 y0 y1 y2 z0 z1 z2 z3
    have l3 := Z3.out.lt
    cases ok with
    | false =>
      clear x0 x1 y0 y1 y2 z0 z1 z2 z3
      go_wp2_with fail
      go_ret
      exact ⟨rfl, bto HB.out B3⟩
    | true =>
      go_wp2_with fail
      refine (impl_zi o y mo d h mi s ms l _ cap1 w1.heap.size _ _ (HM1.out.below B3) rfl (PP.out.below B3) B3.size hlc hcm).mono ?_
      rintro e w4 ⟨A4, c4, rfl, i4, hn4, hc4, hb4⟩
      obtain ⟨L, eL⟩ : ∃ L, L = ziV o l y mo d h mi s ms := ⟨_, rfl⟩
      have hl2 := zi_len o l y mo d h mi s ms
      have hpk := hide (fun hn => zp_zi (o := o) (l := l) (y := y) (mo := mo) (d := d) (h := h) (mi := mi) (s := s) (ms := ms) EV.out hn)
      rw [← eL] at i4 hn4 hl2 hpk ⊢
      have B4 := bto B3 hb4
      have HI4 := hide i4
      clear eL EV i4 x0 x1 y0 y1 y2 z0 z1 z2 z3
      by_cases h0 : L.length = 0
      · have h0' : L = [] := List.eq_nil_of_length_eq_zero h0
        subst h0'
        clear HI4 hpk
        go_wp2_with fail
        go_ret
        exact ⟨rfl, bto HB.out B4⟩
      · have hv := hpk.out (by omega)
        rcases HI4.out.view with h0' | ⟨g, rfl, _, hg, hcc⟩
        · exact absurd h0' h0
        have c0 := hcc 0 (by omega)
        have c1 := hcc (L.length - 1) (by omega)
        have hlp : 0 < L.length := by omega
        obtain ⟨n, en⟩ : ∃ n, n = L.length := ⟨_, rfl⟩
        rw [← en] at c1 hv hlp hl2 hn4 ⊢
        have g0 : ((n : Int) == 0) = false := by simp; omega
        have e1 : IntKind.i64.wrap ((n : Int) - 1) = (n : Int) - 1 := IntWalk.i64_in _ (by omega)
        have e2 : ((n : Int) - 1).toNat = n - 1 := by omega
        have e3 : (0 : Int) ≤ (n : Int) - 1 := by omega
        have e4 : (n : Int) - 1 < (n : Int) := by omega
        have e5 : (0 : Int) < (n : Int) := by omega
        have e6 : ¬ n = 0 := by omega
        clear h0 hcc HI4 hpk en
        cases later with
        | true =>
          simp only [if_true] at hv
          rw [← hv] at c1
          clear hv c0
          go_wp2_with fail
          go_ret
          exact ⟨rfl, bto HB.out B4⟩
        | false =>
          simp only [Bool.false_eq_true, if_false] at hv
          rw [← hv] at c0
          clear hv c1
          go_wp2_with fail
          go_ret
          exact ⟨rfl, bto HB.out B4⟩
end Go.Proofs.YtjdlffkbhaieaaaDoor
