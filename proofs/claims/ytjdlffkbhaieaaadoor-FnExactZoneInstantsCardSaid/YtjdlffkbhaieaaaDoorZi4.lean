/- Contracts: ZoneInstants (the program's and the reference's). -/
import Derived.Test.YtjdlffkbhaieaaaDoorZi3
import Derived.Test.YtjdlffkbhaieaaaDoorZn2
import Derived.Test.YtjdlffkbhaieaaaDoorSt3
namespace Go.Proofs.YtjdlffkbhaieaaaDoor
open Go.RowKit
attribute [local go_sem] lt_cell

/-- The local time of a date and a time. -/
def locOf (y mo d h mi s ms : Int) : Int := num y mo d * 86400000 + cms h mi s ms
theorem locOf_bd {y mo d h mi s ms : Int} (hv : vld y mo d = true) (hc : cvB h mi s ms = true) : 0 ≤ locOf y mo d h mi s ms ∧ locOf y mo d h mi s ms ≤ 315537984000000 := by
  have h1 := num_bd hv
  have h2 := cvB_bd hc
  unfold locOf
  omega
theorem l22Local_any (y mo d h mi s ms : Int) (w : World) (hv : vld y mo d = true) (hcv : cvB h mi s ms = true) :
    Calls Tryd.prog 61 #[.agg #[.int .i64 y, .int .i64 mo, .int .i64 d], .agg #[.int .i64 h, .int .i64 mi, .int .i64 s, .int .i64 ms]] w fun e w' => e = .returned (.int .i64 (locOf y mo d h mi s ms)) ∧ Below w.heap.size w w' := by
  have hn := num_bd hv
  have hc := cvB_bd hcv
  obtain ⟨n, en⟩ : ∃ n, n = num y mo d := ⟨_, rfl⟩
  obtain ⟨c, ec⟩ : ∃ c, c = cms h mi s ms := ⟨_, rfl⟩
  have hD : ∀ W : World, Calls Tryd.prog 77 #[.agg #[.int .i64 y, .int .i64 mo, .int .i64 d]] W fun e w' => e = .returned (.int .i64 n) ∧ Below W.heap.size W w' := fun W => by
    rw [en, ← dnum_yes hv]; exact spec_dayNumber y mo d W
  have hC : ∀ W : World, Calls Tryd.prog 84 #[.agg #[.int .i64 h, .int .i64 mi, .int .i64 s, .int .i64 ms]] W fun e w' => e = .returned (.int .i64 c) ∧ Below W.heap.size W w' := fun W => by
    have := spec_cm h mi s ms W
    rw [show cmV h mi s ms = c by unfold cmV; rw [hcv, ec]; rfl] at this
    exact this
  have HI := hide (show n * 86400000 + c = locOf y mo d h mi s ms by rw [en, ec]; rfl)
  rw [← en] at hn
  obtain ⟨_, _, _, _, _, _, _, _, hc0, hc1⟩ := hc
  rw [← ec] at hc0 hc1
  clear en ec hv hcv
  have e1 : IntKind.i64.wrap (n * 86400000) = n * 86400000 := IntWalk.i64_in _ (by omega)
  have e2 : IntKind.i64.wrap (n * 86400000 + c) = n * 86400000 + c := IntWalk.i64_in _ (by omega)
  have B0 := bal (bal (Below.refl w.heap.size w) (.cells #[.int .i64 y, .int .i64 mo, .int .i64 d] 27)) (.cells #[.int .i64 h, .int .i64 mi, .int .i64 s, .int .i64 ms] 29)
  go_enter Tryd.func61, Tryd.ntmps61
  go_wp2_with fail
  refine region_below (by kernel_rfl) (by kernel_rfl) ?_
  repeat (go_big_quiet_step (first | (go_at_call 77; exact lt_call (hD _)) | (go_at_call 84; exact lt_call (hC _))))
  refine wpQuiet_nil ?_
  rintro wq ⟨⟨_, hq⟩, rfl⟩
  go_wp2
  go_ret
  exact ⟨ret_int (by first | exact HI.out | (rw [e1, e2]; exact HI.out)), bto B0 hq⟩

/-- All three are valid. -/
def zdc (o : Int) (l : List R2) (y mo d h mi s ms : Int) : Bool := zvB o l && (vld y mo d && cvB h mi s ms)
def ziV (o : Int) (l : List R2) (y mo d h mi s ms : Int) : List Int := if zdc o l y mo d h mi s ms then insS o l (locOf y mo d h mi s ms) (l.length + 1) else []
theorem ziV_no {o : Int} {l : List R2} {y mo d h mi s ms : Int} (hz : zdc o l y mo d h mi s ms = false) : ziV o l y mo d h mi s ms = [] := by unfold ziV; rw [hz]; rfl
theorem ziV_yes {o : Int} {l : List R2} {y mo d h mi s ms : Int} (h1 : zvB o l = true) (h2 : vld y mo d = true) (h3 : cvB h mi s ms = true) : ziV o l y mo d h mi s ms = insS o l (locOf y mo d h mi s ms) (l.length + 1) := by unfold ziV zdc; rw [h1, h2, h3]; rfl
theorem zdc_in {o : Int} {l : List R2} {y mo d h mi s ms : Int} (hz : zdc o l y mo d h mi s ms = true) : zvB o l = true ∧ vld y mo d = true ∧ cvB h mi s ms = true := by
  unfold zdc at hz
  simp only [Bool.and_eq_true] at hz
  exact hz

/-- A slice of numbers that can be read: its block, where it has elements, lies from lo on. -/
def IRow (w : World) (lo : Nat) (A : Option Addr) (l : List Int) : Prop := l.length = 0 ∨ ∃ (g : Nat) (t : TypeId) (cs : Array Value), A = some ⟨g, 0, none⟩ ∧ lo ≤ g ∧ Blk w g t cs ∧ ∀ i, i < l.length → cs[i]? = some (.int .i64 (l.getD i 0))
section
variable {w w' : World} {lo : Nat} {A : Option Addr} {l : List Int}
theorem IRow.below (h : IRow w lo A l) (hb : Below w.heap.size w w') : IRow w' lo A l := h.imp id fun ⟨g, t, cs, h1, h2, h3, h4⟩ => ⟨g, t, cs, h1, h2, h3.below hb h3.lt, h4⟩
theorem IRow.alloc (h : IRow w lo A l) (x : Obj) : IRow (w.alloc x) lo A l := h.imp id fun ⟨g, t, cs, h1, h2, h3, h4⟩ => ⟨g, t, cs, h1, h2, h3.alloc x, h4⟩
theorem IRow.drew (h : IRow w lo A l) : IRow w.drew lo A l := h
theorem IRow.more (h : IRow w lo A l) {lo' : Nat} (hl : lo' ≤ lo) : IRow w lo' A l := h.imp id fun ⟨g, t, cs, h1, h2, h3, h4⟩ => ⟨g, t, cs, h1, Nat.le_trans hl h2, h3, h4⟩
theorem IRow.own {base n cap : Nat} (h : w.ownsRow base 3 1 (.slice A n cap) n (flatI l)) : IRow w base A l ∧ l.length = n ∧ n ≤ cap ∧ cap ≤ maxLen := by
  have hl : l.length = n := by have := h.1; rw [flatI_len] at this; omega
  rcases h.2 with ⟨e, e2⟩ | ⟨g, cap', cur, e, hb, hg, h1, h2, h3, h4⟩
  · simp at e
    obtain ⟨rfl, rfl, rfl⟩ := e
    exact ⟨.inl hl, hl, Nat.le_refl _, by simp [maxLen]⟩
  · simp only [Value.slice.injEq] at e
    obtain ⟨rfl, _, rfl⟩ := e
    refine ⟨.inr ⟨g, _, cur, rfl, hb, hg, fun i hi => ?_⟩, hl, h1, h2⟩
    have e1 : (cur.toList.take (n * 1))[i]? = (flatI l)[i]? := by rw [h4]
    rw [List.getElem?_take, if_pos (by omega), Array.getElem?_toList, flatI_get l i hi] at e1
    exact e1
end
/-- A slice of numbers, made by the call. -/
def MadeJ (l : List Int) (w : World) (e : Ending) (w' : World) : Prop :=
  ∃ (A : Option Addr) (cap : Nat), e = .returned (.slice A l.length cap) ∧ IRow w' w.heap.size A l ∧ l.length ≤ cap ∧ cap ≤ maxLen ∧ Below w.heap.size w w'
theorem MadeI.j {l : List Int} {w w' : World} {e : Ending} (h : MadeI l w e w') : MadeJ l w e w' := by
  obtain ⟨g, cap, h1, h2, h3⟩ := h
  obtain ⟨k1, k2, k3, k4⟩ := IRow.own h2
  exact ⟨_, cap, h1, k1, k3, k4, h3⟩
theorem clip_any (A : Option Addr) (n cap : Nat) (w : World) (hc : n ≤ cap) (_hm : cap ≤ 9223372036854775807) :
    Calls Tryd.prog 58 #[.slice A n cap] w fun e w' => e = .returned (.slice A n n) ∧ w = w' := by
  have h1 : (n : Int) ≤ cap := by omega
  go_enter Tryd.func58, Tryd.ntmps58
  go_wp2
  go_ret
  exact ⟨rfl, rfl⟩

theorem c9 {W : World} {a b c : Nat} {t1 t2 t3 : TypeId} {v0 v1 v2 v3 v4 v5 v6 v7 v8 : Value} (X : Blk W a t1 #[v0, v1]) (Y : Blk W b t2 #[v2, v3, v4]) (Z : Blk W c t3 #[v5, v6, v7, v8]) :
    W.cell? ⟨a, 0, none⟩ = some v0 ∧ W.cell? ⟨a, 1, none⟩ = some v1 ∧ W.cell? ⟨b, 0, none⟩ = some v2 ∧ W.cell? ⟨b, 1, none⟩ = some v3 ∧ W.cell? ⟨b, 2, none⟩ = some v4 ∧ W.cell? ⟨c, 0, none⟩ = some v5 ∧ W.cell? ⟨c, 1, none⟩ = some v6 ∧ W.cell? ⟨c, 2, none⟩ = some v7 ∧ W.cell? ⟨c, 3, none⟩ = some v8 :=
  ⟨X.cell 0, X.cell 1, Y.cell 0, Y.cell 1, Y.cell 2, Z.cell 0, Z.cell 1, Z.cell 2, Z.cell 3⟩

section
variable (o y mo d h mi s ms : Int) (l : List R2) (len cap B : Nat) (A : Option Addr) (w : World)
set_option maxRecDepth 100000 in
set_option maxHeartbeats 2000000 in
theorem impl_zi (hM : MD w) (hl : l.length = len) (hP : Prs B w A l) (hB : B ≤ w.heap.size) (hc : len ≤ cap) (hm : cap ≤ 9223372036854775807) :
    Calls Tryd.prog 24 #[.agg #[.int .i64 o, .slice A len cap], .agg #[.int .i64 y, .int .i64 mo, .int .i64 d], .agg #[.int .i64 h, .int .i64 mi, .int .i64 s, .int .i64 ms]] w (MadeJ (ziV o l y mo d h mi s ms) w) := by
  have HL := hide hl
  have HP := hide hP
  have HM := hide hM
  have X0 := ((Blk.new w 36 #[.int .i64 o, .slice A len cap]).alloc (.cells #[.int .i64 y, .int .i64 mo, .int .i64 d] 27)).alloc (.cells #[.int .i64 h, .int .i64 mi, .int .i64 s, .int .i64 ms] 29)
  have Y0 := (Blk.newE (W := w.alloc (.cells #[.int .i64 o, .slice A len cap] 36)) (g := w.heap.size + 1) (t := 27) (cs := #[.int .i64 y, .int .i64 mo, .int .i64 d]) (by simp)).alloc (.cells #[.int .i64 h, .int .i64 mi, .int .i64 s, .int .i64 ms] 29)
  have Z0 := Blk.newE (W := (w.alloc (.cells #[.int .i64 o, .slice A len cap] 36)).alloc (.cells #[.int .i64 y, .int .i64 mo, .int .i64 d] 27)) (g := w.heap.size + 1 + 1) (t := 29) (cs := #[.int .i64 h, .int .i64 mi, .int .i64 s, .int .i64 ms]) (by simp)
  have B0 := bal (bal (bal (Below.refl w.heap.size w) (.cells #[.int .i64 o, .slice A len cap] 36)) (.cells #[.int .i64 y, .int .i64 mo, .int .i64 d] 27)) (.cells #[.int .i64 h, .int .i64 mi, .int .i64 s, .int .i64 ms] 29)
  clear hl hP hM
  have nof : ziV o l y mo d h mi s ms = [] → ∀ (e : Ending) (W : World), e = .returned (.slice none 0 0) → Below w.heap.size w W → MadeJ (ziV o l y mo d h mi s ms) w e W := fun hz e W he hb => by
    rw [hz]
    exact ⟨none, 0, he, .inl rfl, Nat.le_refl _, by simp [maxLen], hb⟩
  go_enter Tryd.func24, Tryd.ntmps24
  go_wp2_with fail
  refine (impl_zv o l len cap B A _ HL.out (HP.out.below (B0.mono hB)) (Nat.le_trans hB B0.size)).mono ?_
  rintro e w1 ⟨rfl, hb1⟩
  have X1 := hide (X0.below hb1 X0.lt)
  have Y1 := hide (Y0.below hb1 Y0.lt)
  have Z1 := hide (Z0.below hb1 Z0.lt)
  have B1 := bto B0 hb1
  clear hb1
  have x0 := X1.out.cell 0
  have x1 := X1.out.cell 1
  have y0 := Y1.out.cell 0
  have y1 := Y1.out.cell 1
  have y2 := Y1.out.cell 2
  have z0 := Z1.out.cell 0
  have z1 := Z1.out.cell 1
  have z2 := Z1.out.cell 2
  have z3 := Z1.out.cell 3
  simp at x0 x1 y0 y1 y2 z0 z1 z2 z3
  have l1 := Z1.out.lt
  have m1 : w.heap.size + 1 < w1.heap.size := by omega
  have k1 : w.heap.size < w1.heap.size := by omega
  cases hz : zvB o l with
  | false =>
    have NO := hide (ziV_no (show zdc o l y mo d h mi s ms = false by unfold zdc; rw [hz]; rfl))
    clear x0 x1 y0 y1 y2 z0 z1 z2 z3
    go_wp2_with fail
    go_ret
    exact nof NO.out _ _ rfl B1
  | true =>
    have Hz := hide hz
    clear hz
    go_wp2_with fail
    refine (impl_dateValid _ _ _ _ (HM.out.below B1)).mono ?_
    rintro e w2 ⟨rfl, hb2⟩
    clear x0 x1 y0 y1 y2 z0 z1 z2 z3
    have X2 := hide (X1.out.below hb2 X1.out.lt)
    have Y2 := hide (Y1.out.below hb2 Y1.out.lt)
    have Z2 := hide (Z1.out.below hb2 Z1.out.lt)
    have B2 := bto B1 hb2
    clear hb2
    have x0 := X2.out.cell 0
    have x1 := X2.out.cell 1
    have y0 := Y2.out.cell 0
    have y1 := Y2.out.cell 1
    have y2 := Y2.out.cell 2
    have z0 := Z2.out.cell 0
    have z1 := Z2.out.cell 1
    have z2 := Z2.out.cell 2
    have z3 := Z2.out.cell 3
    simp at x0 x1 y0 y1 y2 z0 z1 z2 z3
    have l2 := Z2.out.lt
    have m2 : w.heap.size + 1 < w2.heap.size := by omega
    have k2 : w.heap.size < w2.heap.size := by omega
    have hz := Hz.out
    clear X1 Y1 Z1
    cases hv : vld y mo d with
    | false =>
      have NO := hide (ziV_no (show zdc o l y mo d h mi s ms = false by unfold zdc; rw [hz, hv]; rfl))
      clear x0 x1 y0 y1 y2 z0 z1 z2 z3
      go_wp2_with fail
      go_ret
      exact nof NO.out _ _ rfl B2
    | true =>
      have Hv := hide hv
      clear hv hz
      go_wp2_with fail
      refine (impl_cv _ _ _ _ _).mono ?_
      rintro e w3 ⟨rfl, hb3⟩
      clear x0 x1 y0 y1 y2 z0 z1 z2 z3
      have X3 := hide (X2.out.below hb3 X2.out.lt)
      have Y3 := hide (Y2.out.below hb3 Y2.out.lt)
      have Z3 := hide (Z2.out.below hb3 Z2.out.lt)
      have B3 := bto B2 hb3
      clear hb3
      have x0 := X3.out.cell 0
      have x1 := X3.out.cell 1
      have y0 := Y3.out.cell 0
      have y1 := Y3.out.cell 1
      have y2 := Y3.out.cell 2
      have z0 := Z3.out.cell 0
      have z1 := Z3.out.cell 1
      have z2 := Z3.out.cell 2
      have z3 := Z3.out.cell 3
      simp at x0 x1 y0 y1 y2 z0 z1 z2 z3
      have l3 := Z3.out.lt
      have m3 : w.heap.size + 1 < w3.heap.size := by omega
      have k3 : w.heap.size < w3.heap.size := by omega
      have hz := Hz.out
      have hv := Hv.out
      clear X2 Y2 Z2
      cases hcv : cvB h mi s ms with
      | false =>
        have NO := hide (ziV_no (show zdc o l y mo d h mi s ms = false by unfold zdc; rw [hz, hv, hcv]; rfl))
        clear x0 x1 y0 y1 y2 z0 z1 z2 z3
        go_wp2_with fail
        go_ret
        exact nof NO.out _ _ rfl B3
      | true =>
        go_wp2_with fail
        refine (shown_any o y mo d h mi s ms (locOf y mo d h mi s ms) l len cap B A _ (HM.out.below B3) HL.out (HP.out.below (B3.mono hB)) (Nat.le_trans hB B3.size) (zv_of hz) hv hcv rfl hc hm).mono ?_
        rintro e w4 ⟨g, cap4, rfl, ho, hb4⟩
        obtain ⟨k1, k2, k3, k4⟩ := IRow.own ho
        have k4' : cap4 ≤ 9223372036854775807 := k4
        clear x0 x1 y0 y1 y2 z0 z1 z2 z3
        have K1 := hide k1
        clear k1 k2 ho
        go_wp2_with fail
        refine (clip_any _ _ _ _ k3 k4').mono ?_
        rintro e w5 ⟨rfl, rfl⟩
        go_wp2_with fail
        go_ret
        exact ⟨_, _, by rw [ziV_yes hz hv hcv]; rfl, by rw [ziV_yes hz hv hcv]; exact K1.out.more B3.size, by rw [ziV_yes hz hv hcv]; exact Nat.le_refl _, Nat.le_trans k3 k4, bto B3 hb4⟩
set_option maxRecDepth 100000 in
set_option maxHeartbeats 2000000 in
theorem spec_zi (hl : l.length = len) (hP : Prs B w A l) (hB : B ≤ w.heap.size) :
    Calls Tryd.prog 25 #[.agg #[.int .i64 o, .slice A len cap], .agg #[.int .i64 y, .int .i64 mo, .int .i64 d], .agg #[.int .i64 h, .int .i64 mi, .int .i64 s, .int .i64 ms]] w (MadeJ (ziV o l y mo d h mi s ms) w) := by
  have HL := hide hl
  have HP := hide hP
  have X0 := ((Blk.new w 36 #[.int .i64 o, .slice A len cap]).alloc (.cells #[.int .i64 y, .int .i64 mo, .int .i64 d] 27)).alloc (.cells #[.int .i64 h, .int .i64 mi, .int .i64 s, .int .i64 ms] 29)
  have Y0 := (Blk.newE (W := w.alloc (.cells #[.int .i64 o, .slice A len cap] 36)) (g := w.heap.size + 1) (t := 27) (cs := #[.int .i64 y, .int .i64 mo, .int .i64 d]) (by simp)).alloc (.cells #[.int .i64 h, .int .i64 mi, .int .i64 s, .int .i64 ms] 29)
  have Z0 := Blk.newE (W := (w.alloc (.cells #[.int .i64 o, .slice A len cap] 36)).alloc (.cells #[.int .i64 y, .int .i64 mo, .int .i64 d] 27)) (g := w.heap.size + 1 + 1) (t := 29) (cs := #[.int .i64 h, .int .i64 mi, .int .i64 s, .int .i64 ms]) (by simp)
  have B0 := bal (bal (bal (Below.refl w.heap.size w) (.cells #[.int .i64 o, .slice A len cap] 36)) (.cells #[.int .i64 y, .int .i64 mo, .int .i64 d] 27)) (.cells #[.int .i64 h, .int .i64 mi, .int .i64 s, .int .i64 ms] 29)
  clear hl hP
  have nof : ziV o l y mo d h mi s ms = [] → ∀ (e : Ending) (W : World), e = .returned (.slice (some ⟨W.heap.size, 0, none⟩) 0 0) → Below w.heap.size w W → MadeJ (ziV o l y mo d h mi s ms) w e (W.alloc (.cells #[] 3)) := fun hz e W he hb => by
    rw [hz]
    exact ⟨_, 0, he, .inl rfl, Nat.le_refl _, by simp [maxLen], bal hb _⟩
  go_enter Tryd.func25, Tryd.ntmps25
  go_wp2_with fail
  refine (spec_zv o l len cap B A _ HL.out (HP.out.below (B0.mono hB)) (Nat.le_trans hB B0.size)).mono ?_
  rintro e w1 ⟨rfl, hb1⟩
  have X1 := hide (X0.below hb1 X0.lt)
  have Y1 := hide (Y0.below hb1 Y0.lt)
  have Z1 := hide (Z0.below hb1 Z0.lt)
  have B1 := bto B0 hb1
  clear hb1
  have x0 := X1.out.cell 0
  have x1 := X1.out.cell 1
  have y0 := Y1.out.cell 0
  have y1 := Y1.out.cell 1
  have y2 := Y1.out.cell 2
  have z0 := Z1.out.cell 0
  have z1 := Z1.out.cell 1
  have z2 := Z1.out.cell 2
  have z3 := Z1.out.cell 3
  simp at x0 x1 y0 y1 y2 z0 z1 z2 z3
  have l1 := Z1.out.lt
  have m1 : w.heap.size + 1 < w1.heap.size := by omega
  have k1 : w.heap.size < w1.heap.size := by omega
  cases hz : zvB o l with
  | false =>
    have NO := hide (ziV_no (show zdc o l y mo d h mi s ms = false by unfold zdc; rw [hz]; rfl))
    clear x0 x1 y0 y1 y2 z0 z1 z2 z3
    go_wp2_with fail
    go_ret
    exact nof NO.out _ _ rfl B1
  | true =>
    have Hz := hide hz
    clear hz
    go_wp2_with fail
    refine (spec_dateValid _ _ _ _).mono ?_
    rintro e w2 ⟨rfl, hb2⟩
    clear x0 x1 y0 y1 y2 z0 z1 z2 z3
    have X2 := hide (X1.out.below hb2 X1.out.lt)
    have Y2 := hide (Y1.out.below hb2 Y1.out.lt)
    have Z2 := hide (Z1.out.below hb2 Z1.out.lt)
    have B2 := bto B1 hb2
    clear hb2
    have x0 := X2.out.cell 0
    have x1 := X2.out.cell 1
    have y0 := Y2.out.cell 0
    have y1 := Y2.out.cell 1
    have y2 := Y2.out.cell 2
    have z0 := Z2.out.cell 0
    have z1 := Z2.out.cell 1
    have z2 := Z2.out.cell 2
    have z3 := Z2.out.cell 3
    simp at x0 x1 y0 y1 y2 z0 z1 z2 z3
    have l2 := Z2.out.lt
    have m2 : w.heap.size + 1 < w2.heap.size := by omega
    have k2 : w.heap.size < w2.heap.size := by omega
    have hz := Hz.out
    clear X1 Y1 Z1
    cases hv : vld y mo d with
    | false =>
      have NO := hide (ziV_no (show zdc o l y mo d h mi s ms = false by unfold zdc; rw [hz, hv]; rfl))
      clear x0 x1 y0 y1 y2 z0 z1 z2 z3
      go_wp2_with fail
      go_ret
      exact nof NO.out _ _ rfl B2
    | true =>
      have Hv := hide hv
      clear hv hz
      go_wp2_with fail
      refine (spec_cv _ _ _ _ _).mono ?_
      rintro e w3 ⟨rfl, hb3⟩
      clear x0 x1 y0 y1 y2 z0 z1 z2 z3
      have X3 := hide (X2.out.below hb3 X2.out.lt)
      have Y3 := hide (Y2.out.below hb3 Y2.out.lt)
      have Z3 := hide (Z2.out.below hb3 Z2.out.lt)
      have B3 := bto B2 hb3
      clear hb3
      have x0 := X3.out.cell 0
      have x1 := X3.out.cell 1
      have y0 := Y3.out.cell 0
      have y1 := Y3.out.cell 1
      have y2 := Y3.out.cell 2
      have z0 := Z3.out.cell 0
      have z1 := Z3.out.cell 1
      have z2 := Z3.out.cell 2
      have z3 := Z3.out.cell 3
      simp at x0 x1 y0 y1 y2 z0 z1 z2 z3
      have l3 := Z3.out.lt
      have m3 : w.heap.size + 1 < w3.heap.size := by omega
      have k3 : w.heap.size < w3.heap.size := by omega
      have hz := Hz.out
      have hv := Hv.out
      clear X2 Y2 Z2
      cases hcv : cvB h mi s ms with
      | false =>
        have NO := hide (ziV_no (show zdc o l y mo d h mi s ms = false by unfold zdc; rw [hz, hv, hcv]; rfl))
        clear x0 x1 y0 y1 y2 z0 z1 z2 z3
        go_wp2_with fail
        go_ret
        exact nof NO.out _ _ rfl B3
      | true =>
        go_wp2_with fail
        obtain ⟨q1, q2⟩ := locOf_bd hv hcv
        have HF := hide (ziV_yes hz hv hcv)
        have hL : ∀ W : World, Calls Tryd.prog 61 #[.agg #[.int .i64 y, .int .i64 mo, .int .i64 d], .agg #[.int .i64 h, .int .i64 mi, .int .i64 s, .int .i64 ms]] W fun e w' => e = .returned (.int .i64 (locOf y mo d h mi s ms)) ∧ Below W.heap.size W w' := fun W => l22Local_any y mo d h mi s ms W hv hcv
        generalize locOf y mo d h mi s ms = loc at q1 q2 hL HF
        go_region_held3 (fun w' => w'.cell? ⟨w.heap.size, 0, none⟩ = some (.int .i64 o) ∧ w'.cell? ⟨w.heap.size, 1, none⟩ = some (.slice A len cap) ∧ w'.cell? ⟨w.heap.size + 1, 0, none⟩ = some (.int .i64 y) ∧ w'.cell? ⟨w.heap.size + 1, 1, none⟩ = some (.int .i64 mo) ∧ w'.cell? ⟨w.heap.size + 1, 2, none⟩ = some (.int .i64 d) ∧ w'.cell? ⟨w.heap.size + 1 + 1, 0, none⟩ = some (.int .i64 h) ∧ w'.cell? ⟨w.heap.size + 1 + 1, 1, none⟩ = some (.int .i64 mi) ∧ w'.cell? ⟨w.heap.size + 1 + 1, 2, none⟩ = some (.int .i64 s) ∧ w'.cell? ⟨w.heap.size + 1 + 1, 3, none⟩ = some (.int .i64 ms)) (first | exact c9 X3.out.drew Y3.out.drew Z3.out.drew | exact c9 XA YA ZA | exact c9 XB YB ZB) (first | (go_at_call 61; refine (hL _).mono ?_; rintro e wA ⟨rfl, hbA⟩; have XA := X3.out.drew.below hbA X3.out.lt; have YA := Y3.out.drew.below hbA Y3.out.lt; have ZA := Z3.out.drew.below hbA Z3.out.lt; have BA := bto (bdrew B3) hbA) | (go_at_call 60; refine (l22Instants_any o loc l len cap B A _ HL.out (HP.out.below (BA.mono hB)) (Nat.le_trans hB BA.size) (zv_of hz) q1 q2).mono ?_; rintro e wB hj; obtain ⟨g, cap5, rfl, k1, k3, k4, hbB⟩ := MadeI.j hj; have K1 := hide k1; have XB := XA.below hbB XA.lt; have YB := YA.below hbB YA.lt; have ZB := ZA.below hbB ZA.lt; clear k1 hj))
        all_goals
          go_wp2_with fail
          go_ret
          exact ⟨_, _, by rw [HF.out]; rfl, by rw [HF.out]; exact K1.out.more BA.size, by rw [HF.out]; exact k3, k4, bto BA hbB⟩
end
end Go.Proofs.YtjdlffkbhaieaaaDoor
