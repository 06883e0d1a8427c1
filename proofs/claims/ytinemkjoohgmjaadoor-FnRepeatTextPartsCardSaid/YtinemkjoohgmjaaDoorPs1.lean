/- Contracts: a period's text (the reference's). -/
import Derived.Test.YtinemkjoohgmjaaDoorPx1
import Derived.Test.YtinemkjoohgmjaaDoorRp2
namespace Go.Proofs.YtinemkjoohgmjaaDoor
open Go.RowKit
attribute [local go_sem] S_mk S_size S_app p1_len p2_len p3_len p4_len lt_cell

theorem S_toList (l : List UInt8) : (S l).toList = l := ByteArray.toList_mk l
attribute [local go_sem] S_toList
theorem S_cut (l : List UInt8) (i j : Nat) : (S l).extract i j = S ((l.drop i).take (j - i)) := ByteArray.extract_mk l i j
def ptS (o : List UInt8) (p : Int) (c : UInt8) : List UInt8 := if 0 < p then o ++ d2 p ++ [c] else o
/-- The text behind k parts, as the reference goes. -/
def accS (ps : List Int) : Nat → List UInt8
  | 0 => [80]
  | k + 1 => ptS (if k = 3 then (if 0 < ps.getD 3 0 + ps.getD 4 0 + ps.getD 5 0 then accS ps k ++ [84] else accS ps k) else accS ps k) (ps.getD k 0) (ltr k)
theorem ptS_len (o : List UInt8) (p : Int) (c : UInt8) : o.length ≤ (ptS o p c).length ∧ (ptS o p c).length ≤ o.length + 3 ∧ (0 < p → o.length < (ptS o p c).length) := by
  have := d2_len p
  unfold ptS
  split <;> simp <;> omega
theorem accS_len (ps : List Int) : ∀ k, (accS ps k).length ≤ 1 + 4 * k
  | 0 => by simp [accS]
  | k + 1 => by
    have := accS_len ps k
    have h := ptS_len (if k = 3 then (if 0 < ps.getD 3 0 + ps.getD 4 0 + ps.getD 5 0 then accS ps k ++ [84] else accS ps k) else accS ps k) (ps.getD k 0) (ltr k)
    show (ptS _ (ps.getD k 0) (ltr k)).length ≤ _
    have h2 : (if k = 3 then (if 0 < ps.getD 3 0 + ps.getD 4 0 + ps.getD 5 0 then accS ps k ++ [84] else accS ps k) else accS ps k).length ≤ (accS ps k).length + 1 := by
      split <;> (try split) <;> simp
    omega
theorem ptS_zero {o : List UInt8} {p : Int} (c : UInt8) (h : p = 0) : ptS o p c = o := if_neg (by omega)
theorem ptS_pos {o : List UInt8} {p : Int} (c : UInt8) (h : 0 < p) : ptS o p c = o ++ d2 p ++ [c] := if_pos h
theorem ptI_zero {o : List UInt8 × Bool} {p : Int} (c : UInt8) (t : Bool) (h : p = 0) : ptI o p c t = o := if_pos h
theorem ptI_low {o : List UInt8 × Bool} {p : Int} (c : UInt8) (h : 0 ≤ p) : ptI o p c false = (ptS o.1 p c, o.2) := by
  by_cases z : p = 0
  · rw [ptI_zero c false z, ptS_zero c z]
  · rw [ptS_pos c (by omega)]
    unfold ptI
    rw [if_neg z]
    simp
theorem ptI_first {o : List UInt8} {p : Int} (c : UInt8) (h : 0 < p) : ptI (o, false) p c true = (ptS (o ++ [84]) p c, true) := by
  rw [ptS_pos c h]
  unfold ptI
  rw [if_neg (by omega)]
  simp
theorem ptI_then {o : List UInt8} {p : Int} (c : UInt8) (h : 0 ≤ p) : ptI (o, true) p c true = (ptS o p c, true) := by
  by_cases z : p = 0
  · rw [ptI_zero c true z, ptS_zero c z]
  · rw [ptS_pos c (by omega)]
    unfold ptI
    rw [if_neg z]
    simp
theorem perT_accS (p1 p2 p3 p4 p5 p6 : Int) (hs : smB p1 p2 p3 p4 p5 p6) : accS [p1, p2, p3, p4, p5, p6] 6 = perT p1 p2 p3 p4 p5 p6 := by
  obtain ⟨⟨a1, _⟩, ⟨a2, _⟩, ⟨a3, _⟩, ⟨a4, _⟩, ⟨a5, _⟩, ⟨a6, _⟩, _⟩ := hs
  have eS : accS [p1, p2, p3, p4, p5, p6] 6 = ptS (ptS (ptS (if 0 < p4 + p5 + p6 then accS [p1, p2, p3, p4, p5, p6] 3 ++ [84] else accS [p1, p2, p3, p4, p5, p6] 3) p4 72) p5 77) p6 83 := rfl
  have e3 : accS [p1, p2, p3, p4, p5, p6] 3 = ptS (ptS (ptS [80] p1 89) p2 77) p3 68 := rfl
  have eI : accI [p1, p2, p3, p4, p5, p6] 6 = ptI (ptI (ptI (accI [p1, p2, p3, p4, p5, p6] 3) p4 72 true) p5 77 true) p6 83 true := rfl
  have eI3 : accI [p1, p2, p3, p4, p5, p6] 3 = ptI (ptI (ptI ([80], false) p1 89 false) p2 77 false) p3 68 false := rfl
  rw [ptI_low 89 a1, ptI_low 77 a2, ptI_low 68 a3] at eI3
  show accS [p1, p2, p3, p4, p5, p6] 6 = (accI [p1, p2, p3, p4, p5, p6] 6).1
  rw [eS, eI, eI3, ← e3]
  generalize accS [p1, p2, p3, p4, p5, p6] 3 = o
  show _ = (ptI (ptI (ptI (o, false) p4 72 true) p5 77 true) p6 83 true).1
  by_cases z4 : p4 = 0
  · by_cases z5 : p5 = 0
    · by_cases z6 : p6 = 0
      · rw [if_neg (by omega), ptI_zero 72 true z4, ptI_zero 77 true z5, ptI_zero 83 true z6, ptS_zero 72 z4, ptS_zero 77 z5, ptS_zero 83 z6]
      · rw [if_pos (by omega), ptI_zero 72 true z4, ptI_zero 77 true z5, ptI_first 83 (by omega), ptS_zero 72 z4, ptS_zero 77 z5]
    · rw [if_pos (by omega), ptI_zero 72 true z4, ptI_first 77 (by omega), ptI_then 83 a6, ptS_zero 72 z4]
  · rw [if_pos (by omega), ptI_first 72 (by omega), ptI_then 77 a5, ptI_then 83 a6]
theorem accS_up (ps : List Int) (k : Nat) : (accS ps k).length ≤ (accS ps (k + 1)).length ∧ (0 < ps.getD k 0 → (accS ps k).length < (accS ps (k + 1)).length) := by
  have h := ptS_len (if k = 3 then (if 0 < ps.getD 3 0 + ps.getD 4 0 + ps.getD 5 0 then accS ps k ++ [84] else accS ps k) else accS ps k) (ps.getD k 0) (ltr k)
  have h2 : (accS ps k).length ≤ (if k = 3 then (if 0 < ps.getD 3 0 + ps.getD 4 0 + ps.getD 5 0 then accS ps k ++ [84] else accS ps k) else accS ps k).length := by
    split <;> (try split) <;> simp
  show (accS ps k).length ≤ (ptS _ (ps.getD k 0) (ltr k)).length ∧ (0 < ps.getD k 0 → (accS ps k).length < (ptS _ (ps.getD k 0) (ltr k)).length)
  exact ⟨by omega, fun hp => by have := h.2.2 hp; omega⟩
theorem accS_ne (p1 p2 p3 p4 p5 p6 : Int) (hs : smB p1 p2 p3 p4 p5 p6) : accS [p1, p2, p3, p4, p5, p6] 6 ≠ [80] := by
  intro e
  have hl : (accS [p1, p2, p3, p4, p5, p6] 6).length = 1 := by rw [e]; rfl
  obtain ⟨⟨a1, _⟩, ⟨a2, _⟩, ⟨a3, _⟩, ⟨a4, _⟩, ⟨a5, _⟩, ⟨a6, _⟩, hsum⟩ := hs
  have u0 : (accS [p1, p2, p3, p4, p5, p6] 0).length ≤ (accS [p1, p2, p3, p4, p5, p6] 1).length ∧ (0 < p1 → (accS [p1, p2, p3, p4, p5, p6] 0).length < (accS [p1, p2, p3, p4, p5, p6] 1).length) := accS_up [p1, p2, p3, p4, p5, p6] 0
  have u1 : (accS [p1, p2, p3, p4, p5, p6] 1).length ≤ (accS [p1, p2, p3, p4, p5, p6] 2).length ∧ (0 < p2 → (accS [p1, p2, p3, p4, p5, p6] 1).length < (accS [p1, p2, p3, p4, p5, p6] 2).length) := accS_up [p1, p2, p3, p4, p5, p6] 1
  have u2 : (accS [p1, p2, p3, p4, p5, p6] 2).length ≤ (accS [p1, p2, p3, p4, p5, p6] 3).length ∧ (0 < p3 → (accS [p1, p2, p3, p4, p5, p6] 2).length < (accS [p1, p2, p3, p4, p5, p6] 3).length) := accS_up [p1, p2, p3, p4, p5, p6] 2
  have u3 : (accS [p1, p2, p3, p4, p5, p6] 3).length ≤ (accS [p1, p2, p3, p4, p5, p6] 4).length ∧ (0 < p4 → (accS [p1, p2, p3, p4, p5, p6] 3).length < (accS [p1, p2, p3, p4, p5, p6] 4).length) := accS_up [p1, p2, p3, p4, p5, p6] 3
  have u4 : (accS [p1, p2, p3, p4, p5, p6] 4).length ≤ (accS [p1, p2, p3, p4, p5, p6] 5).length ∧ (0 < p5 → (accS [p1, p2, p3, p4, p5, p6] 4).length < (accS [p1, p2, p3, p4, p5, p6] 5).length) := accS_up [p1, p2, p3, p4, p5, p6] 4
  have u5 : (accS [p1, p2, p3, p4, p5, p6] 5).length ≤ (accS [p1, p2, p3, p4, p5, p6] 6).length ∧ (0 < p6 → (accS [p1, p2, p3, p4, p5, p6] 5).length < (accS [p1, p2, p3, p4, p5, p6] 6).length) := accS_up [p1, p2, p3, p4, p5, p6] 5
  have l0 : (accS [p1, p2, p3, p4, p5, p6] 0).length = 1 := rfl
  rcases (show 0 < p1 ∨ 0 < p2 ∨ 0 < p3 ∨ 0 < p4 ∨ 0 < p5 ∨ 0 < p6 by omega) with h | h | h | h | h | h
  · have := u0.2 h; omega
  · have := u1.2 h; omega
  · have := u2.2 h; omega
  · have := u3.2 h; omega
  · have := u4.2 h; omega
  · have := u5.2 h; omega
set_option maxRecDepth 100000 in
set_option maxHeartbeats 4000000 in
theorem spec_perT (p1 p2 p3 p4 p5 p6 : Int) (w : World) (hs : smB p1 p2 p3 p4 p5 p6) :
    Calls Tryd.prog 28 #[.agg #[.int .i64 p1, .int .i64 p2, .int .i64 p3, .int .i64 p4, .int .i64 p5, .int .i64 p6]] w fun e w' => e = .returned (.string (S (perT p1 p2 p3 p4 p5 p6))) ∧ Below w.heap.size w w' := by
  have hE := hide (perT_accS p1 p2 p3 p4 p5 p6 hs)
  have hN := accS_ne p1 p2 p3 p4 p5 p6 hs
  obtain ⟨⟨a1, b1⟩, ⟨a2, b2⟩, ⟨a3, b3⟩, ⟨a4, b4⟩, ⟨a5, b5⟩, ⟨a6, b6⟩, hsum⟩ := hs
  have gN : Hid ((accS [p1, p2, p3, p4, p5, p6] 6 == [80]) = false) := hide (by
    rw [beq_eq_false_iff_ne]
    exact hN)
  clear hN hsum
  have B0 := hide (bal (Below.refl w.heap.size w) (.cells #[.int .i64 p1, .int .i64 p2, .int .i64 p3, .int .i64 p4, .int .i64 p5, .int .i64 p6] 44))
  obtain ⟨wc, hwc⟩ : ∃ W, W = w.alloc (.cells #[.int .i64 p1, .int .i64 p2, .int .i64 p3, .int .i64 p4, .int .i64 p5, .int .i64 p6] 44) := ⟨_, rfl⟩
  rw [← hwc] at B0
  have HC := hide hwc
  have X0 := hide (show Blk wc w.heap.size 44 #[.int .i64 p1, .int .i64 p2, .int .i64 p3, .int .i64 p4, .int .i64 p5, .int .i64 p6] by rw [hwc]; exact Blk.new _ _ _)
  clear hwc
  have c0 := X0.out.cell 0
  have c1 := X0.out.cell 1
  have c2 := X0.out.cell 2
  have c3 := X0.out.cell 3
  have c4 := X0.out.cell 4
  have c5 := X0.out.cell 5
  simp at c0 c1 c2 c3 c4 c5
  go_enter Tryd.func28, Tryd.ntmps28
  go_upto_region 1 with fail
  rw [← HC.out]
  clear HC
  go_wp2_with fail
  refine (l15Parts_any p1 p2 p3 p4 p5 p6 wc).mono ?_
  rintro e w2 ⟨rfl, hx, hb2⟩
  have X2 := hide hx
  have B2 := hide (bto B0.out hb2)
  have lx := hx.lt
  clear hx hb2 X0 B0 c0 c1 c2 c3 c4 c5
  go_wp2_with fail
  go_loopw [4, 5] (fun s i wr => ∃ k : Nat, k ≤ 6 ∧ i = .int .i64 k ∧ s = .string (S (accS [p1, p2, p3, p4, p5, p6] k)) ∧ Below w2.heap.size w2 wr) (fun _ i _ => 6 - (intOf i).toNat)
  case atStart => exact ⟨0, by omega, rfl, rfl, Below.refl _ _⟩
  case round =>
    obtain ⟨k, hk, rfl, rfl, hb⟩ := hrel
    have hsr := hb.size
    have HL := accS_len [p1, p2, p3, p4, p5, p6] k
    by_cases hlt : k < 6
    · obtain ⟨o, ho⟩ : ∃ r, r = accS [p1, p2, p3, p4, p5, p6] k := ⟨_, rfl⟩
      rw [← ho] at HL ⊢
      have lo : ((o.length : Nat) : Int) ≤ 30 := by omega
      have HO := hide ho
      clear HL ho
      have Xr := hide (X2.out.below hb lx)
      have hbr := hide hb
      clear hb
      rcases (show k = 0 ∨ k = 1 ∨ k = 2 ∨ k = 3 ∨ k = 4 ∨ k = 5 by omega) with rfl | rfl | rfl | rfl | rfl | rfl
      · have x0 := Xr.out.cell 0
        simp at x0
        have hd := dec_any p1
        have hx : (S [89, 77, 68, 72, 77, 83]).extract 0 1 = S [89] := S_cut _ _ _
        have n1 : wc.heap.size + 1 < wr.heap.size := by omega
        have n2 : wc.heap.size + 1 ≤ wr.heap.size := by omega
        have HG := hide (show accS [p1, p2, p3, p4, p5, p6] 1 = ptS o p1 89 by show ptS (accS [p1, p2, p3, p4, p5, p6] 0) p1 89 = _; rw [← HO.out])
        go_wp2_with fail
        refine region_below (by kernel_rfl) (by kernel_rfl) ?_
        repeat (go_big_quiet_step (fail))
        refine wpQuiet_nil ?_
        rintro wq ⟨⟨_, hq⟩, rfl⟩
        by_cases z : 0 < p1
        · have HE := hide (show accS [p1, p2, p3, p4, p5, p6] 1 = o ++ d2 p1 ++ [89] by rw [HG.out]; exact if_pos z)
          have ld : (((d2 p1).length : Nat) : Int) ≤ 2 := by have := d2_len p1; omega
          replace hd := fun W => hd W (by omega) (by omega)
          have x0q := hq.cell (p := ⟨wc.heap.size + 1, 0, none⟩) n1
          rw [x0] at x0q
          have m1 : wc.heap.size + 1 < wq.heap.size := by have := hq.size; omega
          have m2 : wc.heap.size + 1 ≤ wq.heap.size := by omega
          generalize d2 p1 = dp at *
          clear x0
          go_wp2_with fail
          refine region_below (by kernel_rfl) (by kernel_rfl) ?_
          repeat (go_big_quiet_step ((go_at_call 27; exact lt_call (hd _))))
          refine wpQuiet_nil ?_
          rintro wv ⟨⟨_, hv⟩, rfl⟩
          go_wp2_with fail
          go_roundw
          case rel => exact ⟨1, by omega, by go_num, by rw [HE.out]; simp, bto (bto hbr.out hq) hv⟩
          case measure => simp [intOf]
        · have HE := hide (show accS [p1, p2, p3, p4, p5, p6] 1 = o by rw [HG.out]; exact if_neg z)
          have x0q := hq.cell (p := ⟨wc.heap.size + 1, 0, none⟩) n1
          rw [x0] at x0q
          clear x0
          go_wp2_with fail
          go_roundw
          case rel => exact ⟨1, by omega, by go_num, by rw [HE.out], bto hbr.out hq⟩
          case measure => simp [intOf]
      · have x0 := Xr.out.cell 1
        simp at x0
        have hd := dec_any p2
        have hx : (S [89, 77, 68, 72, 77, 83]).extract 1 2 = S [77] := S_cut _ _ _
        have n1 : wc.heap.size + 1 < wr.heap.size := by omega
        have n2 : wc.heap.size + 1 ≤ wr.heap.size := by omega
        have HG := hide (show accS [p1, p2, p3, p4, p5, p6] 2 = ptS o p2 77 by show ptS (accS [p1, p2, p3, p4, p5, p6] 1) p2 77 = _; rw [← HO.out])
        go_wp2_with fail
        refine region_below (by kernel_rfl) (by kernel_rfl) ?_
        repeat (go_big_quiet_step (fail))
        refine wpQuiet_nil ?_
        rintro wq ⟨⟨_, hq⟩, rfl⟩
        by_cases z : 0 < p2
        · have HE := hide (show accS [p1, p2, p3, p4, p5, p6] 2 = o ++ d2 p2 ++ [77] by rw [HG.out]; exact if_pos z)
          have ld : (((d2 p2).length : Nat) : Int) ≤ 2 := by have := d2_len p2; omega
          replace hd := fun W => hd W (by omega) (by omega)
          have x0q := hq.cell (p := ⟨wc.heap.size + 1, 1, none⟩) n1
          rw [x0] at x0q
          have m1 : wc.heap.size + 1 < wq.heap.size := by have := hq.size; omega
          have m2 : wc.heap.size + 1 ≤ wq.heap.size := by omega
          generalize d2 p2 = dp at *
          clear x0
          go_wp2_with fail
          refine region_below (by kernel_rfl) (by kernel_rfl) ?_
          repeat (go_big_quiet_step ((go_at_call 27; exact lt_call (hd _))))
          refine wpQuiet_nil ?_
          rintro wv ⟨⟨_, hv⟩, rfl⟩
          go_wp2_with fail
          go_roundw
          case rel => exact ⟨2, by omega, by go_num, by rw [HE.out]; simp, bto (bto hbr.out hq) hv⟩
          case measure => simp [intOf]
        · have HE := hide (show accS [p1, p2, p3, p4, p5, p6] 2 = o by rw [HG.out]; exact if_neg z)
          have x0q := hq.cell (p := ⟨wc.heap.size + 1, 1, none⟩) n1
          rw [x0] at x0q
          clear x0
          go_wp2_with fail
          go_roundw
          case rel => exact ⟨2, by omega, by go_num, by rw [HE.out], bto hbr.out hq⟩
          case measure => simp [intOf]
      · have x0 := Xr.out.cell 2
        simp at x0
        have hd := dec_any p3
        have hx : (S [89, 77, 68, 72, 77, 83]).extract 2 3 = S [68] := S_cut _ _ _
        have n1 : wc.heap.size + 1 < wr.heap.size := by omega
        have n2 : wc.heap.size + 1 ≤ wr.heap.size := by omega
        have HG := hide (show accS [p1, p2, p3, p4, p5, p6] 3 = ptS o p3 68 by show ptS (accS [p1, p2, p3, p4, p5, p6] 2) p3 68 = _; rw [← HO.out])
        go_wp2_with fail
        refine region_below (by kernel_rfl) (by kernel_rfl) ?_
        repeat (go_big_quiet_step (fail))
        refine wpQuiet_nil ?_
        rintro wq ⟨⟨_, hq⟩, rfl⟩
        by_cases z : 0 < p3
        · have HE := hide (show accS [p1, p2, p3, p4, p5, p6] 3 = o ++ d2 p3 ++ [68] by rw [HG.out]; exact if_pos z)
          have ld : (((d2 p3).length : Nat) : Int) ≤ 2 := by have := d2_len p3; omega
          replace hd := fun W => hd W (by omega) (by omega)
          have x0q := hq.cell (p := ⟨wc.heap.size + 1, 2, none⟩) n1
          rw [x0] at x0q
          have m1 : wc.heap.size + 1 < wq.heap.size := by have := hq.size; omega
          have m2 : wc.heap.size + 1 ≤ wq.heap.size := by omega
          generalize d2 p3 = dp at *
          clear x0
          go_wp2_with fail
          refine region_below (by kernel_rfl) (by kernel_rfl) ?_
          repeat (go_big_quiet_step ((go_at_call 27; exact lt_call (hd _))))
          refine wpQuiet_nil ?_
          rintro wv ⟨⟨_, hv⟩, rfl⟩
          go_wp2_with fail
          go_roundw
          case rel => exact ⟨3, by omega, by go_num, by rw [HE.out]; simp, bto (bto hbr.out hq) hv⟩
          case measure => simp [intOf]
        · have HE := hide (show accS [p1, p2, p3, p4, p5, p6] 3 = o by rw [HG.out]; exact if_neg z)
          have x0q := hq.cell (p := ⟨wc.heap.size + 1, 2, none⟩) n1
          rw [x0] at x0q
          clear x0
          go_wp2_with fail
          go_roundw
          case rel => exact ⟨3, by omega, by go_num, by rw [HE.out], bto hbr.out hq⟩
          case measure => simp [intOf]
      · have x0 := Xr.out.cell 3
        simp at x0
        have hd := dec_any p4
        have hx : (S [89, 77, 68, 72, 77, 83]).extract 3 4 = S [72] := S_cut _ _ _
        have n1 : wc.heap.size + 1 < wr.heap.size := by omega
        have n2 : wc.heap.size + 1 ≤ wr.heap.size := by omega
        have y0 := Xr.out.cell 3
        have y1 := Xr.out.cell 4
        have y2 := Xr.out.cell 5
        simp at y0 y1 y2
        have w1e : IntKind.i64.wrap (p4 + p5) = p4 + p5 := IntWalk.i64_in _ (by omega)
        have w2e : IntKind.i64.wrap (p4 + p5 + p6) = p4 + p5 + p6 := IntWalk.i64_in _ (by omega)
        by_cases z3 : 0 < p4 + p5 + p6
        · have HG := hide (show accS [p1, p2, p3, p4, p5, p6] 4 = ptS (o ++ [84]) p4 72 by show ptS (if 0 < p4 + p5 + p6 then accS [p1, p2, p3, p4, p5, p6] 3 ++ [84] else accS [p1, p2, p3, p4, p5, p6] 3) p4 72 = _; rw [if_pos z3, ← HO.out])
          go_wp2_with fail
          refine region_below (by kernel_rfl) (by kernel_rfl) ?_
          repeat (go_big_quiet_step (fail))
          refine wpQuiet_nil ?_
          rintro wq ⟨⟨_, hq⟩, rfl⟩
          clear y0 y1 y2 w1e w2e
          by_cases z : 0 < p4
          · have HE := hide (show accS [p1, p2, p3, p4, p5, p6] 4 = o ++ [84] ++ d2 p4 ++ [72] by rw [HG.out]; exact if_pos z)
            have ld : (((d2 p4).length : Nat) : Int) ≤ 2 := by have := d2_len p4; omega
            replace hd := fun W => hd W (by omega) (by omega)
            have x0q := hq.cell (p := ⟨wc.heap.size + 1, 3, none⟩) n1
            rw [x0] at x0q
            have m1 : wc.heap.size + 1 < wq.heap.size := by have := hq.size; omega
            have m2 : wc.heap.size + 1 ≤ wq.heap.size := by omega
            generalize d2 p4 = dp at *
            clear x0
            go_wp2_with fail
            refine region_below (by kernel_rfl) (by kernel_rfl) ?_
            repeat (go_big_quiet_step ((go_at_call 27; exact lt_call (hd _))))
            refine wpQuiet_nil ?_
            rintro wv ⟨⟨_, hv⟩, rfl⟩
            go_wp2_with fail
            go_roundw
            case rel => exact ⟨4, by omega, by go_num, by rw [HE.out]; simp, bto (bto hbr.out hq) hv⟩
            case measure => simp [intOf]
          · have HE := hide (show accS [p1, p2, p3, p4, p5, p6] 4 = o ++ [84] by rw [HG.out]; exact if_neg z)
            have x0q := hq.cell (p := ⟨wc.heap.size + 1, 3, none⟩) n1
            rw [x0] at x0q
            clear x0
            go_wp2_with fail
            go_roundw
            case rel => exact ⟨4, by omega, by go_num, by rw [HE.out], bto hbr.out hq⟩
            case measure => simp [intOf]
        · have HG := hide (show accS [p1, p2, p3, p4, p5, p6] 4 = ptS o p4 72 by show ptS (if 0 < p4 + p5 + p6 then accS [p1, p2, p3, p4, p5, p6] 3 ++ [84] else accS [p1, p2, p3, p4, p5, p6] 3) p4 72 = _; rw [if_neg z3, ← HO.out])
          go_wp2_with fail
          refine region_below (by kernel_rfl) (by kernel_rfl) ?_
          repeat (go_big_quiet_step (fail))
          refine wpQuiet_nil ?_
          rintro wq ⟨⟨_, hq⟩, rfl⟩
          clear y0 y1 y2 w1e w2e
          by_cases z : 0 < p4
          · exfalso; omega
          · have HE := hide (show accS [p1, p2, p3, p4, p5, p6] 4 = o by rw [HG.out]; exact if_neg z)
            have x0q := hq.cell (p := ⟨wc.heap.size + 1, 3, none⟩) n1
            rw [x0] at x0q
            clear x0
            go_wp2_with fail
            go_roundw
            case rel => exact ⟨4, by omega, by go_num, by rw [HE.out], bto hbr.out hq⟩
            case measure => simp [intOf]
      · have x0 := Xr.out.cell 4
        simp at x0
        have hd := dec_any p5
        have hx : (S [89, 77, 68, 72, 77, 83]).extract 4 5 = S [77] := S_cut _ _ _
        have n1 : wc.heap.size + 1 < wr.heap.size := by omega
        have n2 : wc.heap.size + 1 ≤ wr.heap.size := by omega
        have HG := hide (show accS [p1, p2, p3, p4, p5, p6] 5 = ptS o p5 77 by show ptS (accS [p1, p2, p3, p4, p5, p6] 4) p5 77 = _; rw [← HO.out])
        go_wp2_with fail
        refine region_below (by kernel_rfl) (by kernel_rfl) ?_
        repeat (go_big_quiet_step (fail))
        refine wpQuiet_nil ?_
        rintro wq ⟨⟨_, hq⟩, rfl⟩
        by_cases z : 0 < p5
        · have HE := hide (show accS [p1, p2, p3, p4, p5, p6] 5 = o ++ d2 p5 ++ [77] by rw [HG.out]; exact if_pos z)
          have ld : (((d2 p5).length : Nat) : Int) ≤ 2 := by have := d2_len p5; omega
          replace hd := fun W => hd W (by omega) (by omega)
          have x0q := hq.cell (p := ⟨wc.heap.size + 1, 4, none⟩) n1
          rw [x0] at x0q
          have m1 : wc.heap.size + 1 < wq.heap.size := by have := hq.size; omega
          have m2 : wc.heap.size + 1 ≤ wq.heap.size := by omega
          generalize d2 p5 = dp at *
          clear x0
          go_wp2_with fail
          refine region_below (by kernel_rfl) (by kernel_rfl) ?_
          repeat (go_big_quiet_step ((go_at_call 27; exact lt_call (hd _))))
          refine wpQuiet_nil ?_
          rintro wv ⟨⟨_, hv⟩, rfl⟩
          go_wp2_with fail
          go_roundw
          case rel => exact ⟨5, by omega, by go_num, by rw [HE.out]; simp, bto (bto hbr.out hq) hv⟩
          case measure => simp [intOf]
        · have HE := hide (show accS [p1, p2, p3, p4, p5, p6] 5 = o by rw [HG.out]; exact if_neg z)
          have x0q := hq.cell (p := ⟨wc.heap.size + 1, 4, none⟩) n1
          rw [x0] at x0q
          clear x0
          go_wp2_with fail
          go_roundw
          case rel => exact ⟨5, by omega, by go_num, by rw [HE.out], bto hbr.out hq⟩
          case measure => simp [intOf]
      · have x0 := Xr.out.cell 5
        simp at x0
        have hd := dec_any p6
        have hx : (S [89, 77, 68, 72, 77, 83]).extract 5 6 = S [83] := S_cut _ _ _
        have n1 : wc.heap.size + 1 < wr.heap.size := by omega
        have n2 : wc.heap.size + 1 ≤ wr.heap.size := by omega
        have HG := hide (show accS [p1, p2, p3, p4, p5, p6] 6 = ptS o p6 83 by show ptS (accS [p1, p2, p3, p4, p5, p6] 5) p6 83 = _; rw [← HO.out])
        go_wp2_with fail
        refine region_below (by kernel_rfl) (by kernel_rfl) ?_
        repeat (go_big_quiet_step (fail))
        refine wpQuiet_nil ?_
        rintro wq ⟨⟨_, hq⟩, rfl⟩
        by_cases z : 0 < p6
        · have HE := hide (show accS [p1, p2, p3, p4, p5, p6] 6 = o ++ d2 p6 ++ [83] by rw [HG.out]; exact if_pos z)
          have ld : (((d2 p6).length : Nat) : Int) ≤ 2 := by have := d2_len p6; omega
          replace hd := fun W => hd W (by omega) (by omega)
          have x0q := hq.cell (p := ⟨wc.heap.size + 1, 5, none⟩) n1
          rw [x0] at x0q
          have m1 : wc.heap.size + 1 < wq.heap.size := by have := hq.size; omega
          have m2 : wc.heap.size + 1 ≤ wq.heap.size := by omega
          generalize d2 p6 = dp at *
          clear x0
          go_wp2_with fail
          refine region_below (by kernel_rfl) (by kernel_rfl) ?_
          repeat (go_big_quiet_step ((go_at_call 27; exact lt_call (hd _))))
          refine wpQuiet_nil ?_
          rintro wv ⟨⟨_, hv⟩, rfl⟩
          go_wp2_with fail
          go_roundw
          case rel => exact ⟨6, by omega, by go_num, by rw [HE.out]; simp, bto (bto hbr.out hq) hv⟩
          case measure => simp [intOf]
        · have HE := hide (show accS [p1, p2, p3, p4, p5, p6] 6 = o by rw [HG.out]; exact if_neg z)
          have x0q := hq.cell (p := ⟨wc.heap.size + 1, 5, none⟩) n1
          rw [x0] at x0q
          clear x0
          go_wp2_with fail
          go_roundw
          case rel => exact ⟨6, by omega, by go_num, by rw [HE.out], bto hbr.out hq⟩
          case measure => simp [intOf]
    · obtain rfl : k = 6 := by omega
      have g := gN.out
      clear HL
      have HA := hide hE.out
      generalize accS [p1, p2, p3, p4, p5, p6] 6 = out at *
      go_wp2_with fail
      go_ret
      exact ⟨by rw [← HA.out]; rfl, bto B2.out hb⟩
end Go.Proofs.YtinemkjoohgmjaaDoor
