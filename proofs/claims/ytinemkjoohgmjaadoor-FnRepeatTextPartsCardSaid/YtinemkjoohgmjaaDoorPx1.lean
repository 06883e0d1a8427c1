/- Contracts: a period's text (the program's). -/
import Derived.Test.YtinemkjoohgmjaaDoorTx8
import Derived.Test.YtinemkjoohgmjaaDoorRp
import Derived.Deep.CutRange
namespace Go.Proofs.YtinemkjoohgmjaaDoor
open Go.RowKit
attribute [local go_sem] S_mk S_size S_app p1_len p2_len p3_len p4_len lt_cell

/-- One part more. -/
def ptI (o : List UInt8 × Bool) (p : Int) (c : UInt8) (t : Bool) : List UInt8 × Bool :=
  if p = 0 then o else if t && !o.2 then (o.1 ++ [84] ++ (d2 p ++ [c]), true) else (o.1 ++ (d2 p ++ [c]), o.2)
def ltr (k : Nat) : UInt8 := ([89, 77, 68, 72, 77, 83] : List UInt8).getD k 0
/-- The text behind k parts, and whether the T stands in it. -/
def accI (ps : List Int) : Nat → List UInt8 × Bool
  | 0 => ([80], false)
  | k + 1 => ptI (accI ps k) (ps.getD k 0) (ltr k) (decide (3 ≤ k))
theorem ptI_len (o : List UInt8 × Bool) (p : Int) (c : UInt8) (t : Bool) : (ptI o p c t).1.length ≤ o.1.length + 4 := by
  have := d2_len p
  unfold ptI
  split
  · omega
  · split <;> simp <;> omega
theorem accI_len (ps : List Int) : ∀ k, (accI ps k).1.length ≤ 1 + 4 * k
  | 0 => by simp [accI]
  | k + 1 => by
    have := accI_len ps k
    have h := ptI_len (accI ps k) (ps.getD k 0) (ltr k) (decide (3 ≤ k))
    show (ptI (accI ps k) (ps.getD k 0) (ltr k) (decide (3 ≤ k))).1.length ≤ _
    omega
def perT (p1 p2 p3 p4 p5 p6 : Int) : List UInt8 := (accI [p1, p2, p3, p4, p5, p6] 6).1
theorem perT_len (p1 p2 p3 p4 p5 p6 : Int) : (perT p1 p2 p3 p4 p5 p6).length ≤ 25 := accI_len _ 6
/-- A period with small parts, not all of them 0. -/
def smB (p1 p2 p3 p4 p5 p6 : Int) : Prop := (0 ≤ p1 ∧ p1 ≤ 99) ∧ (0 ≤ p2 ∧ p2 ≤ 99) ∧ (0 ≤ p3 ∧ p3 ≤ 99) ∧ (0 ≤ p4 ∧ p4 ≤ 99) ∧ (0 ≤ p5 ∧ p5 ≤ 99) ∧ (0 ≤ p6 ∧ p6 ≤ 99) ∧ 1 ≤ p1 + p2 + p3 + p4 + p5 + p6

set_option maxRecDepth 100000 in
set_option maxHeartbeats 2000000 in
theorem impl_perT (p1 p2 p3 p4 p5 p6 : Int) (w : World) (hs : smB p1 p2 p3 p4 p5 p6) :
    Calls Tryd.prog 15 #[.agg #[.int .i64 p1, .int .i64 p2, .int .i64 p3, .int .i64 p4, .int .i64 p5, .int .i64 p6]] w fun e w' => e = .returned (.string (S (perT p1 p2 p3 p4 p5 p6))) ∧ Below w.heap.size w w' := by
  have hs' := hs
  obtain ⟨⟨a1, b1⟩, ⟨a2, b2⟩, ⟨a3, b3⟩, ⟨a4, b4⟩, ⟨a5, b5⟩, ⟨a6, b6⟩, hsum⟩ := hs
  have hv : pvB p1 p2 p3 p4 p5 p6 = true := by unfold pvB; rw [inB_true a1 (show p1 ≤ 9999 by omega), inB_true a2 (show p2 ≤ 9999 by omega), inB_true a3 (show p3 ≤ 9999 by omega), inB_true a4 (show p4 ≤ 9999 by omega), inB_true a5 (show p5 ≤ 9999 by omega), inB_true a6 (show p6 ≤ 9999 by omega)]; rfl
  have hpv := impl_pv p1 p2 p3 p4 p5 p6
  rw [hv] at hpv
  have B0 := hide (bal (Below.refl w.heap.size w) (.cells #[.int .i64 p1, .int .i64 p2, .int .i64 p3, .int .i64 p4, .int .i64 p5, .int .i64 p6] 44))
  have X0 := hide (Blk.new w 44 #[.int .i64 p1, .int .i64 p2, .int .i64 p3, .int .i64 p4, .int .i64 p5, .int .i64 p6])
  go_enter Tryd.func15, Tryd.ntmps15
  go_wp2_with fail
  refine (hpv _).mono ?_
  rintro e w1 ⟨rfl, hb1⟩
  have X1 := hide (X0.out.below hb1 X0.out.lt)
  have B1 := hide (bto B0.out hb1)
  clear hb1 X0 B0 hpv hv
  have c0 := X1.out.cell 0
  have c1 := X1.out.cell 1
  have c2 := X1.out.cell 2
  have c3 := X1.out.cell 3
  have c4 := X1.out.cell 4
  have c5 := X1.out.cell 5
  simp at c0 c1 c2 c3 c4 c5
  go_upto_region 3 with fail
  go_cut [12] from 10 to 12 (fun t12 wx => t12 = .bool false ∧ wx = w1)
  case first =>
    cases h1 : p1 == 0 with
    | false =>
      go_wp2_with fail
      go_meet
      exact ⟨rfl, rfl⟩
    | true =>
      cases h2 : p2 == 0 with
      | false =>
        go_wp2_with fail
        go_meet
        exact ⟨rfl, rfl⟩
      | true =>
        cases h3 : p3 == 0 with
        | false =>
          go_wp2_with fail
          go_meet
          exact ⟨rfl, rfl⟩
        | true =>
          cases h4 : p4 == 0 with
          | false =>
            go_wp2_with fail
            go_meet
            exact ⟨rfl, rfl⟩
          | true =>
            cases h5 : p5 == 0 with
            | false =>
              go_wp2_with fail
              go_meet
              exact ⟨rfl, rfl⟩
            | true =>
              cases h6 : p6 == 0 with
              | false =>
                go_wp2_with fail
                go_meet
                exact ⟨rfl, rfl⟩
              | true =>
                exact absurd hsum (by simp only [beq_iff_eq] at h1 h2 h3 h4 h5 h6; omega)
  case rest =>
    obtain ⟨rfl, rfl⟩ := hcut
    clear c0 c1 c2 c3 c4 c5
    go_wp2_with fail
    refine (parts_any w.heap.size _).mono ?_
    rintro e w2 ⟨rfl, hq, hb2⟩
    have X2 := hide (X1.out.below hb2 X1.out.lt)
    have B2 := hide (bto B1.out hb2)
    have Q2 := hide hq
    clear hb2 hq X1 B1
    go_wp2_with fail
    have lx := X2.out.lt
    have lq := Q2.out.lt
    go_loopw [3, 4, 15] (fun s t i wr => ∃ k : Nat, k ≤ 6 ∧ i = .int .i64 k ∧ s = .string (S (accI [p1, p2, p3, p4, p5, p6] k).1) ∧ t = .bool (accI [p1, p2, p3, p4, p5, p6] k).2 ∧ Below w2.heap.size w2 wr) (fun _ _ i _ => 6 - (intOf i).toNat)
    case atStart => exact ⟨0, by omega, rfl, rfl, rfl, Below.refl _ _⟩
    case round =>
      obtain ⟨k, hk, rfl, rfl, rfl, hb⟩ := hrel
      have hsr := hb.size
      have HL := accI_len [p1, p2, p3, p4, p5, p6] k
      by_cases hlt : k < 6
      · obtain ⟨⟨o, t⟩, ho⟩ : ∃ r, r = accI [p1, p2, p3, p4, p5, p6] k := ⟨_, rfl⟩
        rw [← ho] at HL ⊢
        have lo : ((o.length : Nat) : Int) ≤ 30 := by
          simp only at HL
          omega
        have HO := hide ho
        clear HL ho
        have Xr := hide (X2.out.below hb lx)
        have Qr := hide (Q2.out.below hb lq)
        have HB := hide (bto B2.out hb)
        have hbr := hide hb
        clear hb
        rcases (show k = 0 ∨ k = 1 ∨ k = 2 ∨ k = 3 ∨ k = 4 ∨ k = 5 by omega) with rfl | rfl | rfl | rfl | rfl | rfl
        · have q0 := Qr.out.cell 0
          have q1 := Qr.out.cell 1
          have q2 := Qr.out.cell 2
          have x0 := Xr.out.cell 0
          simp at q0 q1 q2 x0
          have hd := itoa_any p1
          have he : Utf8.encode 89 = S [89] := by kernel_rfl
          have nx : w.heap.size < wr.heap.size := by omega
          by_cases z : p1 = 0
          · have HE := hide (show accI [p1, p2, p3, p4, p5, p6] 1 = (o, t) by show ptI (accI [p1, p2, p3, p4, p5, p6] 0) p1 89 false = _; rw [← HO.out]; unfold ptI; rw [if_pos z])
            have g : (p1 == 0) = true := by simp [z]
            clear z
            go_wp2_with fail
            go_roundw
            case rel => exact ⟨1, by omega, by go_num, by rw [HE.out], by rw [HE.out], bal hbr.out _⟩
            case measure => simp [intOf]
          · have g : (p1 == 0) = false := by simpa using z
            have ld : (((d2 p1).length : Nat) : Int) ≤ 2 := by have := d2_len p1; omega
            replace hd := fun W => hd W (by omega) (by omega)
            have HE := hide (show accI [p1, p2, p3, p4, p5, p6] 1 = (o ++ (d2 p1 ++ [89]), t) by show ptI (accI [p1, p2, p3, p4, p5, p6] 0) p1 89 false = _; rw [← HO.out]; unfold ptI; rw [if_neg z]; rfl)
            generalize d2 p1 = dp at *
            go_wp2_with fail
            refine region_below (by kernel_rfl) (by kernel_rfl) ?_
            repeat (go_big_quiet_step ((go_at_call 31; exact lt_same (hd _))))
            refine wpQuiet_nil ?_
            rintro wq ⟨⟨_, hq⟩, rfl⟩
            go_wp2_with fail
            go_roundw
            case rel => exact ⟨1, by omega, by go_num, by rw [HE.out], by rw [HE.out], bto (bal hbr.out _) hq⟩
            case measure => simp [intOf]
        · have q0 := Qr.out.cell 3
          have q1 := Qr.out.cell 4
          have q2 := Qr.out.cell 5
          have x0 := Xr.out.cell 1
          simp at q0 q1 q2 x0
          have hd := itoa_any p2
          have he : Utf8.encode 77 = S [77] := by kernel_rfl
          have nx : w.heap.size < wr.heap.size := by omega
          by_cases z : p2 = 0
          · have HE := hide (show accI [p1, p2, p3, p4, p5, p6] 2 = (o, t) by show ptI (accI [p1, p2, p3, p4, p5, p6] 1) p2 77 false = _; rw [← HO.out]; unfold ptI; rw [if_pos z])
            have g : (p2 == 0) = true := by simp [z]
            clear z
            go_wp2_with fail
            go_roundw
            case rel => exact ⟨2, by omega, by go_num, by rw [HE.out], by rw [HE.out], bal hbr.out _⟩
            case measure => simp [intOf]
          · have g : (p2 == 0) = false := by simpa using z
            have ld : (((d2 p2).length : Nat) : Int) ≤ 2 := by have := d2_len p2; omega
            replace hd := fun W => hd W (by omega) (by omega)
            have HE := hide (show accI [p1, p2, p3, p4, p5, p6] 2 = (o ++ (d2 p2 ++ [77]), t) by show ptI (accI [p1, p2, p3, p4, p5, p6] 1) p2 77 false = _; rw [← HO.out]; unfold ptI; rw [if_neg z]; rfl)
            generalize d2 p2 = dp at *
            go_wp2_with fail
            refine region_below (by kernel_rfl) (by kernel_rfl) ?_
            repeat (go_big_quiet_step ((go_at_call 31; exact lt_same (hd _))))
            refine wpQuiet_nil ?_
            rintro wq ⟨⟨_, hq⟩, rfl⟩
            go_wp2_with fail
            go_roundw
            case rel => exact ⟨2, by omega, by go_num, by rw [HE.out], by rw [HE.out], bto (bal hbr.out _) hq⟩
            case measure => simp [intOf]
        · have q0 := Qr.out.cell 6
          have q1 := Qr.out.cell 7
          have q2 := Qr.out.cell 8
          have x0 := Xr.out.cell 2
          simp at q0 q1 q2 x0
          have hd := itoa_any p3
          have he : Utf8.encode 68 = S [68] := by kernel_rfl
          have nx : w.heap.size < wr.heap.size := by omega
          by_cases z : p3 = 0
          · have HE := hide (show accI [p1, p2, p3, p4, p5, p6] 3 = (o, t) by show ptI (accI [p1, p2, p3, p4, p5, p6] 2) p3 68 false = _; rw [← HO.out]; unfold ptI; rw [if_pos z])
            have g : (p3 == 0) = true := by simp [z]
            clear z
            go_wp2_with fail
            go_roundw
            case rel => exact ⟨3, by omega, by go_num, by rw [HE.out], by rw [HE.out], bal hbr.out _⟩
            case measure => simp [intOf]
          · have g : (p3 == 0) = false := by simpa using z
            have ld : (((d2 p3).length : Nat) : Int) ≤ 2 := by have := d2_len p3; omega
            replace hd := fun W => hd W (by omega) (by omega)
            have HE := hide (show accI [p1, p2, p3, p4, p5, p6] 3 = (o ++ (d2 p3 ++ [68]), t) by show ptI (accI [p1, p2, p3, p4, p5, p6] 2) p3 68 false = _; rw [← HO.out]; unfold ptI; rw [if_neg z]; rfl)
            generalize d2 p3 = dp at *
            go_wp2_with fail
            refine region_below (by kernel_rfl) (by kernel_rfl) ?_
            repeat (go_big_quiet_step ((go_at_call 31; exact lt_same (hd _))))
            refine wpQuiet_nil ?_
            rintro wq ⟨⟨_, hq⟩, rfl⟩
            go_wp2_with fail
            go_roundw
            case rel => exact ⟨3, by omega, by go_num, by rw [HE.out], by rw [HE.out], bto (bal hbr.out _) hq⟩
            case measure => simp [intOf]
        · have q0 := Qr.out.cell 9
          have q1 := Qr.out.cell 10
          have q2 := Qr.out.cell 11
          have x0 := Xr.out.cell 3
          simp at q0 q1 q2 x0
          have hd := itoa_any p4
          have he : Utf8.encode 72 = S [72] := by kernel_rfl
          have nx : w.heap.size < wr.heap.size := by omega
          by_cases z : p4 = 0
          · have HE := hide (show accI [p1, p2, p3, p4, p5, p6] 4 = (o, t) by show ptI (accI [p1, p2, p3, p4, p5, p6] 3) p4 72 true = _; rw [← HO.out]; unfold ptI; rw [if_pos z])
            have g : (p4 == 0) = true := by simp [z]
            clear z
            go_wp2_with fail
            go_roundw
            case rel => exact ⟨4, by omega, by go_num, by rw [HE.out], by rw [HE.out], bal hbr.out _⟩
            case measure => simp [intOf]
          · have g : (p4 == 0) = false := by simpa using z
            have ld : (((d2 p4).length : Nat) : Int) ≤ 2 := by have := d2_len p4; omega
            replace hd := fun W => hd W (by omega) (by omega)
            cases t with
            | true =>
              have HE := hide (show accI [p1, p2, p3, p4, p5, p6] 4 = (o ++ (d2 p4 ++ [72]), true) by show ptI (accI [p1, p2, p3, p4, p5, p6] 3) p4 72 true = _; rw [← HO.out]; unfold ptI; rw [if_neg z]; rfl)
              generalize d2 p4 = dp at *
              go_wp2_with fail
              refine region_below (by kernel_rfl) (by kernel_rfl) ?_
              repeat (go_big_quiet_step ((go_at_call 31; exact lt_same (hd _))))
              refine wpQuiet_nil ?_
              rintro wq ⟨⟨_, hq⟩, rfl⟩
              go_wp2_with fail
              go_roundw
              case rel => exact ⟨4, by omega, by go_num, by rw [HE.out], by rw [HE.out], bto (bal hbr.out _) hq⟩
              case measure => simp [intOf]
            | false =>
              have HE := hide (show accI [p1, p2, p3, p4, p5, p6] 4 = (o ++ [84] ++ (d2 p4 ++ [72]), true) by show ptI (accI [p1, p2, p3, p4, p5, p6] 3) p4 72 true = _; rw [← HO.out]; unfold ptI; rw [if_neg z]; rfl)
              generalize d2 p4 = dp at *
              go_wp2_with fail
              refine region_below (by kernel_rfl) (by kernel_rfl) ?_
              repeat (go_big_quiet_step ((go_at_call 31; exact lt_same (hd _))))
              refine wpQuiet_nil ?_
              rintro wq ⟨⟨_, hq⟩, rfl⟩
              go_wp2_with fail
              go_roundw
              case rel => exact ⟨4, by omega, by go_num, by rw [HE.out]; simp, by rw [HE.out], bto (bal hbr.out _) hq⟩
              case measure => simp [intOf]
        · have q0 := Qr.out.cell 12
          have q1 := Qr.out.cell 13
          have q2 := Qr.out.cell 14
          have x0 := Xr.out.cell 4
          simp at q0 q1 q2 x0
          have hd := itoa_any p5
          have he : Utf8.encode 77 = S [77] := by kernel_rfl
          have nx : w.heap.size < wr.heap.size := by omega
          by_cases z : p5 = 0
          · have HE := hide (show accI [p1, p2, p3, p4, p5, p6] 5 = (o, t) by show ptI (accI [p1, p2, p3, p4, p5, p6] 4) p5 77 true = _; rw [← HO.out]; unfold ptI; rw [if_pos z])
            have g : (p5 == 0) = true := by simp [z]
            clear z
            go_wp2_with fail
            go_roundw
            case rel => exact ⟨5, by omega, by go_num, by rw [HE.out], by rw [HE.out], bal hbr.out _⟩
            case measure => simp [intOf]
          · have g : (p5 == 0) = false := by simpa using z
            have ld : (((d2 p5).length : Nat) : Int) ≤ 2 := by have := d2_len p5; omega
            replace hd := fun W => hd W (by omega) (by omega)
            cases t with
            | true =>
              have HE := hide (show accI [p1, p2, p3, p4, p5, p6] 5 = (o ++ (d2 p5 ++ [77]), true) by show ptI (accI [p1, p2, p3, p4, p5, p6] 4) p5 77 true = _; rw [← HO.out]; unfold ptI; rw [if_neg z]; rfl)
              generalize d2 p5 = dp at *
              go_wp2_with fail
              refine region_below (by kernel_rfl) (by kernel_rfl) ?_
              repeat (go_big_quiet_step ((go_at_call 31; exact lt_same (hd _))))
              refine wpQuiet_nil ?_
              rintro wq ⟨⟨_, hq⟩, rfl⟩
              go_wp2_with fail
              go_roundw
              case rel => exact ⟨5, by omega, by go_num, by rw [HE.out], by rw [HE.out], bto (bal hbr.out _) hq⟩
              case measure => simp [intOf]
            | false =>
              have HE := hide (show accI [p1, p2, p3, p4, p5, p6] 5 = (o ++ [84] ++ (d2 p5 ++ [77]), true) by show ptI (accI [p1, p2, p3, p4, p5, p6] 4) p5 77 true = _; rw [← HO.out]; unfold ptI; rw [if_neg z]; rfl)
              generalize d2 p5 = dp at *
              go_wp2_with fail
              refine region_below (by kernel_rfl) (by kernel_rfl) ?_
              repeat (go_big_quiet_step ((go_at_call 31; exact lt_same (hd _))))
              refine wpQuiet_nil ?_
              rintro wq ⟨⟨_, hq⟩, rfl⟩
              go_wp2_with fail
              go_roundw
              case rel => exact ⟨5, by omega, by go_num, by rw [HE.out]; simp, by rw [HE.out], bto (bal hbr.out _) hq⟩
              case measure => simp [intOf]
        · have q0 := Qr.out.cell 15
          have q1 := Qr.out.cell 16
          have q2 := Qr.out.cell 17
          have x0 := Xr.out.cell 5
          simp at q0 q1 q2 x0
          have hd := itoa_any p6
          have he : Utf8.encode 83 = S [83] := by kernel_rfl
          have nx : w.heap.size < wr.heap.size := by omega
          by_cases z : p6 = 0
          · have HE := hide (show accI [p1, p2, p3, p4, p5, p6] 6 = (o, t) by show ptI (accI [p1, p2, p3, p4, p5, p6] 5) p6 83 true = _; rw [← HO.out]; unfold ptI; rw [if_pos z])
            have g : (p6 == 0) = true := by simp [z]
            clear z
            go_wp2_with fail
            go_roundw
            case rel => exact ⟨6, by omega, by go_num, by rw [HE.out], by rw [HE.out], bal hbr.out _⟩
            case measure => simp [intOf]
          · have g : (p6 == 0) = false := by simpa using z
            have ld : (((d2 p6).length : Nat) : Int) ≤ 2 := by have := d2_len p6; omega
            replace hd := fun W => hd W (by omega) (by omega)
            cases t with
            | true =>
              have HE := hide (show accI [p1, p2, p3, p4, p5, p6] 6 = (o ++ (d2 p6 ++ [83]), true) by show ptI (accI [p1, p2, p3, p4, p5, p6] 5) p6 83 true = _; rw [← HO.out]; unfold ptI; rw [if_neg z]; rfl)
              generalize d2 p6 = dp at *
              go_wp2_with fail
              refine region_below (by kernel_rfl) (by kernel_rfl) ?_
              repeat (go_big_quiet_step ((go_at_call 31; exact lt_same (hd _))))
              refine wpQuiet_nil ?_
              rintro wq ⟨⟨_, hq⟩, rfl⟩
              go_wp2_with fail
              go_roundw
              case rel => exact ⟨6, by omega, by go_num, by rw [HE.out], by rw [HE.out], bto (bal hbr.out _) hq⟩
              case measure => simp [intOf]
            | false =>
              have HE := hide (show accI [p1, p2, p3, p4, p5, p6] 6 = (o ++ [84] ++ (d2 p6 ++ [83]), true) by show ptI (accI [p1, p2, p3, p4, p5, p6] 5) p6 83 true = _; rw [← HO.out]; unfold ptI; rw [if_neg z]; rfl)
              generalize d2 p6 = dp at *
              go_wp2_with fail
              refine region_below (by kernel_rfl) (by kernel_rfl) ?_
              repeat (go_big_quiet_step ((go_at_call 31; exact lt_same (hd _))))
              refine wpQuiet_nil ?_
              rintro wq ⟨⟨_, hq⟩, rfl⟩
              go_wp2_with fail
              go_roundw
              case rel => exact ⟨6, by omega, by go_num, by rw [HE.out]; simp, by rw [HE.out], bto (bal hbr.out _) hq⟩
              case measure => simp [intOf]
      · obtain rfl : k = 6 := by omega
        go_wp2_with fail
        go_ret
        exact ⟨rfl, bto B2.out hb⟩
end Go.Proofs.YtinemkjoohgmjaaDoor
