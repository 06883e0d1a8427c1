/- Contracts: a stamp a period later (the reference's). -/
import Derived.Test.YtaagomchjklgaaaDoorSg2
import Derived.Test.YtaagomchjklgaaaDoorSf5
import Derived.Test.YtaagomchjklgaaaDoorSt5
import Derived.Deep.RegionHeld3
namespace Go.Proofs.YtaagomchjklgaaaDoor
open Go.RowKit

section
attribute [local go_sem] lt_cell cell_sp sp_alloc sp_drew sp_new storeP_sp
attribute [local go_sem ↓] storeP_eq
set_option maxRecDepth 100000 in
set_option maxHeartbeats 4000000 in
theorem spec_sp (y mo d h mi s ms o p1 p2 p3 p4 p5 p6 : Int) (w : World) :
    Calls Tryd.prog 49 #[.agg #[.int .i64 y, .int .i64 mo, .int .i64 d, .int .i64 h, .int .i64 mi, .int .i64 s, .int .i64 ms, .int .i64 o], .agg #[.int .i64 p1, .int .i64 p2, .int .i64 p3, .int .i64 p4, .int .i64 p5, .int .i64 p6], .bool false] w (RetS (stP ⟨y, mo, d, h, mi, s, ms, o⟩ p1 p2 p3 p4 p5 p6) w) := by
  have X0 := hide (((Blk.new w 37 #[.int .i64 y, .int .i64 mo, .int .i64 d, .int .i64 h, .int .i64 mi, .int .i64 s, .int .i64 ms, .int .i64 o]).alloc (.cells #[.int .i64 p1, .int .i64 p2, .int .i64 p3, .int .i64 p4, .int .i64 p5, .int .i64 p6] 38)).alloc (.cells #[.int .i64 0, .int .i64 0, .int .i64 0, .int .i64 0, .int .i64 0, .int .i64 0, .int .i64 0, .int .i64 0] 37))
  have P0 := hide ((Blk.newE (W := w.alloc (.cells #[.int .i64 y, .int .i64 mo, .int .i64 d, .int .i64 h, .int .i64 mi, .int .i64 s, .int .i64 ms, .int .i64 o] 37)) (g := w.heap.size + 1) (t := 38) (cs := #[.int .i64 p1, .int .i64 p2, .int .i64 p3, .int .i64 p4, .int .i64 p5, .int .i64 p6]) (by simp)).alloc (.cells #[.int .i64 0, .int .i64 0, .int .i64 0, .int .i64 0, .int .i64 0, .int .i64 0, .int .i64 0, .int .i64 0] 37))
  have R0 := hide (Blk.newE (W := (w.alloc (.cells #[.int .i64 y, .int .i64 mo, .int .i64 d, .int .i64 h, .int .i64 mi, .int .i64 s, .int .i64 ms, .int .i64 o] 37)).alloc (.cells #[.int .i64 p1, .int .i64 p2, .int .i64 p3, .int .i64 p4, .int .i64 p5, .int .i64 p6] 38)) (g := w.heap.size + 1 + 1) (t := 37) (cs := #[.int .i64 0, .int .i64 0, .int .i64 0, .int .i64 0, .int .i64 0, .int .i64 0, .int .i64 0, .int .i64 0]) (by simp))
  have B0 := hide (bal (bal (bal (Below.refl w.heap.size w) (.cells #[.int .i64 y, .int .i64 mo, .int .i64 d, .int .i64 h, .int .i64 mi, .int .i64 s, .int .i64 ms, .int .i64 o] 37)) (.cells #[.int .i64 p1, .int .i64 p2, .int .i64 p3, .int .i64 p4, .int .i64 p5, .int .i64 p6] 38)) (.cells #[.int .i64 0, .int .i64 0, .int .i64 0, .int .i64 0, .int .i64 0, .int .i64 0, .int .i64 0, .int .i64 0] 37))
  go_enter Tryd.func49, Tryd.ntmps49
  go_wp2_with fail
  refine (spec_sv ⟨y, mo, d, h, mi, s, ms, o⟩ _).mono ?_
  rintro e w1 ⟨rfl, hb1⟩
  have X1 := hide (X0.out.below hb1 X0.out.lt)
  have P1 := hide (P0.out.below hb1 P0.out.lt)
  have R1 := hide (R0.out.below hb1 R0.out.lt)
  have B1 := hide (bto B0.out hb1)
  clear X0 P0 R0 B0 hb1
  cases hx : S8.ok ⟨y, mo, d, h, mi, s, ms, o⟩ with
  | false =>
    have HR := hide (show stP ⟨y, mo, d, h, mi, s, ms, o⟩ p1 p2 p3 p4 p5 p6 = (s0, false) by unfold stP; rw [hx]; rfl)
    have hsp := R1.out.sp rfl
    go_wp2_with fail
    refine bodyPost_ret (by simp [results, Tryd.results49, go_sem, cell_sp hsp]; try rfl) rfl ?_
    exact ⟨by rw [HR.out]; rfl, brow B1.out (by omega) _⟩
  | true =>
    have HX := hide hx
    clear hx
    have q0 := P1.out.cell 0
    have q1 := P1.out.cell 1
    have q2 := P1.out.cell 2
    have q3 := P1.out.cell 3
    have q4 := P1.out.cell 4
    have q5 := P1.out.cell 5
    simp at q0 q1 q2 q3 q4 q5
    go_wp2_with fail
    refine (spec_pv p1 p2 p3 p4 p5 p6 _).mono ?_
    rintro e w2 ⟨rfl, hb2⟩
    have X2 := hide (X1.out.below hb2 X1.out.lt)
    have P2 := hide (P1.out.below hb2 P1.out.lt)
    have R2 := hide (R1.out.below hb2 R1.out.lt)
    have B2 := hide (bto B1.out hb2)
    clear X1 P1 R1 B1 hb2
    clear q0 q1 q2 q3 q4 q5
    cases hp : pvB p1 p2 p3 p4 p5 p6 with
    | false =>
      have HR := hide (show stP ⟨y, mo, d, h, mi, s, ms, o⟩ p1 p2 p3 p4 p5 p6 = (s0, false) by unfold stP; rw [hp]; simp)
      have hsp := R2.out.sp rfl
      go_wp2_with fail
      refine bodyPost_ret (by simp [results, Tryd.results49, go_sem, cell_sp hsp]; try rfl) rfl ?_
      exact ⟨by rw [HR.out]; rfl, brow B2.out (by omega) _⟩
    | true =>
      have HP := hide hp
      have HR := hide (show stP ⟨y, mo, d, h, mi, s, ms, o⟩ p1 p2 p3 p4 p5 p6 = spN ⟨y, mo, d, h, mi, s, ms, o⟩ (12 * p1 + p2) p3 ((p4 * 60 + p5) * 60 + p6) by unfold stP; rw [hp, HX.out]; rfl)
      have HV := hide (S8.ok_in HX.out).1
      obtain ⟨pa1, pa2, pa3, pa4, pa5, pa6⟩ := pvB_iff.1 hp
      clear hp
      have ww : ∀ w', Below w2.heap.size w2 w' → w'.cell? ⟨w.heap.size, 0, none⟩ = some (.int .i64 y) ∧ w'.cell? ⟨w.heap.size, 1, none⟩ = some (.int .i64 mo) ∧ w'.cell? ⟨w.heap.size, 2, none⟩ = some (.int .i64 d) ∧ w'.cell? ⟨w.heap.size + 1, 0, none⟩ = some (.int .i64 p1) ∧ w'.cell? ⟨w.heap.size + 1, 1, none⟩ = some (.int .i64 p2) ∧ w'.cell? ⟨w.heap.size + 1, 2, none⟩ = some (.int .i64 p3) ∧ w'.cell? ⟨w.heap.size + 1, 3, none⟩ = some (.int .i64 p4) ∧ w'.cell? ⟨w.heap.size + 1, 4, none⟩ = some (.int .i64 p5) ∧ w'.cell? ⟨w.heap.size + 1, 5, none⟩ = some (.int .i64 p6) := fun w' k => ⟨(X2.out.below k X2.out.lt).cell 0, (X2.out.below k X2.out.lt).cell 1, (X2.out.below k X2.out.lt).cell 2, (P2.out.below k P2.out.lt).cell 0, (P2.out.below k P2.out.lt).cell 1, (P2.out.below k P2.out.lt).cell 2, (P2.out.below k P2.out.lt).cell 3, (P2.out.below k P2.out.lt).cell 4, (P2.out.below k P2.out.lt).cell 5⟩
      have hgl := R2.out.lt
      go_upto_region 3 with fail
      go_cut [8, 9] from 20 to 28 (fun t8 t9 wx => ∃ (dB : Nat) (a b c : Int) (ok : Bool), t8 = .pointer (some ⟨dB, 0, none⟩) ∧ t9 = .bool ok ∧ Hid (IsD y mo d (12 * p1 + p2) p3 a b c ok) ∧ Hid (Blk wx dB 34 #[.int .i64 a, .int .i64 b, .int .i64 c]) ∧ Hid (Blk wx (w.heap.size) 37 #[.int .i64 y, .int .i64 mo, .int .i64 d, .int .i64 h, .int .i64 mi, .int .i64 s, .int .i64 ms, .int .i64 o]) ∧ Hid (Blk wx (w.heap.size + 1) 38 #[.int .i64 p1, .int .i64 p2, .int .i64 p3, .int .i64 p4, .int .i64 p5, .int .i64 p6]) ∧ Hid (Blk wx (w.heap.size + 1 + 1) 37 #[.int .i64 0, .int .i64 0, .int .i64 0, .int .i64 0, .int .i64 0, .int .i64 0, .int .i64 0, .int .i64 0]) ∧ Hid (Below w.heap.size w wx))
      case first =>
        go_region_held3 (fun w' => w'.cell? ⟨w.heap.size, 0, none⟩ = some (.int .i64 y) ∧ w'.cell? ⟨w.heap.size, 1, none⟩ = some (.int .i64 mo) ∧ w'.cell? ⟨w.heap.size, 2, none⟩ = some (.int .i64 d) ∧ w'.cell? ⟨w.heap.size + 1, 0, none⟩ = some (.int .i64 p1) ∧ w'.cell? ⟨w.heap.size + 1, 1, none⟩ = some (.int .i64 p2) ∧ w'.cell? ⟨w.heap.size + 1, 2, none⟩ = some (.int .i64 p3) ∧ w'.cell? ⟨w.heap.size + 1, 3, none⟩ = some (.int .i64 p4) ∧ w'.cell? ⟨w.heap.size + 1, 4, none⟩ = some (.int .i64 p5) ∧ w'.cell? ⟨w.heap.size + 1, 5, none⟩ = some (.int .i64 p6)) (first | (refine ww _ ?_; (repeat' first | (with_reducible exact kd) | (with_reducible exact Below.refl _ _) | (with_reducible apply bdrew) | (with_reducible apply bal) | ((with_reducible refine bset ?_ ?_ _); rotate_left; focus (first | omega | (simp; done) | (simp; omega)))); done)) (first | (go_at_call 78; refine (spec_sign _).mono ?_; rintro e w' ⟨rfl, rfl⟩) | (go_at_call 77; refine (spec_ld y mo d p1 p2 p3 p4 p5 p6 _ HV.out HP.out).mono ?_; rintro e w4 ⟨⟨a, b, c, ok, rfl, hr⟩, hb4⟩; (first | (have kd : Below w2.heap.size w2 w4 := bto (bdrew (Below.refl _ _)) hb4; have D4 := True.intro) | (have kd : Below w2.heap.size w2 w4 := bto (bal (bdrew (Below.refl _ _)) (.cells #[.int .i64 0, .int .i64 0, .int .i64 0] 34)) hb4; have D4 := hide ((Blk.newE (W := w2.drew) (g := w2.heap.size) (t := 34) (cs := #[.int .i64 0, .int .i64 0, .int .i64 0]) rfl).below hb4 (Blk.newE (W := w2.drew) (g := w2.heap.size) (t := 34) (cs := #[.int .i64 0, .int .i64 0, .int .i64 0]) rfl).lt); have e0 := D4.out.cell 0; have e1 := D4.out.cell 1; have e2 := D4.out.cell 2; have g0 := D4.out.frozen 0; have g1 := D4.out.frozen 1; have g2 := D4.out.frozen 2; simp at e0 e1 e2)); have hle4 := kd.size))
        all_goals
          rename_i hS
          clear hS ww
          go_wp2_with fail
          go_meet
          have X4 := X2.out.below kd X2.out.lt
          have P4 := P2.out.below kd P2.out.lt
          have R4 := R2.out.below kd R2.out.lt
          have B4 := bto B2.out kd
          first
          | exact ⟨w2.heap.size, a, b, c, ok, rfl, rfl, hr, hide (D4.out.set3 (.int .i64 a) (.int .i64 b) (.int .i64 c)), hide (X4.far3 (show w.heap.size ≠ w2.heap.size by omega) (.int .i64 a) (.int .i64 b) (.int .i64 c)), hide (P4.far3 (show w.heap.size + 1 ≠ w2.heap.size by omega) (.int .i64 a) (.int .i64 b) (.int .i64 c)), hide (R4.far3 (show w.heap.size + 1 + 1 ≠ w2.heap.size by omega) (.int .i64 a) (.int .i64 b) (.int .i64 c)), hide (bset3 B4 (show w.heap.size ≤ w2.heap.size by omega) (.int .i64 a) (.int .i64 b) (.int .i64 c))⟩
          | exact ⟨w4.heap.size, a, b, c, ok, rfl, rfl, hr, hide (Blk.new w4 34 #[.int .i64 a, .int .i64 b, .int .i64 c]), hide (X4.alloc (.cells #[.int .i64 a, .int .i64 b, .int .i64 c] 34)), hide (P4.alloc (.cells #[.int .i64 a, .int .i64 b, .int .i64 c] 34)), hide (R4.alloc (.cells #[.int .i64 a, .int .i64 b, .int .i64 c] 34)), hide (bal B4 (.cells #[.int .i64 a, .int .i64 b, .int .i64 c] 34))⟩
      case rest =>
        clear ww X2 P2 R2 B2 hgl
        obtain ⟨dB, a, b, c, ok, rfl, rfl, hr, D5, X5, P5, R5, B5⟩ := hcut
        cases ok with
        | false =>
          have HF := hide (show spN ⟨y, mo, d, h, mi, s, ms, o⟩ (12 * p1 + p2) p3 ((p4 * 60 + p5) * 60 + p6) = (s0, false) from by
            rcases hr.out with ⟨_, _, _, _, hf⟩ | ⟨hf, _⟩
            · simp at hf
            · unfold spN; simp only; rw [hf]; rfl)
          have hsp := R5.out.sp rfl
          have BB := hide (brow B5.out (show w.heap.size ≤ w.heap.size + 1 + 1 by omega) #[.int .i64 0, .int .i64 0, .int .i64 0, .int .i64 0, .int .i64 0, .int .i64 0, .int .i64 0, .int .i64 0])
          clear X5 P5 R5 B5 D5
          go_wp2_with fail
          refine bodyPost_ret (by simp [results, Tryd.results49, go_sem, cell_sp hsp]; try rfl) rfl ?_
          exact ⟨by rw [HR.out, HF.out]; rfl, BB.out⟩
        | true =>
          obtain ⟨hok2, hins, hdp⟩ := dateD_ok HX.out (show 0 ≤ 12 * p1 + p2 by omega) pa3.1 hr.out
          have HF := hide (show spN ⟨y, mo, d, h, mi, s, ms, o⟩ (12 * p1 + p2) p3 ((p4 * 60 + p5) * 60 + p6) = stAt (S8.ins ⟨a, b, c, h, mi, s, ms, o⟩ + 1000 * (60 * (60 * p4 + p5) + p6)) o from by
            unfold spN; simp only; rw [hdp, if_pos rfl, hins, show 60 * (60 * p4 + p5) + p6 = (p4 * 60 + p5) * 60 + p6 by omega])
          have HOK := hide hok2
          have hib := S8.ins_bd hok2
          clear hok2 hins hdp hr
          have e0 := D5.out.cell 0
          have e1 := D5.out.cell 1
          have e2 := D5.out.cell 2
          have x3 := X5.out.cell 3
          have x4 := X5.out.cell 4
          have x5 := X5.out.cell 5
          have x6 := X5.out.cell 6
          have x7 := X5.out.cell 7
          simp at e0 e1 e2 x3 x4 x5 x6 x7
          go_wp2_with fail
          have hgl5 := R5.out.lt
          have Y6 := hide ((Blk.new wc 37 #[.int .i64 0, .int .i64 0, .int .i64 0, .int .i64 0, .int .i64 0, .int .i64 0, .int .i64 0, .int .i64 0]).setRow #[.int .i64 a, .int .i64 b, .int .i64 c, .int .i64 h, .int .i64 mi, .int .i64 s, .int .i64 ms, .int .i64 o])
          have X6 := hide ((X5.out.alloc (.cells #[.int .i64 0, .int .i64 0, .int .i64 0, .int .i64 0, .int .i64 0, .int .i64 0, .int .i64 0, .int .i64 0] 37)).setRow_far (k := wc.heap.size) (show w.heap.size ≠ wc.heap.size by omega) #[.int .i64 a, .int .i64 b, .int .i64 c, .int .i64 h, .int .i64 mi, .int .i64 s, .int .i64 ms, .int .i64 o])
          have P6 := hide ((P5.out.alloc (.cells #[.int .i64 0, .int .i64 0, .int .i64 0, .int .i64 0, .int .i64 0, .int .i64 0, .int .i64 0, .int .i64 0] 37)).setRow_far (k := wc.heap.size) (show w.heap.size + 1 ≠ wc.heap.size by omega) #[.int .i64 a, .int .i64 b, .int .i64 c, .int .i64 h, .int .i64 mi, .int .i64 s, .int .i64 ms, .int .i64 o])
          have R6 := hide ((R5.out.alloc (.cells #[.int .i64 0, .int .i64 0, .int .i64 0, .int .i64 0, .int .i64 0, .int .i64 0, .int .i64 0, .int .i64 0] 37)).setRow_far (k := wc.heap.size) (show w.heap.size + 1 + 1 ≠ wc.heap.size by omega) #[.int .i64 a, .int .i64 b, .int .i64 c, .int .i64 h, .int .i64 mi, .int .i64 s, .int .i64 ms, .int .i64 o])
          have B6 := hide (brow (bal B5.out (.cells #[.int .i64 0, .int .i64 0, .int .i64 0, .int .i64 0, .int .i64 0, .int .i64 0, .int .i64 0, .int .i64 0] 37)) (g := wc.heap.size) (show w.heap.size ≤ wc.heap.size by omega) #[.int .i64 a, .int .i64 b, .int .i64 c, .int .i64 h, .int .i64 mi, .int .i64 s, .int .i64 ms, .int .i64 o])
          clear D5 X5 P5 R5 B5 e0 e1 e2 x3 x4 x5 x6 x7
          generalize (wc.alloc (.cells #[.int .i64 0, .int .i64 0, .int .i64 0, .int .i64 0, .int .i64 0, .int .i64 0, .int .i64 0, .int .i64 0] 37)).setRow wc.heap.size #[.int .i64 a, .int .i64 b, .int .i64 c, .int .i64 h, .int .i64 mi, .int .i64 s, .int .i64 ms, .int .i64 o] = w6 at *
          generalize hgy : wc.heap.size = gY at *
          clear hgy
          have hI : ∀ W, Calls Tryd.prog 24 #[.agg #[.int .i64 a, .int .i64 b, .int .i64 c, .int .i64 h, .int .i64 mi, .int .i64 s, .int .i64 ms, .int .i64 o]] W fun e w' => e = .returned (.int .i64 (S8.ins ⟨a, b, c, h, mi, s, ms, o⟩)) ∧ Below W.heap.size W w' := fun W => spec_l12i ⟨a, b, c, h, mi, s, ms, o⟩ W HOK.out
          generalize hna : S8.ins ⟨a, b, c, h, mi, s, ms, o⟩ = na at *
          have HNA := hide hna
          clear hna
          have hspR : ∀ W, Below w6.heap.size w6 W → Sp W (w.heap.size + 1 + 1) := fun W k => (R6.out.below k R6.out.lt).sp rfl
          have hwr0 : IntKind.i64.wrap (60 * p4) = 60 * p4 := IntWalk.i64_in _ (by omega)
          have hwr1 : IntKind.i64.wrap (60 * p4 + p5) = 60 * p4 + p5 := IntWalk.i64_in _ (by omega)
          have hwr2 : IntKind.i64.wrap (60 * (60 * p4 + p5)) = 60 * (60 * p4 + p5) := IntWalk.i64_in _ (by omega)
          have hwr3 : IntKind.i64.wrap (60 * (60 * p4 + p5) + p6) = 60 * (60 * p4 + p5) + p6 := IntWalk.i64_in _ (by omega)
          have hwr4 : IntKind.i64.wrap (1000 * (60 * (60 * p4 + p5) + p6)) = 1000 * (60 * (60 * p4 + p5) + p6) := IntWalk.i64_in _ (by omega)
          have hwr5 : IntKind.i64.wrap (na + 1000 * (60 * (60 * p4 + p5) + p6)) = na + 1000 * (60 * (60 * p4 + p5) + p6) := IntWalk.i64_in _ (by omega)
          have hwrK : IntKind.i64.wrap 1000 = 1000 := IntWalk.i64_in _ (by omega)
          obtain ⟨sq, esq⟩ : ∃ sq, sq = stAt (na + 1000 * (60 * (60 * p4 + p5) + p6)) o := ⟨_, rfl⟩
          have hSA : ∀ W, Calls Tryd.prog 79 #[.int .i64 (na + 1000 * (60 * (60 * p4 + p5) + p6)), .int .i64 o] W (RetS sq W) := fun W => by rw [esq]; exact spec_stampAt _ _ _
          rw [← esq] at HF
          clear esq
          obtain ⟨⟨Y, M, D, H, I, S, L, O⟩, okb⟩ := sq
          unfold RetS at hSA
          simp only [S8.v] at hSA
          have ww : ∀ w', Below w6.heap.size w6 w' → w'.cell? ⟨gY, 0, none⟩ = some (.int .i64 a) ∧ w'.cell? ⟨gY, 1, none⟩ = some (.int .i64 b) ∧ w'.cell? ⟨gY, 2, none⟩ = some (.int .i64 c) ∧ w'.cell? ⟨gY, 3, none⟩ = some (.int .i64 h) ∧ w'.cell? ⟨gY, 4, none⟩ = some (.int .i64 mi) ∧ w'.cell? ⟨gY, 5, none⟩ = some (.int .i64 s) ∧ w'.cell? ⟨gY, 6, none⟩ = some (.int .i64 ms) ∧ w'.cell? ⟨gY, 7, none⟩ = some (.int .i64 o) ∧ w'.cell? ⟨w.heap.size + 1, 3, none⟩ = some (.int .i64 p4) ∧ w'.cell? ⟨w.heap.size + 1, 4, none⟩ = some (.int .i64 p5) ∧ w'.cell? ⟨w.heap.size + 1, 5, none⟩ = some (.int .i64 p6) ∧ w'.cell? ⟨w.heap.size, 7, none⟩ = some (.int .i64 o) := fun w' k => ⟨(Y6.out.below k Y6.out.lt).cell 0, (Y6.out.below k Y6.out.lt).cell 1, (Y6.out.below k Y6.out.lt).cell 2, (Y6.out.below k Y6.out.lt).cell 3, (Y6.out.below k Y6.out.lt).cell 4, (Y6.out.below k Y6.out.lt).cell 5, (Y6.out.below k Y6.out.lt).cell 6, (Y6.out.below k Y6.out.lt).cell 7, (P6.out.below k P6.out.lt).cell 3, (P6.out.below k P6.out.lt).cell 4, (P6.out.below k P6.out.lt).cell 5, (X6.out.below k X6.out.lt).cell 7⟩
          have wr : ∀ (w' : World) (cs : Array Value), Below w6.heap.size w6 w' → (fun w' => w'.cell? ⟨gY, 0, none⟩ = some (.int .i64 a) ∧ w'.cell? ⟨gY, 1, none⟩ = some (.int .i64 b) ∧ w'.cell? ⟨gY, 2, none⟩ = some (.int .i64 c) ∧ w'.cell? ⟨gY, 3, none⟩ = some (.int .i64 h) ∧ w'.cell? ⟨gY, 4, none⟩ = some (.int .i64 mi) ∧ w'.cell? ⟨gY, 5, none⟩ = some (.int .i64 s) ∧ w'.cell? ⟨gY, 6, none⟩ = some (.int .i64 ms) ∧ w'.cell? ⟨gY, 7, none⟩ = some (.int .i64 o) ∧ w'.cell? ⟨w.heap.size + 1, 3, none⟩ = some (.int .i64 p4) ∧ w'.cell? ⟨w.heap.size + 1, 4, none⟩ = some (.int .i64 p5) ∧ w'.cell? ⟨w.heap.size + 1, 5, none⟩ = some (.int .i64 p6) ∧ w'.cell? ⟨w.heap.size, 7, none⟩ = some (.int .i64 o)) (w'.setRow (w.heap.size + 1 + 1) cs) := fun w' cs k => ⟨((Y6.out.below k Y6.out.lt).setRow_far (by omega) cs).cell 0, ((Y6.out.below k Y6.out.lt).setRow_far (by omega) cs).cell 1, ((Y6.out.below k Y6.out.lt).setRow_far (by omega) cs).cell 2, ((Y6.out.below k Y6.out.lt).setRow_far (by omega) cs).cell 3, ((Y6.out.below k Y6.out.lt).setRow_far (by omega) cs).cell 4, ((Y6.out.below k Y6.out.lt).setRow_far (by omega) cs).cell 5, ((Y6.out.below k Y6.out.lt).setRow_far (by omega) cs).cell 6, ((Y6.out.below k Y6.out.lt).setRow_far (by omega) cs).cell 7, ((P6.out.below k P6.out.lt).setRow_far (by omega) cs).cell 3, ((P6.out.below k P6.out.lt).setRow_far (by omega) cs).cell 4, ((P6.out.below k P6.out.lt).setRow_far (by omega) cs).cell 5, ((X6.out.below k X6.out.lt).setRow_far (by omega) cs).cell 7⟩
          go_region_held3 (fun w' => w'.cell? ⟨gY, 0, none⟩ = some (.int .i64 a) ∧ w'.cell? ⟨gY, 1, none⟩ = some (.int .i64 b) ∧ w'.cell? ⟨gY, 2, none⟩ = some (.int .i64 c) ∧ w'.cell? ⟨gY, 3, none⟩ = some (.int .i64 h) ∧ w'.cell? ⟨gY, 4, none⟩ = some (.int .i64 mi) ∧ w'.cell? ⟨gY, 5, none⟩ = some (.int .i64 s) ∧ w'.cell? ⟨gY, 6, none⟩ = some (.int .i64 ms) ∧ w'.cell? ⟨gY, 7, none⟩ = some (.int .i64 o) ∧ w'.cell? ⟨w.heap.size + 1, 3, none⟩ = some (.int .i64 p4) ∧ w'.cell? ⟨w.heap.size + 1, 4, none⟩ = some (.int .i64 p5) ∧ w'.cell? ⟨w.heap.size + 1, 5, none⟩ = some (.int .i64 p6) ∧ w'.cell? ⟨w.heap.size, 7, none⟩ = some (.int .i64 o)) (first | (with_reducible exact ww _ kf) | (with_reducible exact wr _ _ kf) | (with_reducible exact ww _ kd) | (with_reducible exact ww _ (bdrew (Below.refl _ _)))) (first | (go_at_call 24; (with_reducible refine (hI _).mono ?_); rintro e w8 ⟨rfl, hb8⟩; have kd : Below w6.heap.size w6 w8 := bto (bdrew (Below.refl _ _)) hb8) | (go_at_call 78; refine (spec_sign _).mono ?_; rintro e w' ⟨rfl, rfl⟩) | (go_at_call 79; (try rw [hwrK]); (try rw [hwr4]); (try rw [hwr5]); (with_reducible refine (hSA _).mono ?_); rintro e w9 ⟨rfl, hb9⟩; have kf : Below w6.heap.size w6 w9 := bto kd hb9; have hsp9 := hspR _ kf))
          all_goals
            rename_i hS
            clear hS ww wr
            go_wp2_with fail
            refine bodyPost_ret (by simp [results, Tryd.results49, go_sem, cell_sp hsp9]; try rfl) rfl ?_
            exact ⟨by rw [HR.out, HF.out]; rfl, brow (bto B6.out kf) (show w.heap.size ≤ w.heap.size + 1 + 1 by omega) _⟩
end
end Go.Proofs.YtaagomchjklgaaaDoor
