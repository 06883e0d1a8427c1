/- Contracts: a stamp a period later (the program's). -/
import Derived.Test.YtaagomchjklgaaaDoorSf4
import Derived.Deep.CutRange
namespace Go.Proofs.YtaagomchjklgaaaDoor
open Go.RowKit

/-- The stamp a period later. -/
noncomputable def stP (x : S8) (p1 p2 p3 p4 p5 p6 : Int) : S8 × Bool := if x.ok && pvB p1 p2 p3 p4 p5 p6 then spN x (12 * p1 + p2) p3 ((p4 * 60 + p5) * 60 + p6) else (s0, false)
theorem dateD_ok {y mo d k dd a b c : Int} {h mi s ms o : Int} (hx : S8.ok ⟨y, mo, d, h, mi, s, ms, o⟩ = true) (hk : 0 ≤ k) (hd : 0 ≤ dd) (hr : IsD y mo d k dd a b c true) :
    S8.ok ⟨a, b, c, h, mi, s, ms, o⟩ = true ∧ (∀ sec, S8.ins ⟨a, b, c, h, mi, s, ms, o⟩ + 1000 * sec = spI ⟨y, mo, d, h, mi, s, ms, o⟩ k dd sec) ∧ dpB y mo d k dd = true := by
  obtain ⟨h1, h2, h3⟩ := S8.ok_in hx
  rcases hr with ⟨e1, ea, eb, ec, _⟩ | ⟨_, _, _, _, hf⟩
  · have hp := dpN_bd (k := k) (dd := dd) h1 hk hd
    have hn := num_bd h1
    obtain ⟨e3, e4⟩ := dateD_in (n := dpN y mo d k dd) (show 0 ≤ dpN y mo d k dd by simp only at hp hn; omega) (dpB_iff.1 e1).2
    refine ⟨?_, ?_, e1⟩
    · unfold S8.ok
      simp only
      rw [ea, eb, ec, e3, h2, h3]
      rfl
    · intro sec
      unfold S8.ins S8.loc spI
      simp only
      rw [ea, eb, ec, e4]
  · simp at hf
theorem Blk.far3 {w : World} {g k : Nat} {t : TypeId} {cs : Array Value} (h : Blk w g t cs) (hk : g ≠ k) (u0 u1 u2 : Value) : Blk (((w.setCell ⟨k, 0, none⟩ u0).setCell ⟨k, 1, none⟩ u1).setCell ⟨k, 2, none⟩ u2) g t cs :=
  ((h.far (p := ⟨k, 0, none⟩) hk u0).far (p := ⟨k, 1, none⟩) hk u1).far (p := ⟨k, 2, none⟩) hk u2
theorem Blk.set3 {w : World} {k : Nat} {t : TypeId} {v0 v1 v2 : Value} (h : Blk w k t #[v0, v1, v2]) (u0 u1 u2 : Value) : Blk (((w.setCell ⟨k, 0, none⟩ u0).setCell ⟨k, 1, none⟩ u1).setCell ⟨k, 2, none⟩ u2) k t #[u0, u1, u2] := by
  have q := ((h.set_ 0 u0).set_ 1 u1).set_ 2 u2
  simp only [List.setIfInBounds_toArray, List.set_cons_zero, List.set_cons_succ] at q
  exact q
theorem bset3 {w0 w : World} {k : Nat} (h : Below w0.heap.size w0 w) (hk : w0.heap.size ≤ k) (u0 u1 u2 : Value) : Below w0.heap.size w0 (((w.setCell ⟨k, 0, none⟩ u0).setCell ⟨k, 1, none⟩ u1).setCell ⟨k, 2, none⟩ u2) :=
  bset (bset (bset h (p := ⟨k, 0, none⟩) hk u0) (p := ⟨k, 1, none⟩) hk u1) (p := ⟨k, 2, none⟩) hk u2
section
attribute [local go_sem] lt_cell cell_sp sp_alloc sp_drew sp_new storeP_sp
attribute [local go_sem ↓] storeP_eq
set_option maxRecDepth 100000 in
set_option maxHeartbeats 4000000 in
theorem impl_sp (y mo d h mi s ms o p1 p2 p3 p4 p5 p6 : Int) (w : World) (hM : MD w) :
    Calls Tryd.prog 18 #[.agg #[.int .i64 y, .int .i64 mo, .int .i64 d, .int .i64 h, .int .i64 mi, .int .i64 s, .int .i64 ms, .int .i64 o], .agg #[.int .i64 p1, .int .i64 p2, .int .i64 p3, .int .i64 p4, .int .i64 p5, .int .i64 p6], .bool false] w (RetS (stP ⟨y, mo, d, h, mi, s, ms, o⟩ p1 p2 p3 p4 p5 p6) w) := by
  have X0 := hide (((Blk.new w 37 #[.int .i64 y, .int .i64 mo, .int .i64 d, .int .i64 h, .int .i64 mi, .int .i64 s, .int .i64 ms, .int .i64 o]).alloc (.cells #[.int .i64 p1, .int .i64 p2, .int .i64 p3, .int .i64 p4, .int .i64 p5, .int .i64 p6] 38)).alloc (.cells #[.int .i64 0, .int .i64 0, .int .i64 0, .int .i64 0, .int .i64 0, .int .i64 0, .int .i64 0, .int .i64 0] 37))
  have P0 := hide ((Blk.newE (W := w.alloc (.cells #[.int .i64 y, .int .i64 mo, .int .i64 d, .int .i64 h, .int .i64 mi, .int .i64 s, .int .i64 ms, .int .i64 o] 37)) (g := w.heap.size + 1) (t := 38) (cs := #[.int .i64 p1, .int .i64 p2, .int .i64 p3, .int .i64 p4, .int .i64 p5, .int .i64 p6]) (by simp)).alloc (.cells #[.int .i64 0, .int .i64 0, .int .i64 0, .int .i64 0, .int .i64 0, .int .i64 0, .int .i64 0, .int .i64 0] 37))
  have R0 := hide (Blk.newE (W := (w.alloc (.cells #[.int .i64 y, .int .i64 mo, .int .i64 d, .int .i64 h, .int .i64 mi, .int .i64 s, .int .i64 ms, .int .i64 o] 37)).alloc (.cells #[.int .i64 p1, .int .i64 p2, .int .i64 p3, .int .i64 p4, .int .i64 p5, .int .i64 p6] 38)) (g := w.heap.size + 1 + 1) (t := 37) (cs := #[.int .i64 0, .int .i64 0, .int .i64 0, .int .i64 0, .int .i64 0, .int .i64 0, .int .i64 0, .int .i64 0]) (by simp))
  have B0 := hide (bal (bal (bal (Below.refl w.heap.size w) (.cells #[.int .i64 y, .int .i64 mo, .int .i64 d, .int .i64 h, .int .i64 mi, .int .i64 s, .int .i64 ms, .int .i64 o] 37)) (.cells #[.int .i64 p1, .int .i64 p2, .int .i64 p3, .int .i64 p4, .int .i64 p5, .int .i64 p6] 38)) (.cells #[.int .i64 0, .int .i64 0, .int .i64 0, .int .i64 0, .int .i64 0, .int .i64 0, .int .i64 0, .int .i64 0] 37))
  have hM0 := hM.below B0.out
  go_enter Tryd.func18, Tryd.ntmps18
  go_wp2_with fail
  refine (impl_sv ⟨y, mo, d, h, mi, s, ms, o⟩ _ hM0).mono ?_
  rintro e w1 ⟨rfl, hb1⟩
  have X1 := hide (X0.out.below hb1 X0.out.lt)
  have P1 := hide (P0.out.below hb1 P0.out.lt)
  have R1 := hide (R0.out.below hb1 R0.out.lt)
  have B1 := hide (bto B0.out hb1)
  have hM1 := hM0.below hb1
  clear X0 P0 R0 B0 hb1 hM0
  cases hx : S8.ok ⟨y, mo, d, h, mi, s, ms, o⟩ with
  | false =>
    have HR := hide (show stP ⟨y, mo, d, h, mi, s, ms, o⟩ p1 p2 p3 p4 p5 p6 = (s0, false) by unfold stP; rw [hx]; rfl)
    have hsp := R1.out.sp rfl
    go_wp2_with fail
    refine bodyPost_ret (by simp [results, Tryd.results18, go_sem, cell_sp hsp]; try rfl) rfl ?_
    exact ⟨by rw [HR.out]; rfl, brow B1.out (by omega) _⟩
  | true =>
    have HX := hide hx
    clear hx
    have q0 := P1.out.cell 0
    have q1 := P1.out.cell 1
    have q2 := P1.out.cell 2
    have q3 := P1.out.cell 3
    have q4 := P1.out.cell 4
    have q5 := P1.out.cell 5
    simp at q0 q1 q2 q3 q4 q5
    go_wp2_with fail
    refine (impl_pv p1 p2 p3 p4 p5 p6 _).mono ?_
    rintro e w2 ⟨rfl, hb2⟩
    have X2 := hide (X1.out.below hb2 X1.out.lt)
    have P2 := hide (P1.out.below hb2 P1.out.lt)
    have R2 := hide (R1.out.below hb2 R1.out.lt)
    have B2 := hide (bto B1.out hb2)
    have hM2 := hM1.below hb2
    clear X1 P1 R1 B1 hb2 hM1
    clear q0 q1 q2 q3 q4 q5
    cases hp : pvB p1 p2 p3 p4 p5 p6 with
    | false =>
      have HR := hide (show stP ⟨y, mo, d, h, mi, s, ms, o⟩ p1 p2 p3 p4 p5 p6 = (s0, false) by unfold stP; rw [hp]; simp)
      have hsp := R2.out.sp rfl
      go_wp2_with fail
      refine bodyPost_ret (by simp [results, Tryd.results18, go_sem, cell_sp hsp]; try rfl) rfl ?_
      exact ⟨by rw [HR.out]; rfl, brow B2.out (by omega) _⟩
    | true =>
      have HP := hide hp
      have HR := hide (show stP ⟨y, mo, d, h, mi, s, ms, o⟩ p1 p2 p3 p4 p5 p6 = spN ⟨y, mo, d, h, mi, s, ms, o⟩ (12 * p1 + p2) p3 ((p4 * 60 + p5) * 60 + p6) by unfold stP; rw [hp, HX.out]; rfl)
      have HV := hide (S8.ok_in HX.out).1
      obtain ⟨pa1, pa2, pa3, pa4, pa5, pa6⟩ := pvB_iff.1 hp
      clear hp
      have q0 := P2.out.cell 0
      have q1 := P2.out.cell 1
      have q2 := P2.out.cell 2
      have q3 := P2.out.cell 3
      have q4 := P2.out.cell 4
      have q5 := P2.out.cell 5
      have x0 := X2.out.cell 0
      have x1 := X2.out.cell 1
      have x2 := X2.out.cell 2
      simp at q0 q1 q2 q3 q4 q5 x0 x1 x2
      have hgl := R2.out.lt
      have v0 : (w2.alloc (.cells #[.int .i64 0, .int .i64 0, .int .i64 0] 34)).cell? ⟨w.heap.size, 0, none⟩ = some (.int .i64 y) := (X2.out.alloc (.cells #[.int .i64 0, .int .i64 0, .int .i64 0] 34)).cell 0
      have v1 : (w2.alloc (.cells #[.int .i64 0, .int .i64 0, .int .i64 0] 34)).cell? ⟨w.heap.size, 1, none⟩ = some (.int .i64 mo) := (X2.out.alloc (.cells #[.int .i64 0, .int .i64 0, .int .i64 0] 34)).cell 1
      have v2 : (w2.alloc (.cells #[.int .i64 0, .int .i64 0, .int .i64 0] 34)).cell? ⟨w.heap.size, 2, none⟩ = some (.int .i64 d) := (X2.out.alloc (.cells #[.int .i64 0, .int .i64 0, .int .i64 0] 34)).cell 2
      have t0 : (w2.alloc (.cells #[.int .i64 0, .int .i64 0, .int .i64 0] 34)).cell? ⟨w.heap.size + 1, 0, none⟩ = some (.int .i64 p1) := (P2.out.alloc (.cells #[.int .i64 0, .int .i64 0, .int .i64 0] 34)).cell 0
      have t1 : (w2.alloc (.cells #[.int .i64 0, .int .i64 0, .int .i64 0] 34)).cell? ⟨w.heap.size + 1, 1, none⟩ = some (.int .i64 p2) := (P2.out.alloc (.cells #[.int .i64 0, .int .i64 0, .int .i64 0] 34)).cell 1
      have t2 : (w2.alloc (.cells #[.int .i64 0, .int .i64 0, .int .i64 0] 34)).cell? ⟨w.heap.size + 1, 2, none⟩ = some (.int .i64 p3) := (P2.out.alloc (.cells #[.int .i64 0, .int .i64 0, .int .i64 0] 34)).cell 2
      have t3 : (w2.alloc (.cells #[.int .i64 0, .int .i64 0, .int .i64 0] 34)).cell? ⟨w.heap.size + 1, 3, none⟩ = some (.int .i64 p4) := (P2.out.alloc (.cells #[.int .i64 0, .int .i64 0, .int .i64 0] 34)).cell 3
      have t4 : (w2.alloc (.cells #[.int .i64 0, .int .i64 0, .int .i64 0] 34)).cell? ⟨w.heap.size + 1, 4, none⟩ = some (.int .i64 p5) := (P2.out.alloc (.cells #[.int .i64 0, .int .i64 0, .int .i64 0] 34)).cell 4
      have t5 : (w2.alloc (.cells #[.int .i64 0, .int .i64 0, .int .i64 0] 34)).cell? ⟨w.heap.size + 1, 5, none⟩ = some (.int .i64 p6) := (P2.out.alloc (.cells #[.int .i64 0, .int .i64 0, .int .i64 0] 34)).cell 5
      have hn0 : ¬ w.heap.size = w2.heap.size := by omega
      have hn1 : ¬ w.heap.size + 1 = w2.heap.size := by omega
      have hn2 : ¬ w.heap.size + 1 + 1 = w2.heap.size := by omega
      go_upto_region 3 with fail
      go_cut [8, 9] from 20 to 28 (fun t8 t9 wx => ∃ (dB : Nat) (a b c : Int) (ok : Bool), t8 = .pointer (some ⟨dB, 0, none⟩) ∧ t9 = .bool ok ∧ Hid (IsD y mo d (12 * p1 + p2) p3 a b c ok) ∧ Hid (Blk wx dB 34 #[.int .i64 a, .int .i64 b, .int .i64 c]) ∧ Hid (Blk wx (w.heap.size) 37 #[.int .i64 y, .int .i64 mo, .int .i64 d, .int .i64 h, .int .i64 mi, .int .i64 s, .int .i64 ms, .int .i64 o]) ∧ Hid (Blk wx (w.heap.size + 1) 38 #[.int .i64 p1, .int .i64 p2, .int .i64 p3, .int .i64 p4, .int .i64 p5, .int .i64 p6]) ∧ Hid (Blk wx (w.heap.size + 1 + 1) 37 #[.int .i64 0, .int .i64 0, .int .i64 0, .int .i64 0, .int .i64 0, .int .i64 0, .int .i64 0, .int .i64 0]) ∧ Hid (Below w.heap.size w wx))
      case first =>
        go_region_with (first | (go_simp; go_at_call 41; refine (shiftOf_any p1 p2 p3 p4 p5 p6 _).mono ?_; rintro e w3 ⟨⟨bs, bp, bf, bg, rfl, hs3⟩, hb3⟩; (first | (have X3 := hide (X2.out.drew.below hb3 X2.out.drew.lt); have P3 := hide (P2.out.drew.below hb3 P2.out.drew.lt); have R3 := hide (R2.out.drew.below hb3 R2.out.drew.lt); have B3 := hide (bto (bdrew B2.out) hb3); have hM3 := hM2.drew.below hb3; have D3 := True.intro) | (have X3 := hide ((X2.out.drew.alloc (.cells #[.int .i64 0, .int .i64 0, .int .i64 0] 34)).below hb3 (X2.out.drew.alloc (.cells #[.int .i64 0, .int .i64 0, .int .i64 0] 34)).lt); have P3 := hide ((P2.out.drew.alloc (.cells #[.int .i64 0, .int .i64 0, .int .i64 0] 34)).below hb3 (P2.out.drew.alloc (.cells #[.int .i64 0, .int .i64 0, .int .i64 0] 34)).lt); have R3 := hide ((R2.out.drew.alloc (.cells #[.int .i64 0, .int .i64 0, .int .i64 0] 34)).below hb3 (R2.out.drew.alloc (.cells #[.int .i64 0, .int .i64 0, .int .i64 0] 34)).lt); have B3 := hide (bto (bal (bdrew B2.out) (.cells #[.int .i64 0, .int .i64 0, .int .i64 0] 34)) hb3); have hM3 := (hM2.drew.alloc (.cells #[.int .i64 0, .int .i64 0, .int .i64 0] 34)).below hb3; have D3 := hide ((Blk.newE (W := w2.drew) (g := w2.heap.size) (t := 34) (cs := #[.int .i64 0, .int .i64 0, .int .i64 0]) rfl).below hb3 (Blk.newE (W := w2.drew) (g := w2.heap.size) (t := 34) (cs := #[.int .i64 0, .int .i64 0, .int .i64 0]) rfl).lt))); have HS3 := hide hs3; have hrl3 := R3.out.lt; have hm0 : ¬ w.heap.size = w3.heap.size := (by omega); have hm1 : ¬ w.heap.size + 1 = w3.heap.size := (by omega); have y0 := X3.out.cell 0; have y1 := X3.out.cell 1; have y2 := X3.out.cell 2; simp at y0 y1 y2; have z0 : (w3.alloc (.cells #[.int .i64 0, .int .i64 0, .int .i64 0] 34)).cell? ⟨w.heap.size, 0, none⟩ = some (.int .i64 y) := (X3.out.alloc (.cells #[.int .i64 0, .int .i64 0, .int .i64 0] 34)).cell 0; have z1 : (w3.alloc (.cells #[.int .i64 0, .int .i64 0, .int .i64 0] 34)).cell? ⟨w.heap.size, 1, none⟩ = some (.int .i64 mo) := (X3.out.alloc (.cells #[.int .i64 0, .int .i64 0, .int .i64 0] 34)).cell 1; have z2 : (w3.alloc (.cells #[.int .i64 0, .int .i64 0, .int .i64 0] 34)).cell? ⟨w.heap.size, 2, none⟩ = some (.int .i64 d) := (X3.out.alloc (.cells #[.int .i64 0, .int .i64 0, .int .i64 0] 34)).cell 2; clear hs3 hb3) | (go_simp; go_at_call 86; (first | (with_reducible refine (thenC_any y mo d p1 p2 p3 p4 p5 p6 w3 hM3 HV.out HP.out HS3.out).mono ?_) | (with_reducible refine (thenC_any y mo d p1 p2 p3 p4 p5 p6 (w3.alloc (.cells #[.int .i64 0, .int .i64 0, .int .i64 0] 34)) (hM3.alloc _) HV.out HP.out (HS3.out.alloc _)).mono ?_)); rintro e w4 ⟨⟨a, b, c, ok, rfl, hr⟩, hb4⟩; (first | (have X4 := hide (X3.out.below hb4 X3.out.lt); have P4 := hide (P3.out.below hb4 P3.out.lt); have R4 := hide (R3.out.below hb4 R3.out.lt); have B4 := hide (bto B3.out hb4); (first | (have D4 := hide (D3.out.below hb4 D3.out.lt); have e0 := D4.out.cell 0; have e1 := D4.out.cell 1; have e2 := D4.out.cell 2; have g0 := D4.out.frozen 0; have g1 := D4.out.frozen 1; have g2 := D4.out.frozen 2; simp at e0 e1 e2) | have D4 := True.intro)) | (have X4 := hide ((X3.out.alloc (.cells #[.int .i64 0, .int .i64 0, .int .i64 0] 34)).below hb4 (X3.out.alloc (.cells #[.int .i64 0, .int .i64 0, .int .i64 0] 34)).lt); have P4 := hide ((P3.out.alloc (.cells #[.int .i64 0, .int .i64 0, .int .i64 0] 34)).below hb4 (P3.out.alloc (.cells #[.int .i64 0, .int .i64 0, .int .i64 0] 34)).lt); have R4 := hide ((R3.out.alloc (.cells #[.int .i64 0, .int .i64 0, .int .i64 0] 34)).below hb4 (R3.out.alloc (.cells #[.int .i64 0, .int .i64 0, .int .i64 0] 34)).lt); have B4 := hide (bto (bal B3.out (.cells #[.int .i64 0, .int .i64 0, .int .i64 0] 34)) hb4); have D4 := hide ((Blk.new w3 34 #[.int .i64 0, .int .i64 0, .int .i64 0]).below hb4 (Blk.new w3 34 #[.int .i64 0, .int .i64 0, .int .i64 0]).lt); have e0 := D4.out.cell 0; have e1 := D4.out.cell 1; have e2 := D4.out.cell 2; have g0 := D4.out.frozen 0; have g1 := D4.out.frozen 1; have g2 := D4.out.frozen 2; simp at e0 e1 e2)); have hrl4 := R4.out.lt; clear hb4))
        all_goals
          go_wp2_with fail
          go_meet
          first
          | exact ⟨w2.heap.size, a, b, c, ok, rfl, rfl, hr, hide (D4.out.set3 (.int .i64 a) (.int .i64 b) (.int .i64 c)), hide (X4.out.far3 (show w.heap.size ≠ w2.heap.size by omega) (.int .i64 a) (.int .i64 b) (.int .i64 c)), hide (P4.out.far3 (show w.heap.size + 1 ≠ w2.heap.size by omega) (.int .i64 a) (.int .i64 b) (.int .i64 c)), hide (R4.out.far3 (show w.heap.size + 1 + 1 ≠ w2.heap.size by omega) (.int .i64 a) (.int .i64 b) (.int .i64 c)), hide (bset3 B4.out (show w.heap.size ≤ w2.heap.size by omega) (.int .i64 a) (.int .i64 b) (.int .i64 c))⟩
          | exact ⟨w3.heap.size, a, b, c, ok, rfl, rfl, hr, hide (D4.out.set3 (.int .i64 a) (.int .i64 b) (.int .i64 c)), hide (X4.out.far3 (show w.heap.size ≠ w3.heap.size by omega) (.int .i64 a) (.int .i64 b) (.int .i64 c)), hide (P4.out.far3 (show w.heap.size + 1 ≠ w3.heap.size by omega) (.int .i64 a) (.int .i64 b) (.int .i64 c)), hide (R4.out.far3 (show w.heap.size + 1 + 1 ≠ w3.heap.size by omega) (.int .i64 a) (.int .i64 b) (.int .i64 c)), hide (bset3 B4.out (show w.heap.size ≤ w3.heap.size by omega) (.int .i64 a) (.int .i64 b) (.int .i64 c))⟩
          | exact ⟨w4.heap.size, a, b, c, ok, rfl, rfl, hr, hide (Blk.new w4 34 #[.int .i64 a, .int .i64 b, .int .i64 c]), hide (X4.out.alloc (.cells #[.int .i64 a, .int .i64 b, .int .i64 c] 34)), hide (P4.out.alloc (.cells #[.int .i64 a, .int .i64 b, .int .i64 c] 34)), hide (R4.out.alloc (.cells #[.int .i64 a, .int .i64 b, .int .i64 c] 34)), hide (bal B4.out (.cells #[.int .i64 a, .int .i64 b, .int .i64 c] 34))⟩
      case rest =>
        clear q0 q1 q2 q3 q4 q5 x0 x1 x2 v0 v1 v2 t0 t1 t2 t3 t4 t5 X2 P2 R2 B2 hM2 hgl
        obtain ⟨dB, a, b, c, ok, rfl, rfl, hr, D5, X5, P5, R5, B5⟩ := hcut
        have hM5 := hM.below B5.out
        cases ok with
        | false =>
          as_aux_lemma =>
            have HF := hide (show spN ⟨y, mo, d, h, mi, s, ms, o⟩ (12 * p1 + p2) p3 ((p4 * 60 + p5) * 60 + p6) = (s0, false) from by
              rcases hr.out with ⟨_, _, _, _, hf⟩ | ⟨hf, _⟩
              · simp at hf
              · unfold spN; simp only; rw [hf]; rfl)
            have hsp := R5.out.sp rfl
            have BB := hide (brow B5.out (show w.heap.size ≤ w.heap.size + 1 + 1 by omega) #[.int .i64 0, .int .i64 0, .int .i64 0, .int .i64 0, .int .i64 0, .int .i64 0, .int .i64 0, .int .i64 0])
            clear X5 P5 R5 B5 hM5 D5
            go_wp2_with fail
            refine bodyPost_ret (by simp [results, Tryd.results18, go_sem, cell_sp hsp]; try rfl) rfl ?_
            exact ⟨by rw [HR.out, HF.out]; rfl, BB.out⟩
        | true =>
          as_aux_lemma =>
            obtain ⟨hok2, hins, hdp⟩ := dateD_ok HX.out (show 0 ≤ 12 * p1 + p2 by omega) pa3.1 hr.out
            have HF := hide (show spN ⟨y, mo, d, h, mi, s, ms, o⟩ (12 * p1 + p2) p3 ((p4 * 60 + p5) * 60 + p6) = stAt (S8.ins ⟨a, b, c, h, mi, s, ms, o⟩ + 1000 * ((p4 * 60 + p5) * 60 + p6)) o from by
              unfold spN; simp only; rw [hdp, if_pos rfl, hins])
            have HOK := hide hok2
            have hib := S8.ins_bd hok2
            clear hok2 hins hdp hr
            have e0 := D5.out.cell 0
            have e1 := D5.out.cell 1
            have e2 := D5.out.cell 2
            have x0 := X5.out.cell 0
            have x1 := X5.out.cell 1
            have x2 := X5.out.cell 2
            have x3 := X5.out.cell 3
            have x4 := X5.out.cell 4
            have x5 := X5.out.cell 5
            have x6 := X5.out.cell 6
            have x7 := X5.out.cell 7
            have g0 := X5.out.frozen 0
            have g1 := X5.out.frozen 1
            have g2 := X5.out.frozen 2
            have q0 := P5.out.cell 0
            have q1 := P5.out.cell 1
            have q2 := P5.out.cell 2
            have q3 := P5.out.cell 3
            have q4 := P5.out.cell 4
            have q5 := P5.out.cell 5
            simp at e0 e1 e2 x0 x1 x2 x3 x4 x5 x6 x7 q0 q1 q2 q3 q4 q5
            have X6 := ((X5.out.set_ 0 (.int .i64 a)).set_ 1 (.int .i64 b)).set_ 2 (.int .i64 c)
            simp only [List.setIfInBounds_toArray, List.set_cons_zero, List.set_cons_succ] at X6
            have P6 := ((P5.out.far (p := ⟨w.heap.size, 0, none⟩) (show w.heap.size + 1 ≠ w.heap.size by omega) (.int .i64 a)).far (p := ⟨w.heap.size, 1, none⟩) (show w.heap.size + 1 ≠ w.heap.size by omega) (.int .i64 b)).far (p := ⟨w.heap.size, 2, none⟩) (show w.heap.size + 1 ≠ w.heap.size by omega) (.int .i64 c)
            have R6 := ((R5.out.far (p := ⟨w.heap.size, 0, none⟩) (show w.heap.size + 1 + 1 ≠ w.heap.size by omega) (.int .i64 a)).far (p := ⟨w.heap.size, 1, none⟩) (show w.heap.size + 1 + 1 ≠ w.heap.size by omega) (.int .i64 b)).far (p := ⟨w.heap.size, 2, none⟩) (show w.heap.size + 1 + 1 ≠ w.heap.size by omega) (.int .i64 c)
            have B6 := bset (bset (bset B5.out (p := ⟨w.heap.size, 0, none⟩) (Nat.le_refl _) (.int .i64 a)) (p := ⟨w.heap.size, 1, none⟩) (Nat.le_refl _) (.int .i64 b)) (p := ⟨w.heap.size, 2, none⟩) (Nat.le_refl _) (.int .i64 c)
            have hM6 := hM.below B6
            replace X6 := hide X6
            replace P6 := hide P6
            replace R6 := hide R6
            replace B6 := hide B6
            obtain ⟨w6, ew6⟩ : ∃ w6, w6 = (((wc.setCell ⟨w.heap.size, 0, none⟩ (.int .i64 a)).setCell ⟨w.heap.size, 1, none⟩ (.int .i64 b)).setCell ⟨w.heap.size, 2, none⟩ (.int .i64 c)) := ⟨_, rfl⟩
            rw [← ew6] at X6 P6 R6 B6 hM6
            have u0 := P6.out.cell 0
            have u1 := P6.out.cell 1
            have u2 := P6.out.cell 2
            have u3 := P6.out.cell 3
            have u4 := P6.out.cell 4
            have u5 := P6.out.cell 5
            simp at u0 u1 u2 u3 u4 u5
            rw [ew6] at u0 u1 u2 u3 u4 u5
            clear X5 P5 R5 B5 hM5 D5
            go_wp2_with fail
            rw [← ew6]
            clear e0 e1 e2 x0 x1 x2 x3 x4 x5 x6 x7 q0 q1 q2 q3 q4 q5 g0 g1 g2 u0 u1 u2 u3 u4 u5 ew6
            refine (secondsOf_any p1 p2 p3 p4 p5 p6 _ HP.out).mono ?_
            rintro e w7 ⟨rfl, hb7⟩
            have X7 := hide (X6.out.below hb7 X6.out.lt)
            have R7 := hide (R6.out.below hb7 R6.out.lt)
            have B7 := hide (bto B6.out hb7)
            have hM7 := hM6.below hb7
            clear X6 P6 R6 B6 hM6 hb7
            obtain ⟨sec, es⟩ : ∃ sec, sec = (p4 * 60 + p5) * 60 + p6 := ⟨_, rfl⟩
            have hs0 : 0 ≤ sec := by omega
            have hs1 : sec ≤ 40000000 := by omega
            rw [← es] at HF HR ⊢
            clear es pa1 pa2 pa3 pa4 pa5 pa6
            generalize hna : S8.ins ⟨a, b, c, h, mi, s, ms, o⟩ = na at *
            have HNA := hide hna
            clear hna
            have hsp7 := R7.out.sp rfl
            obtain ⟨x0, x1, x2, x3, x4, x5, x6, x7⟩ := st8 X7.out
            have hwr : IntKind.i64.wrap (na + 1000 * sec) = na + 1000 * sec := IntWalk.i64_in _ (by omega)
            obtain ⟨sq, esq⟩ : ∃ sq, sq = stAt (na + 1000 * sec) o := ⟨_, rfl⟩
            have hSA : ∀ W, MD W → Calls Tryd.prog 43 #[.int .i64 (na + 1000 * sec), .int .i64 o] W (RetS sq W) := fun W h => by rw [esq]; exact impl_stampAt _ _ _ h
            rw [← esq] at HF
            clear esq
            obtain ⟨⟨Y, M, D, H, I, S, L, O⟩, okb⟩ := sq
            unfold RetS at hSA
            simp only [S8.v] at hSA
            go_wp2_with fail
            go_region_with (first | (go_simp; go_at_call 31; refine (instantOf_any ⟨a, b, c, h, mi, s, ms, o⟩ _ hM7.drew HOK.out).mono ?_; rw [HNA.out]; rintro e w8 ⟨rfl, hb8⟩; have X8 := hide (X7.out.drew.below hb8 X7.out.drew.lt); have R8 := hide (R7.out.drew.below hb8 R7.out.drew.lt); have B8 := hide (bto (bdrew B7.out) hb8); have hM8 := hM7.drew.below hb8; have o8 := X8.out.cell 7; simp at o8; have hsp8 := R8.out.sp rfl) | (go_simp; go_at_call 43; (try rw [hwr]); refine (hSA _ hM8).mono ?_; rintro e w9 ⟨rfl, hb9⟩; have R9 := hide (R8.out.below hb9 R8.out.lt); have B9 := hide (bto B8.out hb9); have hsp9 := R9.out.sp rfl))
            all_goals
              go_wp2_with fail
              refine bodyPost_ret (by simp [results, Tryd.results18, go_sem, cell_sp hsp9]; try rfl) rfl ?_
              exact ⟨by rw [HR.out, HF.out]; rfl, brow B9.out (show w.heap.size ≤ w.heap.size + 1 + 1 by omega) _⟩
end
end Go.Proofs.YtaagomchjklgaaaDoor
