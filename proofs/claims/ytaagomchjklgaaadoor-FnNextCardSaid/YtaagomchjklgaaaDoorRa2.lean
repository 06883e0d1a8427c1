/- Contracts: the n-th time of a repeat (the program's). -/
import Derived.Test.YtaagomchjklgaaaDoorSf5
import Derived.Test.YtaagomchjklgaaaDoorRa1
import Derived.Test.YtaagomchjklgaaaDoorDrQ
import Derived.Deep.RegionHeld3
namespace Go.Proofs.YtaagomchjklgaaaDoor
open Go.RowKit

/-- The n-th time. -/
noncomputable def raP (x : S8) (p1 p2 p3 p4 p5 p6 t n : Int) : S8 × Bool := if rpB x p1 p2 p3 p4 p5 p6 t && inB n 0 t then stP x (n * p1) (n * p2) (n * p3) (n * p4) (n * p5) (n * p6) else (s0, false)
theorem rp_mul {n p : Int} (h0 : 0 ≤ n) (h1 : n ≤ 99) (h2 : 0 ≤ p) (h3 : p ≤ 99) : inB (n * p) 0 9999 = true :=
  inB_true (Int.mul_nonneg h0 h2) (Int.le_trans (Int.mul_le_mul h1 h3 h2 (by omega)) (by decide))
theorem rpB_iff {x : S8} {p1 p2 p3 p4 p5 p6 t : Int} : rpB x p1 p2 p3 p4 p5 p6 t = true ↔ x.ok = true ∧ pvB p1 p2 p3 p4 p5 p6 = true ∧ 1 ≤ p1 + p2 + p3 + p4 + p5 + p6 ∧ ((0 ≤ p1 ∧ p1 ≤ 99) ∧ (0 ≤ p2 ∧ p2 ≤ 99) ∧ (0 ≤ p3 ∧ p3 ≤ 99) ∧ (0 ≤ p4 ∧ p4 ≤ 99) ∧ (0 ≤ p5 ∧ p5 ≤ 99) ∧ 0 ≤ p6 ∧ p6 ≤ 99) ∧ 0 ≤ t ∧ t ≤ 99 := by
  unfold rpB
  simp only [Bool.and_eq_true, inB_iff, decide_eq_true_eq]
theorem rp_in {x : S8} {p1 p2 p3 p4 p5 p6 t n : Int} (h : rpB x p1 p2 p3 p4 p5 p6 t = true) (hn : 0 ≤ n ∧ n ≤ t) : pvB p1 p2 p3 p4 p5 p6 = true ∧ pvB (n * p1) (n * p2) (n * p3) (n * p4) (n * p5) (n * p6) = true := by
  obtain ⟨_, a2, _, ⟨a4, a5, a6, a7, a8, a9⟩, a10⟩ := rpB_iff.1 h
  have hn2 : n ≤ 99 := by omega
  refine ⟨a2, ?_⟩
  unfold pvB
  rw [rp_mul hn.1 hn2 a4.1 a4.2, rp_mul hn.1 hn2 a5.1 a5.2, rp_mul hn.1 hn2 a6.1 a6.2, rp_mul hn.1 hn2 a7.1 a7.2, rp_mul hn.1 hn2 a8.1 a8.2, rp_mul hn.1 hn2 a9.1 a9.2]
  rfl
section
attribute [local go_sem] lt_cell cell_sp sp_alloc sp_drew sp_new storeP_sp
attribute [local go_sem ↓] storeP_eq
set_option maxRecDepth 100000 in
set_option maxHeartbeats 4000000 in
theorem impl_at (y mo d h mi s ms o p1 p2 p3 p4 p5 p6 t n m1 m2 m3 m4 m5 m6 : Int) (w : World) (hM : MD w) (e1 : p1 * n = m1) (e2 : p2 * n = m2) (e3 : p3 * n = m3) (e4 : p4 * n = m4) (e5 : p5 * n = m5) (e6 : p6 * n = m6) (hq : pvB m1 m2 m3 m4 m5 m6 = true) :
    Calls Tryd.prog 34 #[.agg #[.int .i64 y, .int .i64 mo, .int .i64 d, .int .i64 h, .int .i64 mi, .int .i64 s, .int .i64 ms, .int .i64 o, .int .i64 p1, .int .i64 p2, .int .i64 p3, .int .i64 p4, .int .i64 p5, .int .i64 p6, .int .i64 t], .int .i64 n] w (RetS (stP ⟨y, mo, d, h, mi, s, ms, o⟩ m1 m2 m3 m4 m5 m6) w) := by
  have X0 := hide ((Blk.new w 40 #[.int .i64 y, .int .i64 mo, .int .i64 d, .int .i64 h, .int .i64 mi, .int .i64 s, .int .i64 ms, .int .i64 o, .int .i64 p1, .int .i64 p2, .int .i64 p3, .int .i64 p4, .int .i64 p5, .int .i64 p6, .int .i64 t]).alloc (.cells #[.int .i64 0, .int .i64 0, .int .i64 0, .int .i64 0, .int .i64 0, .int .i64 0, .int .i64 0, .int .i64 0] 37))
  have R0 := hide (Blk.newE (W := w.alloc (.cells #[.int .i64 y, .int .i64 mo, .int .i64 d, .int .i64 h, .int .i64 mi, .int .i64 s, .int .i64 ms, .int .i64 o, .int .i64 p1, .int .i64 p2, .int .i64 p3, .int .i64 p4, .int .i64 p5, .int .i64 p6, .int .i64 t] 40)) (g := w.heap.size + 1) (t := 37) (cs := #[.int .i64 0, .int .i64 0, .int .i64 0, .int .i64 0, .int .i64 0, .int .i64 0, .int .i64 0, .int .i64 0]) (by simp))
  have B0 := hide (bal (bal (Below.refl w.heap.size w) (.cells #[.int .i64 y, .int .i64 mo, .int .i64 d, .int .i64 h, .int .i64 mi, .int .i64 s, .int .i64 ms, .int .i64 o, .int .i64 p1, .int .i64 p2, .int .i64 p3, .int .i64 p4, .int .i64 p5, .int .i64 p6, .int .i64 t] 40)) (.cells #[.int .i64 0, .int .i64 0, .int .i64 0, .int .i64 0, .int .i64 0, .int .i64 0, .int .i64 0, .int .i64 0] 37))
  have HQ := hide hq
  have hSPx : ∀ W, MD W → Calls Tryd.prog 18 #[.agg #[.int .i64 y, .int .i64 mo, .int .i64 d, .int .i64 h, .int .i64 mi, .int .i64 s, .int .i64 ms, .int .i64 o], .agg #[.int .i64 m1, .int .i64 m2, .int .i64 m3, .int .i64 m4, .int .i64 m5, .int .i64 m6], .bool false] W (RetS (stP ⟨y, mo, d, h, mi, s, ms, o⟩ m1 m2 m3 m4 m5 m6) W) := fun W hW => impl_sp y mo d h mi s ms o m1 m2 m3 m4 m5 m6 W hW
  generalize stP ⟨y, mo, d, h, mi, s, ms, o⟩ m1 m2 m3 m4 m5 m6 = sq at *
  obtain ⟨⟨Y, M, D, H, I, S, L, O⟩, okb⟩ := sq
  unfold RetS at hSPx
  simp only [S8.v] at hSPx
  have hT : ∀ W, Calls Tryd.prog 60 #[.agg #[.int .i64 p1, .int .i64 p2, .int .i64 p3, .int .i64 p4, .int .i64 p5, .int .i64 p6], .int .i64 n] W fun e w' => e = .returned (.agg #[.int .i64 m1, .int .i64 m2, .int .i64 m3, .int .i64 m4, .int .i64 m5, .int .i64 m6]) ∧ Below W.heap.size W w' := fun W => times_any p1 p2 p3 p4 p5 p6 n m1 m2 m3 m4 m5 m6 W e1 e2 e3 e4 e5 e6 hq
  clear hq e1 e2 e3 e4 e5 e6
  have hM0 := hM.below B0.out
  go_enter Tryd.func34, Tryd.ntmps34
  go_wp2_with fail
  generalize (w.alloc (.cells #[.int .i64 y, .int .i64 mo, .int .i64 d, .int .i64 h, .int .i64 mi, .int .i64 s, .int .i64 ms, .int .i64 o, .int .i64 p1, .int .i64 p2, .int .i64 p3, .int .i64 p4, .int .i64 p5, .int .i64 p6, .int .i64 t] 40)).alloc (.cells #[.int .i64 0, .int .i64 0, .int .i64 0, .int .i64 0, .int .i64 0, .int .i64 0, .int .i64 0, .int .i64 0] 37) = w0 at *
  have ww : ∀ w', Below w0.heap.size w0 w' → w'.cell? ⟨w.heap.size, 0, none⟩ = some (.int .i64 y) ∧ w'.cell? ⟨w.heap.size, 1, none⟩ = some (.int .i64 mo) ∧ w'.cell? ⟨w.heap.size, 2, none⟩ = some (.int .i64 d) ∧ w'.cell? ⟨w.heap.size, 3, none⟩ = some (.int .i64 h) ∧ w'.cell? ⟨w.heap.size, 4, none⟩ = some (.int .i64 mi) ∧ w'.cell? ⟨w.heap.size, 5, none⟩ = some (.int .i64 s) ∧ w'.cell? ⟨w.heap.size, 6, none⟩ = some (.int .i64 ms) ∧ w'.cell? ⟨w.heap.size, 7, none⟩ = some (.int .i64 o) ∧ w'.cell? ⟨w.heap.size, 8, none⟩ = some (.int .i64 p1) ∧ w'.cell? ⟨w.heap.size, 9, none⟩ = some (.int .i64 p2) ∧ w'.cell? ⟨w.heap.size, 10, none⟩ = some (.int .i64 p3) ∧ w'.cell? ⟨w.heap.size, 11, none⟩ = some (.int .i64 p4) ∧ w'.cell? ⟨w.heap.size, 12, none⟩ = some (.int .i64 p5) ∧ w'.cell? ⟨w.heap.size, 13, none⟩ = some (.int .i64 p6) := fun w' k => ⟨(X0.out.below k X0.out.lt).cell 0, (X0.out.below k X0.out.lt).cell 1, (X0.out.below k X0.out.lt).cell 2, (X0.out.below k X0.out.lt).cell 3, (X0.out.below k X0.out.lt).cell 4, (X0.out.below k X0.out.lt).cell 5, (X0.out.below k X0.out.lt).cell 6, (X0.out.below k X0.out.lt).cell 7, (X0.out.below k X0.out.lt).cell 8, (X0.out.below k X0.out.lt).cell 9, (X0.out.below k X0.out.lt).cell 10, (X0.out.below k X0.out.lt).cell 11, (X0.out.below k X0.out.lt).cell 12, (X0.out.below k X0.out.lt).cell 13⟩
  have wr : ∀ (w' : World) (cs : Array Value), Below w0.heap.size w0 w' → (fun w' => w'.cell? ⟨w.heap.size, 0, none⟩ = some (.int .i64 y) ∧ w'.cell? ⟨w.heap.size, 1, none⟩ = some (.int .i64 mo) ∧ w'.cell? ⟨w.heap.size, 2, none⟩ = some (.int .i64 d) ∧ w'.cell? ⟨w.heap.size, 3, none⟩ = some (.int .i64 h) ∧ w'.cell? ⟨w.heap.size, 4, none⟩ = some (.int .i64 mi) ∧ w'.cell? ⟨w.heap.size, 5, none⟩ = some (.int .i64 s) ∧ w'.cell? ⟨w.heap.size, 6, none⟩ = some (.int .i64 ms) ∧ w'.cell? ⟨w.heap.size, 7, none⟩ = some (.int .i64 o) ∧ w'.cell? ⟨w.heap.size, 8, none⟩ = some (.int .i64 p1) ∧ w'.cell? ⟨w.heap.size, 9, none⟩ = some (.int .i64 p2) ∧ w'.cell? ⟨w.heap.size, 10, none⟩ = some (.int .i64 p3) ∧ w'.cell? ⟨w.heap.size, 11, none⟩ = some (.int .i64 p4) ∧ w'.cell? ⟨w.heap.size, 12, none⟩ = some (.int .i64 p5) ∧ w'.cell? ⟨w.heap.size, 13, none⟩ = some (.int .i64 p6)) (w'.setRow (w.heap.size + 1) cs) := fun w' cs k => ⟨((X0.out.below k X0.out.lt).setRow_far (by omega) cs).cell 0, ((X0.out.below k X0.out.lt).setRow_far (by omega) cs).cell 1, ((X0.out.below k X0.out.lt).setRow_far (by omega) cs).cell 2, ((X0.out.below k X0.out.lt).setRow_far (by omega) cs).cell 3, ((X0.out.below k X0.out.lt).setRow_far (by omega) cs).cell 4, ((X0.out.below k X0.out.lt).setRow_far (by omega) cs).cell 5, ((X0.out.below k X0.out.lt).setRow_far (by omega) cs).cell 6, ((X0.out.below k X0.out.lt).setRow_far (by omega) cs).cell 7, ((X0.out.below k X0.out.lt).setRow_far (by omega) cs).cell 8, ((X0.out.below k X0.out.lt).setRow_far (by omega) cs).cell 9, ((X0.out.below k X0.out.lt).setRow_far (by omega) cs).cell 10, ((X0.out.below k X0.out.lt).setRow_far (by omega) cs).cell 11, ((X0.out.below k X0.out.lt).setRow_far (by omega) cs).cell 12, ((X0.out.below k X0.out.lt).setRow_far (by omega) cs).cell 13⟩
  have hspR : ∀ W, Below w0.heap.size w0 W → Sp W (w.heap.size + 1) := fun W k => (R0.out.below k R0.out.lt).sp rfl
  go_region_held3 (fun w' => w'.cell? ⟨w.heap.size, 0, none⟩ = some (.int .i64 y) ∧ w'.cell? ⟨w.heap.size, 1, none⟩ = some (.int .i64 mo) ∧ w'.cell? ⟨w.heap.size, 2, none⟩ = some (.int .i64 d) ∧ w'.cell? ⟨w.heap.size, 3, none⟩ = some (.int .i64 h) ∧ w'.cell? ⟨w.heap.size, 4, none⟩ = some (.int .i64 mi) ∧ w'.cell? ⟨w.heap.size, 5, none⟩ = some (.int .i64 s) ∧ w'.cell? ⟨w.heap.size, 6, none⟩ = some (.int .i64 ms) ∧ w'.cell? ⟨w.heap.size, 7, none⟩ = some (.int .i64 o) ∧ w'.cell? ⟨w.heap.size, 8, none⟩ = some (.int .i64 p1) ∧ w'.cell? ⟨w.heap.size, 9, none⟩ = some (.int .i64 p2) ∧ w'.cell? ⟨w.heap.size, 10, none⟩ = some (.int .i64 p3) ∧ w'.cell? ⟨w.heap.size, 11, none⟩ = some (.int .i64 p4) ∧ w'.cell? ⟨w.heap.size, 12, none⟩ = some (.int .i64 p5) ∧ w'.cell? ⟨w.heap.size, 13, none⟩ = some (.int .i64 p6)) (first | (with_reducible exact ww _ kf) | (with_reducible exact wr _ _ kf) | (with_reducible exact ww _ kd) | (with_reducible exact ww _ (bdrew (Below.refl _ _)))) (first | (go_at_call 60; (with_reducible refine (hT _).mono ?_); rintro e w8 ⟨rfl, hb8⟩; have kd : Below w0.heap.size w0 w8 := bto (bdrew (Below.refl _ _)) hb8) | (go_at_call 18; (with_reducible refine (hSPx _ (hM0.below kd)).mono ?_); rintro e w9 ⟨rfl, hb9⟩; have kf : Below w0.heap.size w0 w9 := bto kd hb9; have hsp9 := hspR _ kf))
  all_goals
    rename_i hS
    clear hS ww wr
    go_wp2_with fail
    refine bodyPost_ret (by simp [results, Tryd.results34, go_sem, cell_sp hsp9]; try rfl) rfl ?_
    exact ⟨rfl, brow (bto B0.out kf) (show w.heap.size ≤ w.heap.size + 1 by omega) _⟩
section
attribute [local go_sem ↓] loadR_eq
set_option maxRecDepth 100000 in
set_option maxHeartbeats 4000000 in
theorem impl_ra (y mo d h mi s ms o p1 p2 p3 p4 p5 p6 t n : Int) (w : World) (hM : MD w) :
    Calls Tryd.prog 15 #[.agg #[.int .i64 y, .int .i64 mo, .int .i64 d, .int .i64 h, .int .i64 mi, .int .i64 s, .int .i64 ms, .int .i64 o, .int .i64 p1, .int .i64 p2, .int .i64 p3, .int .i64 p4, .int .i64 p5, .int .i64 p6, .int .i64 t], .int .i64 n] w (RetS (raP ⟨y, mo, d, h, mi, s, ms, o⟩ p1 p2 p3 p4 p5 p6 t n) w) := by
  have X0 := hide ((Blk.new w 40 #[.int .i64 y, .int .i64 mo, .int .i64 d, .int .i64 h, .int .i64 mi, .int .i64 s, .int .i64 ms, .int .i64 o, .int .i64 p1, .int .i64 p2, .int .i64 p3, .int .i64 p4, .int .i64 p5, .int .i64 p6, .int .i64 t]).alloc (.cells #[.int .i64 0, .int .i64 0, .int .i64 0, .int .i64 0, .int .i64 0, .int .i64 0, .int .i64 0, .int .i64 0] 37))
  have R0 := hide (Blk.newE (W := w.alloc (.cells #[.int .i64 y, .int .i64 mo, .int .i64 d, .int .i64 h, .int .i64 mi, .int .i64 s, .int .i64 ms, .int .i64 o, .int .i64 p1, .int .i64 p2, .int .i64 p3, .int .i64 p4, .int .i64 p5, .int .i64 p6, .int .i64 t] 40)) (g := w.heap.size + 1) (t := 37) (cs := #[.int .i64 0, .int .i64 0, .int .i64 0, .int .i64 0, .int .i64 0, .int .i64 0, .int .i64 0, .int .i64 0]) (by simp))
  have B0 := hide (bal (bal (Below.refl w.heap.size w) (.cells #[.int .i64 y, .int .i64 mo, .int .i64 d, .int .i64 h, .int .i64 mi, .int .i64 s, .int .i64 ms, .int .i64 o, .int .i64 p1, .int .i64 p2, .int .i64 p3, .int .i64 p4, .int .i64 p5, .int .i64 p6, .int .i64 t] 40)) (.cells #[.int .i64 0, .int .i64 0, .int .i64 0, .int .i64 0, .int .i64 0, .int .i64 0, .int .i64 0, .int .i64 0] 37))
  have hV : ∀ W, MD W → Calls Tryd.prog 28 #[.agg #[.int .i64 y, .int .i64 mo, .int .i64 d, .int .i64 h, .int .i64 mi, .int .i64 s, .int .i64 ms, .int .i64 o, .int .i64 p1, .int .i64 p2, .int .i64 p3, .int .i64 p4, .int .i64 p5, .int .i64 p6, .int .i64 t]] W (RetB (rpB ⟨y, mo, d, h, mi, s, ms, o⟩ p1 p2 p3 p4 p5 p6 t) W) := fun W hW => impl_rv y mo d h mi s ms o p1 p2 p3 p4 p5 p6 t W hW
  unfold RetB at hV
  have hld0 := loadR_row X0.out
  have hM0 := hM.below B0.out
  go_enter Tryd.func15, Tryd.ntmps15
  go_wp2_with fail
  refine (hV _ hM0).mono ?_
  rintro e w1 ⟨rfl, hb1⟩
  have X1 := hide (X0.out.below hb1 X0.out.lt)
  have R1 := hide (R0.out.below hb1 R0.out.lt)
  have B1 := hide (bto B0.out hb1)
  have hM1 := hM0.below hb1
  clear X0 R0 B0 hb1 hld0 hM0
  have hsp := R1.out.sp rfl
  have c14 := X1.out.cell 14
  simp at c14
  cases hv : rpB ⟨y, mo, d, h, mi, s, ms, o⟩ p1 p2 p3 p4 p5 p6 t with
  | false =>
    have HR := hide (show raP ⟨y, mo, d, h, mi, s, ms, o⟩ p1 p2 p3 p4 p5 p6 t n = (s0, false) by unfold raP; rw [hv]; rfl)
    clear hV hv
    go_wp2_with fail
    refine bodyPost_ret (by simp [results, Tryd.results15, go_sem, cell_sp hsp]; try rfl) rfl ?_
    exact ⟨by rw [HR.out]; rfl, brow B1.out (by omega) _⟩
  | true =>
    have HV := hide hv
    clear hv hV
    cases hi : inB n 0 t with
    | false =>
      have HR := hide (show raP ⟨y, mo, d, h, mi, s, ms, o⟩ p1 p2 p3 p4 p5 p6 t n = (s0, false) by unfold raP; rw [hi]; simp)
      go_wp2_with (go_at_call 33; refine (within_any _ _ _ _).mono ?_; rintro e w' ⟨rfl, rfl⟩)
      refine bodyPost_ret (by simp [results, Tryd.results15, go_sem, cell_sp hsp]; try rfl) rfl ?_
      exact ⟨by rw [HR.out]; rfl, brow B1.out (by omega) _⟩
    | true =>
      have HR := hide (show raP ⟨y, mo, d, h, mi, s, ms, o⟩ p1 p2 p3 p4 p5 p6 t n = stP ⟨y, mo, d, h, mi, s, ms, o⟩ (n * p1) (n * p2) (n * p3) (n * p4) (n * p5) (n * p6) by unfold raP; rw [hi, HV.out]; rfl)
      obtain ⟨_, hq⟩ := rp_in HV.out (inB_iff.1 hi)
      have hA : ∀ W, MD W → Calls Tryd.prog 34 #[.agg #[.int .i64 y, .int .i64 mo, .int .i64 d, .int .i64 h, .int .i64 mi, .int .i64 s, .int .i64 ms, .int .i64 o, .int .i64 p1, .int .i64 p2, .int .i64 p3, .int .i64 p4, .int .i64 p5, .int .i64 p6, .int .i64 t], .int .i64 n] W (RetS (stP ⟨y, mo, d, h, mi, s, ms, o⟩ (n * p1) (n * p2) (n * p3) (n * p4) (n * p5) (n * p6)) W) := fun W hW => impl_at y mo d h mi s ms o p1 p2 p3 p4 p5 p6 t n (n * p1) (n * p2) (n * p3) (n * p4) (n * p5) (n * p6) W hW (Int.mul_comm _ _) (Int.mul_comm _ _) (Int.mul_comm _ _) (Int.mul_comm _ _) (Int.mul_comm _ _) (Int.mul_comm _ _) hq
      generalize stP ⟨y, mo, d, h, mi, s, ms, o⟩ (n * p1) (n * p2) (n * p3) (n * p4) (n * p5) (n * p6) = sq at *
      obtain ⟨⟨Y, M, D, H, I, S, L, O⟩, okb⟩ := sq
      unfold RetS at hA
      simp only [S8.v] at hA
      have hld1 := loadR_row X1.out
      clear hq
      go_wp2_with (go_at_call 33; refine (within_any _ _ _ _).mono ?_; rintro e w' ⟨rfl, rfl⟩)
      refine (hA _ hM1).mono ?_
      rintro e w2 ⟨rfl, hb2⟩
      have R2 := hide (R1.out.below hb2 R1.out.lt)
      have B2 := hide (bto B1.out hb2)
      have hsp2 := R2.out.sp rfl
      clear hsp c14 hld1 R1 B1 X1 hb2 hA hi
      go_wp2_with fail
      refine bodyPost_ret (by simp [results, Tryd.results15, go_sem, cell_sp hsp2]; try rfl) rfl ?_
      exact ⟨by rw [HR.out]; rfl, brow B2.out (by omega) _⟩
end
end
end Go.Proofs.YtaagomchjklgaaaDoor
