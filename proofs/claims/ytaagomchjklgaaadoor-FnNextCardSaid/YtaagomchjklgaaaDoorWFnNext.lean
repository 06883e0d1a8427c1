/- The law FnNext returns true. -/
import Derived.Test.YtaagomchjklgaaaDoorRn1
import Derived.Test.YtaagomchjklgaaaDoorDrA
import Derived.Test.YtaagomchjklgaaaDoorRa3
import Derived.Deep.CutRange
import Derived.Deep.RegionHeld3
import Derived.Test.YtaagomchjklgaaaDoorRn3
import Derived.Test.YtaagomchjklgaaaDoorShellD
namespace Go.Proofs.YtaagomchjklgaaaDoor
open Go.RowKit

section
variable {f : Nat → S8 × Bool} {ix : Int}
theorem nx_found {k : Int} {a r : Nat} (h : nxF f ix a r = (k, true)) : ∃ m : Nat, k = (m : Int) ∧ a ≤ m ∧ m < a + r ∧ (f m).2 = true ∧ ix < (f m).1.ins ∧ ∀ j, a ≤ j → j < m → (f j).2 = true ∧ ¬ ix < (f j).1.ins := by
  induction r generalizing a with
  | zero => simp [nxF] at h
  | succ r ih =>
    cases e : (f a).2 with
    | false => rw [nx_stop e] at h; simp at h
    | true =>
      by_cases hg : ix < (f a).1.ins
      · rw [nx_hit e hg] at h
        injection h with h1 _
        exact ⟨a, h1.symm, Nat.le_refl _, by omega, e, hg, fun j h1 h2 => absurd h1 (by omega)⟩
      · rw [nx_on e hg] at h
        obtain ⟨m, h1, h2, h3, h4, h5, h6⟩ := ih h
        refine ⟨m, h1, by omega, by omega, h4, h5, fun j h7 h8 => ?_⟩
        rcases (show j = a ∨ a + 1 ≤ j by omega) with rfl | h9
        · exact ⟨e, hg⟩
        · exact h6 j h9 h8
theorem nx_none {k : Int} {a r : Nat} (h : nxF f ix a r = (k, false)) {m : Nat} (h1 : a ≤ m) (h2 : m < a + r) (h3 : ∀ j, a ≤ j → j ≤ m → (f j).2 = true) : ¬ ix < (f m).1.ins := by
  induction r generalizing a with
  | zero => omega
  | succ r ih =>
    have e := h3 a (Nat.le_refl _) h1
    by_cases hg : ix < (f a).1.ins
    · rw [nx_hit e hg] at h
      simp at h
    · rw [nx_on e hg] at h
      rcases (show m = a ∨ a + 1 ≤ m by omega) with rfl | h9
      · exact hg
      · exact ih h h9 (by omega) (fun j h4 h5 => h3 j (by omega) h5)
end
theorem rn_found {x u : S8} {p1 p2 p3 p4 p5 p6 t k : Int} (h : rnP x p1 p2 p3 p4 p5 p6 t u = (k, true)) :
    u.ok = true ∧ 0 ≤ k ∧ k ≤ 99 ∧ (∃ y, raP x p1 p2 p3 p4 p5 p6 t k = (y, true) ∧ y.ok = true ∧ u.ins < y.ins) ∧ (k ≠ 0 → ∃ z, raP x p1 p2 p3 p4 p5 p6 t (k - 1) = (z, true) ∧ z.ok = true ∧ ¬ u.ins < z.ins) := by
  unfold rnP at h
  cases e1 : rpB x p1 p2 p3 p4 p5 p6 t with
  | false => rw [e1] at h; simp at h
  | true =>
    cases e2 : u.ok with
    | false => rw [e1, e2] at h; simp at h
    | true =>
      rw [e1, e2] at h
      simp only [Bool.and_self, if_true] at h
      have ht := (rpB_iff.1 e1).2.2.2.2
      obtain ⟨m, hm, _, h2, h3, h4, h5⟩ := nx_found h
      have hy : raP x p1 p2 p3 p4 p5 p6 t m = ((raP x p1 p2 p3 p4 p5 p6 t m).1, true) := Prod.ext rfl h3
      refine ⟨rfl, by omega, by omega, ⟨_, by rw [hm]; exact hy, (raP_ok hy).1, h4⟩, fun hk => ?_⟩
      obtain ⟨h6, h7⟩ := h5 (m - 1) (Nat.zero_le _) (by omega)
      have e : ((m - 1 : Nat) : Int) = k - 1 := by omega
      rw [e] at h6 h7
      have hz : raP x p1 p2 p3 p4 p5 p6 t (k - 1) = ((raP x p1 p2 p3 p4 p5 p6 t (k - 1)).1, true) := Prod.ext rfl h6
      exact ⟨_, hz, (raP_ok hz).1, h7⟩
theorem rn_none {x u : S8} {p1 p2 p3 p4 p5 p6 t v : Int} (h : rnP x p1 p2 p3 p4 p5 p6 t u = (v, false)) (e1 : rpB x p1 p2 p3 p4 p5 p6 t = true) (e2 : u.ok = true) {m : Nat} (hm : (m : Int) ≤ t) (h3 : ∀ j : Nat, j ≤ m → (raP x p1 p2 p3 p4 p5 p6 t j).2 = true) : ¬ u.ins < (raP x p1 p2 p3 p4 p5 p6 t m).1.ins := by
  unfold rnP at h
  rw [e1, e2] at h
  simp only [Bool.and_self, if_true] at h
  have ht := (rpB_iff.1 e1).2.2.2.2
  exact nx_none h (Nat.zero_le _) (by omega) (fun j _ hj => h3 j hj)

/-- A drawn repeat and a stamp. -/
def DrawnRn (w : World) (e : Ending) (w' : World) : Prop :=
  ∃ (y mo d h mi s ms o p1 p2 p3 p4 p5 p6 n : Int) (u : S8), e = .returned (.tuple #[.agg #[.int .i64 y, .int .i64 mo, .int .i64 d, .int .i64 h, .int .i64 mi, .int .i64 s, .int .i64 ms, .int .i64 o, .int .i64 p1, .int .i64 p2, .int .i64 p3, .int .i64 p4, .int .i64 p5, .int .i64 p6, .int .i64 n], .agg u.v]) ∧ Below w.heap.size w w'
section
attribute [local go_sem] cell_sp sp_alloc sp_drew sp_new storeP_sp
attribute [local go_sem ↓] storeP_eq storeD_eq storeR_eq loadR_eq
set_option maxRecDepth 100000 in
set_option maxHeartbeats 4000000 in
theorem drawRN {B len cap : Nat} {A : Option Addr} {w : World} (hs : Src B w A len) (hB : B ≤ w.heap.size) (hc : len ≤ cap) (hm : cap ≤ maxLen) :
    Calls Tryd.prog 20 #[.slice A len cap] w (DrawnRn w) := by
  have R0 := (Blk.new w 40 #[.int .i64 0, .int .i64 0, .int .i64 0, .int .i64 0, .int .i64 0, .int .i64 0, .int .i64 0, .int .i64 0, .int .i64 0, .int .i64 0, .int .i64 0, .int .i64 0, .int .i64 0, .int .i64 0, .int .i64 0]).alloc (.cells #[.int .i64 0, .int .i64 0, .int .i64 0, .int .i64 0, .int .i64 0, .int .i64 0, .int .i64 0, .int .i64 0] 37)
  have S0 := Blk.newE (W := w.alloc (.cells #[.int .i64 0, .int .i64 0, .int .i64 0, .int .i64 0, .int .i64 0, .int .i64 0, .int .i64 0, .int .i64 0, .int .i64 0, .int .i64 0, .int .i64 0, .int .i64 0, .int .i64 0, .int .i64 0, .int .i64 0] 40)) (g := w.heap.size + 1) (t := 37) (cs := #[.int .i64 0, .int .i64 0, .int .i64 0, .int .i64 0, .int .i64 0, .int .i64 0, .int .i64 0, .int .i64 0]) (by simp)
  go_enter Tryd.func20, Tryd.ntmps20
  go_wp2_with fail
  refine (l6Open_any ((hs.keep fun p hp => World.cell?_alloc_lt w _ p (by omega)).keep fun p hp => World.cell?_alloc_lt _ _ p (by simp; omega)) (by simp; omega) hc hm).mono ?_
  rintro e w1 ⟨g, rfl, hg, hr1, hb1⟩
  have hg' : w.heap.size + 1 < g := Nat.lt_of_lt_of_le S0.lt hg
  have R1 := hide (R0.below hb1 R0.lt)
  have S1 := hide (S0.below hb1 S0.lt)
  have B1 := hide (bto (bal (bal (Below.refl w.heap.size w) (.cells #[.int .i64 0, .int .i64 0, .int .i64 0, .int .i64 0, .int .i64 0, .int .i64 0, .int .i64 0, .int .i64 0, .int .i64 0, .int .i64 0, .int .i64 0, .int .i64 0, .int .i64 0, .int .i64 0, .int .i64 0] 40)) (.cells #[.int .i64 0, .int .i64 0, .int .i64 0, .int .i64 0, .int .i64 0, .int .i64 0, .int .i64 0, .int .i64 0] 37)) hb1)
  clear R0 S0 hb1
  go_wp2_with fail
  refine (l92Repeat_any hr1 (by omega)).mono ?_
  rintro e w2 ⟨y, mo, d, h, mi, s, ms, o, p1, p2, p3, p4, p5, p6, n, rfl, hn, hr2, hg2⟩
  have hgl2 := hr2.lt
  have R2 := R1.out.grown' hg2 (by omega)
  have S2 := S1.out.grown' hg2 (by omega)
  have hrl2 := S2.lt
  have B2 := bonly B1.out hg2 (by omega)
  obtain ⟨w3, st3, X3, R3, S3, T3, B3⟩ : ∃ W, (storeR (.pointer (some ⟨w2.heap.size, 0, none⟩)) (.agg #[.int .i64 y, .int .i64 mo, .int .i64 d, .int .i64 h, .int .i64 mi, .int .i64 s, .int .i64 ms, .int .i64 o, .int .i64 p1, .int .i64 p2, .int .i64 p3, .int .i64 p4, .int .i64 p5, .int .i64 p6, .int .i64 n])).run Tryd.prog (w2.alloc (.cells #[.int .i64 0, .int .i64 0, .int .i64 0, .int .i64 0, .int .i64 0, .int .i64 0, .int .i64 0, .int .i64 0, .int .i64 0, .int .i64 0, .int .i64 0, .int .i64 0, .int .i64 0, .int .i64 0, .int .i64 0] 40)) = .ok () W ∧ Hid (Blk W w2.heap.size 40 #[.int .i64 y, .int .i64 mo, .int .i64 d, .int .i64 h, .int .i64 mi, .int .i64 s, .int .i64 ms, .int .i64 o, .int .i64 p1, .int .i64 p2, .int .i64 p3, .int .i64 p4, .int .i64 p5, .int .i64 p6, .int .i64 n]) ∧ Hid (Blk W w.heap.size 40 #[.int .i64 0, .int .i64 0, .int .i64 0, .int .i64 0, .int .i64 0, .int .i64 0, .int .i64 0, .int .i64 0, .int .i64 0, .int .i64 0, .int .i64 0, .int .i64 0, .int .i64 0, .int .i64 0, .int .i64 0]) ∧ Hid (Blk W (w.heap.size + 1) 37 #[.int .i64 0, .int .i64 0, .int .i64 0, .int .i64 0, .int .i64 0, .int .i64 0, .int .i64 0, .int .i64 0]) ∧ Hid (Rd B W g (0 + 60)) ∧ Hid (Below w.heap.size w W) :=
    ⟨_, storeR_rq ⟨_, rfl, Blk.new w2 40 #[.int .i64 0, .int .i64 0, .int .i64 0, .int .i64 0, .int .i64 0, .int .i64 0, .int .i64 0, .int .i64 0, .int .i64 0, .int .i64 0, .int .i64 0, .int .i64 0, .int .i64 0, .int .i64 0, .int .i64 0]⟩ _ _ _ _ _ _ _ _ _ _ _ _ _ _ _, hide ((Blk.new w2 40 #[.int .i64 0, .int .i64 0, .int .i64 0, .int .i64 0, .int .i64 0, .int .i64 0, .int .i64 0, .int .i64 0, .int .i64 0, .int .i64 0, .int .i64 0, .int .i64 0, .int .i64 0, .int .i64 0, .int .i64 0]).setRow _), hide ((R2.alloc (.cells #[.int .i64 0, .int .i64 0, .int .i64 0, .int .i64 0, .int .i64 0, .int .i64 0, .int .i64 0, .int .i64 0, .int .i64 0, .int .i64 0, .int .i64 0, .int .i64 0, .int .i64 0, .int .i64 0, .int .i64 0] 40)).setRow_far (by omega) _), hide ((S2.alloc (.cells #[.int .i64 0, .int .i64 0, .int .i64 0, .int .i64 0, .int .i64 0, .int .i64 0, .int .i64 0, .int .i64 0, .int .i64 0, .int .i64 0, .int .i64 0, .int .i64 0, .int .i64 0, .int .i64 0, .int .i64 0] 40)).setRow_far (by omega) _), hide ((hr2.alloc (.cells #[.int .i64 0, .int .i64 0, .int .i64 0, .int .i64 0, .int .i64 0, .int .i64 0, .int .i64 0, .int .i64 0, .int .i64 0, .int .i64 0, .int .i64 0, .int .i64 0, .int .i64 0, .int .i64 0, .int .i64 0] 40)).setRow (by omega) _), hide (brow (bal B2 (.cells #[.int .i64 0, .int .i64 0, .int .i64 0, .int .i64 0, .int .i64 0, .int .i64 0, .int .i64 0, .int .i64 0, .int .i64 0, .int .i64 0, .int .i64 0, .int .i64 0, .int .i64 0, .int .i64 0, .int .i64 0] 40)) (by omega) _)⟩
  obtain ⟨M0, eM⟩ : ∃ M0, M0 = mx n 0 := ⟨_, rfl⟩
  have hM : 0 ≤ M0 ∧ M0 ≤ 100 := by have := mx_law n 0; omega
  have hwr : IntKind.i64.wrap (M0 + 1) = M0 + 1 := IntWalk.i64_in _ (by omega)
  have hmax : ∀ (ts : Array TypeId) (t : TypeId) (W : World), Sem.run Tryd.prog (Builtin.max_ ts t #[.int .i64 n, .int .i64 0]) W = .ok (.int .i64 M0) W := fun ts t W => by rw [run_max2, ← eM]
  have hRA : ∀ (k : Int) W, Calls Tryd.prog 14 #[.agg #[.int .i64 y, .int .i64 mo, .int .i64 d, .int .i64 h, .int .i64 mi, .int .i64 s, .int .i64 ms, .int .i64 o, .int .i64 p1, .int .i64 p2, .int .i64 p3, .int .i64 p4, .int .i64 p5, .int .i64 p6, .int .i64 n], .int .i64 k] W fun e w' => (∃ (z : S8) (ok : Bool), e = .returned (.tuple #[.agg z.v, .bool ok])) ∧ Below W.heap.size W w' := fun k W =>
    (spec_ra y mo d h mi s ms o p1 p2 p3 p4 p5 p6 n k W).mono fun e w' hh => ⟨⟨_, _, hh.1⟩, hh.2⟩
  clear R1 S1 B1 R2 S2 B2 hr1 hg2 hr2 eM
  have hxl := X3.out.lt
  have hrl := T3.out.lt
  have ww : ∀ w', Blk w' w2.heap.size 40 #[.int .i64 y, .int .i64 mo, .int .i64 d, .int .i64 h, .int .i64 mi, .int .i64 s, .int .i64 ms, .int .i64 o, .int .i64 p1, .int .i64 p2, .int .i64 p3, .int .i64 p4, .int .i64 p5, .int .i64 p6, .int .i64 n] → (loadR (.pointer (some ⟨w2.heap.size, 0, none⟩))).run Tryd.prog w' = .ok (.agg #[.int .i64 y, .int .i64 mo, .int .i64 d, .int .i64 h, .int .i64 mi, .int .i64 s, .int .i64 ms, .int .i64 o, .int .i64 p1, .int .i64 p2, .int .i64 p3, .int .i64 p4, .int .i64 p5, .int .i64 p6, .int .i64 n]) w' ∧ w'.cell? ⟨w2.heap.size, 14, none⟩ = some (.int .i64 n) := fun w' k => ⟨loadR_row k, by have := k.cell 14; simpa using this⟩
  have hd := T3.out.drew
  go_upto_region 3 with fail
  go_cut [6, 7] from 12 to 22 (fun t6 t7 wx => ∃ (gY : Nat) (Y M D H I S L O : Int) (ok : Bool), t6 = .pointer (some ⟨gY, 0, none⟩) ∧ t7 = .bool ok ∧ (gY ≠ g ∧ w.heap.size + 1 < gY) ∧ Hid (Blk wx gY 37 #[.int .i64 Y, .int .i64 M, .int .i64 D, .int .i64 H, .int .i64 I, .int .i64 S, .int .i64 L, .int .i64 O]) ∧ Hid (Blk wx w2.heap.size 40 #[.int .i64 y, .int .i64 mo, .int .i64 d, .int .i64 h, .int .i64 mi, .int .i64 s, .int .i64 ms, .int .i64 o, .int .i64 p1, .int .i64 p2, .int .i64 p3, .int .i64 p4, .int .i64 p5, .int .i64 p6, .int .i64 n]) ∧ Hid (Blk wx w.heap.size 40 #[.int .i64 0, .int .i64 0, .int .i64 0, .int .i64 0, .int .i64 0, .int .i64 0, .int .i64 0, .int .i64 0, .int .i64 0, .int .i64 0, .int .i64 0, .int .i64 0, .int .i64 0, .int .i64 0, .int .i64 0]) ∧ Hid (Blk wx (w.heap.size + 1) 37 #[.int .i64 0, .int .i64 0, .int .i64 0, .int .i64 0, .int .i64 0, .int .i64 0, .int .i64 0, .int .i64 0]) ∧ Hid (Rd B wx g (0 + 60 + 1)) ∧ Hid (Below w.heap.size w wx))
  case first =>
    go_region_held3 (fun w' => (loadR (.pointer (some ⟨w2.heap.size, 0, none⟩))).run Tryd.prog w' = .ok (.agg #[.int .i64 y, .int .i64 mo, .int .i64 d, .int .i64 h, .int .i64 mi, .int .i64 s, .int .i64 ms, .int .i64 o, .int .i64 p1, .int .i64 p2, .int .i64 p3, .int .i64 p4, .int .i64 p5, .int .i64 p6, .int .i64 n]) w' ∧ w'.cell? ⟨w2.heap.size, 14, none⟩ = some (.int .i64 n)) (first | (refine ww _ ?_; (repeat' first | (with_reducible exact X6.out) | (with_reducible exact X5.out) | (with_reducible exact X3.out) | (with_reducible refine Blk.drew ?_) | (with_reducible refine Blk.alloc ?_ _) | ((with_reducible refine Blk.setRow_far ?_ ?_ _); rotate_left; focus omega)); done)) (first | (go_at_call 39; (first | refine (pick_any hd (by omega) (by omega)).mono ?_ | refine (pick_any (hd.alloc (.cells #[.int .i64 0, .int .i64 0, .int .i64 0, .int .i64 0, .int .i64 0, .int .i64 0, .int .i64 0, .int .i64 0] 37)) (by omega) (by omega)).mono ?_); rintro e w5 ⟨v5, a5, b5, rfl, hr5, hg5⟩; (first | (have X5 := hide ((X3.out.drew).grown' hg5 (by omega)); have R5 := hide ((R3.out.drew).grown' hg5 (by omega)); have S5 := hide ((S3.out.drew).grown' hg5 (by omega)); have B5 := hide (bonly (bdrew B3.out) hg5 (by omega)); have D5 := True.intro) | (have X5 := hide ((X3.out.drew.alloc (.cells #[.int .i64 0, .int .i64 0, .int .i64 0, .int .i64 0, .int .i64 0, .int .i64 0, .int .i64 0, .int .i64 0] 37)).grown' hg5 (by omega)); have R5 := hide ((R3.out.drew.alloc (.cells #[.int .i64 0, .int .i64 0, .int .i64 0, .int .i64 0, .int .i64 0, .int .i64 0, .int .i64 0, .int .i64 0] 37)).grown' hg5 (by omega)); have S5 := hide ((S3.out.drew.alloc (.cells #[.int .i64 0, .int .i64 0, .int .i64 0, .int .i64 0, .int .i64 0, .int .i64 0, .int .i64 0, .int .i64 0] 37)).grown' hg5 (by omega)); have B5 := hide (bonly (bal (bdrew B3.out) (.cells #[.int .i64 0, .int .i64 0, .int .i64 0, .int .i64 0, .int .i64 0, .int .i64 0, .int .i64 0, .int .i64 0] 37)) hg5 (by omega)); have D5 := hide ((Blk.newE (W := w3.drew) (g := w3.heap.size) (t := 37) (cs := #[.int .i64 0, .int .i64 0, .int .i64 0, .int .i64 0, .int .i64 0, .int .i64 0, .int .i64 0, .int .i64 0]) rfl).grown' hg5 (by omega)))); have hl5 := X5.out.lt; have hle5 := hg5.size; clear hd) | (go_at_call 14; refine (hRA v5 _).mono ?_; rintro e w6 ⟨⟨⟨Y, M, D, H, I, S, L, O⟩, ok, rfl⟩, hb6⟩; simp only [S8.v]; (first | (have X6 := hide ((X5.out).below hb6 (X5.out).lt); have R6 := hide ((R5.out).below hb6 (R5.out).lt); have S6 := hide ((S5.out).below hb6 (S5.out).lt); have B6 := hide (bto B5.out hb6); have hr6 := Rd.below hr5 hb6 hr5.lt; (first | (have D6 := hide (D5.out.below hb6 D5.out.lt); have hsp6 := D6.out.sp rfl) | have D6 := True.intro)) | (have X6 := hide ((X5.out.alloc (.cells #[.int .i64 0, .int .i64 0, .int .i64 0, .int .i64 0, .int .i64 0, .int .i64 0, .int .i64 0, .int .i64 0] 37)).below hb6 (X5.out.alloc (.cells #[.int .i64 0, .int .i64 0, .int .i64 0, .int .i64 0, .int .i64 0, .int .i64 0, .int .i64 0, .int .i64 0] 37)).lt); have R6 := hide ((R5.out.alloc (.cells #[.int .i64 0, .int .i64 0, .int .i64 0, .int .i64 0, .int .i64 0, .int .i64 0, .int .i64 0, .int .i64 0] 37)).below hb6 (R5.out.alloc (.cells #[.int .i64 0, .int .i64 0, .int .i64 0, .int .i64 0, .int .i64 0, .int .i64 0, .int .i64 0, .int .i64 0] 37)).lt); have S6 := hide ((S5.out.alloc (.cells #[.int .i64 0, .int .i64 0, .int .i64 0, .int .i64 0, .int .i64 0, .int .i64 0, .int .i64 0, .int .i64 0] 37)).below hb6 (S5.out.alloc (.cells #[.int .i64 0, .int .i64 0, .int .i64 0, .int .i64 0, .int .i64 0, .int .i64 0, .int .i64 0, .int .i64 0] 37)).lt); have B6 := hide (bto (bal B5.out (.cells #[.int .i64 0, .int .i64 0, .int .i64 0, .int .i64 0, .int .i64 0, .int .i64 0, .int .i64 0, .int .i64 0] 37)) hb6); have hr6 := Rd.below (hr5.alloc (.cells #[.int .i64 0, .int .i64 0, .int .i64 0, .int .i64 0, .int .i64 0, .int .i64 0, .int .i64 0, .int .i64 0] 37)) hb6 (hr5.alloc (.cells #[.int .i64 0, .int .i64 0, .int .i64 0, .int .i64 0, .int .i64 0, .int .i64 0, .int .i64 0, .int .i64 0] 37)).lt; have D6 := hide ((Blk.new w5 37 #[.int .i64 0, .int .i64 0, .int .i64 0, .int .i64 0, .int .i64 0, .int .i64 0, .int .i64 0, .int .i64 0]).below hb6 (Blk.new w5 37 #[.int .i64 0, .int .i64 0, .int .i64 0, .int .i64 0, .int .i64 0, .int .i64 0, .int .i64 0, .int .i64 0]).lt); have hsp6 := D6.out.sp rfl)); have hl6 := X6.out.lt; have hle6 := hb6.size; have hq6 := hr6.lt; have hs6 := S6.out.lt))
    all_goals
      rename_i hS
      clear hS ww
      go_wp2_with fail
      go_meet
      first
      | exact ⟨w3.heap.size, Y, M, D, H, I, S, L, O, ok, rfl, rfl, by omega, hide (D6.out.setRow #[.int .i64 Y, .int .i64 M, .int .i64 D, .int .i64 H, .int .i64 I, .int .i64 S, .int .i64 L, .int .i64 O]), hide (X6.out.setRow_far (show w2.heap.size ≠ w3.heap.size by omega) #[.int .i64 Y, .int .i64 M, .int .i64 D, .int .i64 H, .int .i64 I, .int .i64 S, .int .i64 L, .int .i64 O]), hide (R6.out.setRow_far (show w.heap.size ≠ w3.heap.size by omega) #[.int .i64 Y, .int .i64 M, .int .i64 D, .int .i64 H, .int .i64 I, .int .i64 S, .int .i64 L, .int .i64 O]), hide (S6.out.setRow_far (show w.heap.size + 1 ≠ w3.heap.size by omega) #[.int .i64 Y, .int .i64 M, .int .i64 D, .int .i64 H, .int .i64 I, .int .i64 S, .int .i64 L, .int .i64 O]), hide (hr6.setRow (by omega) #[.int .i64 Y, .int .i64 M, .int .i64 D, .int .i64 H, .int .i64 I, .int .i64 S, .int .i64 L, .int .i64 O]), hide (brow B6.out (show w.heap.size ≤ w3.heap.size by omega) #[.int .i64 Y, .int .i64 M, .int .i64 D, .int .i64 H, .int .i64 I, .int .i64 S, .int .i64 L, .int .i64 O])⟩
      | exact ⟨w5.heap.size, Y, M, D, H, I, S, L, O, ok, rfl, rfl, by omega, hide (D6.out.setRow #[.int .i64 Y, .int .i64 M, .int .i64 D, .int .i64 H, .int .i64 I, .int .i64 S, .int .i64 L, .int .i64 O]), hide (X6.out.setRow_far (show w2.heap.size ≠ w5.heap.size by omega) #[.int .i64 Y, .int .i64 M, .int .i64 D, .int .i64 H, .int .i64 I, .int .i64 S, .int .i64 L, .int .i64 O]), hide (R6.out.setRow_far (show w.heap.size ≠ w5.heap.size by omega) #[.int .i64 Y, .int .i64 M, .int .i64 D, .int .i64 H, .int .i64 I, .int .i64 S, .int .i64 L, .int .i64 O]), hide (S6.out.setRow_far (show w.heap.size + 1 ≠ w5.heap.size by omega) #[.int .i64 Y, .int .i64 M, .int .i64 D, .int .i64 H, .int .i64 I, .int .i64 S, .int .i64 L, .int .i64 O]), hide (hr6.setRow (by omega) #[.int .i64 Y, .int .i64 M, .int .i64 D, .int .i64 H, .int .i64 I, .int .i64 S, .int .i64 L, .int .i64 O]), hide (brow B6.out (show w.heap.size ≤ w5.heap.size by omega) #[.int .i64 Y, .int .i64 M, .int .i64 D, .int .i64 H, .int .i64 I, .int .i64 S, .int .i64 L, .int .i64 O])⟩
      | exact ⟨w6.heap.size, Y, M, D, H, I, S, L, O, ok, rfl, rfl, by omega, hide ((Blk.new w6 37 #[.int .i64 0, .int .i64 0, .int .i64 0, .int .i64 0, .int .i64 0, .int .i64 0, .int .i64 0, .int .i64 0]).setRow #[.int .i64 Y, .int .i64 M, .int .i64 D, .int .i64 H, .int .i64 I, .int .i64 S, .int .i64 L, .int .i64 O]), hide ((X6.out.alloc (.cells #[.int .i64 0, .int .i64 0, .int .i64 0, .int .i64 0, .int .i64 0, .int .i64 0, .int .i64 0, .int .i64 0] 37)).setRow_far (show w2.heap.size ≠ w6.heap.size by omega) #[.int .i64 Y, .int .i64 M, .int .i64 D, .int .i64 H, .int .i64 I, .int .i64 S, .int .i64 L, .int .i64 O]), hide ((R6.out.alloc (.cells #[.int .i64 0, .int .i64 0, .int .i64 0, .int .i64 0, .int .i64 0, .int .i64 0, .int .i64 0, .int .i64 0] 37)).setRow_far (show w.heap.size ≠ w6.heap.size by omega) #[.int .i64 Y, .int .i64 M, .int .i64 D, .int .i64 H, .int .i64 I, .int .i64 S, .int .i64 L, .int .i64 O]), hide ((S6.out.alloc (.cells #[.int .i64 0, .int .i64 0, .int .i64 0, .int .i64 0, .int .i64 0, .int .i64 0, .int .i64 0, .int .i64 0] 37)).setRow_far (show w.heap.size + 1 ≠ w6.heap.size by omega) #[.int .i64 Y, .int .i64 M, .int .i64 D, .int .i64 H, .int .i64 I, .int .i64 S, .int .i64 L, .int .i64 O]), hide ((hr6.alloc (.cells #[.int .i64 0, .int .i64 0, .int .i64 0, .int .i64 0, .int .i64 0, .int .i64 0, .int .i64 0, .int .i64 0] 37)).setRow (by omega) #[.int .i64 Y, .int .i64 M, .int .i64 D, .int .i64 H, .int .i64 I, .int .i64 S, .int .i64 L, .int .i64 O]), hide (brow (bal B6.out (.cells #[.int .i64 0, .int .i64 0, .int .i64 0, .int .i64 0, .int .i64 0, .int .i64 0, .int .i64 0, .int .i64 0] 37)) (show w.heap.size ≤ w6.heap.size by omega) #[.int .i64 Y, .int .i64 M, .int .i64 D, .int .i64 H, .int .i64 I, .int .i64 S, .int .i64 L, .int .i64 O])⟩
  case rest =>
    clear ww hd X3 R3 S3 T3 B3 st3 hmax hwr hRA hxl hrl
    obtain ⟨gY, Y, M, D, H, I, S, L, O, ok, rfl, rfl, hgY, Y7, X7, R7, S7, T7, B7⟩ := hcut
    obtain ⟨hgY, hgY2⟩ := hgY
    have hgl7 := T7.out.lt
    have hsl7 := S7.out.lt
    have hxl7 := X7.out.lt
    cases ok with
    | false =>
      go_wp2_with fail
      have hld := loadR_row X7.out.drew
      have ht := T7.out
      go_region_with (first | (go_simp; go_at_call 44; refine (l91Stamp_any (Rd.drew ht) (by omega)).mono ?_; rintro e w9 ⟨⟨qy, qmo, qd, qh, qmi, qs, qms, qo⟩, rfl, hr9, hg9⟩; simp only [S8.v]; have X9 := hide (X7.out.drew.grown' hg9 (by omega)); have R9 := R7.out.drew.grown' hg9 (by omega); have S9 := S7.out.drew.grown' hg9 (by omega); have B9 := bonly (bdrew B7.out) hg9 (by omega); have hld9 := loadR_row X9.out; obtain ⟨We, ste, RE, SE, BE⟩ : ∃ W, (storeR (.pointer (some ⟨w.heap.size, 0, none⟩)) (.agg #[.int .i64 y, .int .i64 mo, .int .i64 d, .int .i64 h, .int .i64 mi, .int .i64 s, .int .i64 ms, .int .i64 o, .int .i64 p1, .int .i64 p2, .int .i64 p3, .int .i64 p4, .int .i64 p5, .int .i64 p6, .int .i64 n])).run Tryd.prog w9 = .ok () W ∧ Hid (Blk W w.heap.size 40 #[.int .i64 y, .int .i64 mo, .int .i64 d, .int .i64 h, .int .i64 mi, .int .i64 s, .int .i64 ms, .int .i64 o, .int .i64 p1, .int .i64 p2, .int .i64 p3, .int .i64 p4, .int .i64 p5, .int .i64 p6, .int .i64 n]) ∧ Hid (Blk W (w.heap.size + 1) 37 #[.int .i64 0, .int .i64 0, .int .i64 0, .int .i64 0, .int .i64 0, .int .i64 0, .int .i64 0, .int .i64 0]) ∧ Hid (Below w.heap.size w W) := ⟨_, storeR_rq ⟨_, rfl, R9⟩ _ _ _ _ _ _ _ _ _ _ _ _ _ _ _, hide (R9.setRow _), hide (S9.setRow_far (by omega) _), hide (brow B9 (Nat.le_refl _) _)⟩; have hspE := SE.out.sp rfl))
      all_goals
        as_aux_lemma =>
          go_wp2_with fail
          have KR := RE.out.setRow_far (k := w.heap.size + 1) (show w.heap.size ≠ w.heap.size + 1 by omega) #[.int .i64 qy, .int .i64 qmo, .int .i64 qd, .int .i64 qh, .int .i64 qmi, .int .i64 qs, .int .i64 qms, .int .i64 qo]
          have k0 := KR.cell 0
          have k1 := KR.cell 1
          have k2 := KR.cell 2
          have k3 := KR.cell 3
          have k4 := KR.cell 4
          have k5 := KR.cell 5
          have k6 := KR.cell 6
          have k7 := KR.cell 7
          have k8 := KR.cell 8
          have k9 := KR.cell 9
          have k10 := KR.cell 10
          have k11 := KR.cell 11
          have k12 := KR.cell 12
          have k13 := KR.cell 13
          have k14 := KR.cell 14
          simp at k0 k1 k2 k3 k4 k5 k6 k7 k8 k9 k10 k11 k12 k13 k14
          refine bodyPost_ret (by simp [results, Tryd.results20, go_sem, cell_sp hspE, k0, k1, k2, k3, k4, k5, k6, k7, k8, k9, k10, k11, k12, k13, k14]; try rfl) rfl ?_
          exact ⟨_, _, _, _, _, _, _, _, _, _, _, _, _, _, _, ⟨qy, qmo, qd, qh, qmi, qs, qms, qo⟩, rfl, brow BE.out (by omega) _⟩
    | true =>
      go_wp2_with fail
      refine (pick_any T7.out (by omega) (by omega)).mono ?_
      rintro e w8 ⟨v8, a8, b8, rfl, hr8, hg8⟩
      have hyl7 := Y7.out.lt
      have X8 := hide (X7.out.grown' hg8 (by omega))
      have R8_ := hide (R7.out.grown' hg8 (by omega))
      have S8_ := hide (S7.out.grown' hg8 (by omega))
      have B8 := hide (bonly B7.out hg8 (by omega))
      by_cases z8 : v8 = 0
      · subst z8
        go_wp2_with fail
        have hld := loadR_row X8.out.drew
        have ht := hr8
        go_region_with (first | (go_simp; go_at_call 44; refine (l91Stamp_any (Rd.drew ht) (by omega)).mono ?_; rintro e w9 ⟨⟨qy, qmo, qd, qh, qmi, qs, qms, qo⟩, rfl, hr9, hg9⟩; simp only [S8.v]; have X9 := hide (X8.out.drew.grown' hg9 (by omega)); have R9 := R8_.out.drew.grown' hg9 (by omega); have S9 := S8_.out.drew.grown' hg9 (by omega); have B9 := bonly (bdrew B8.out) hg9 (by omega); have hld9 := loadR_row X9.out; obtain ⟨We, ste, RE, SE, BE⟩ : ∃ W, (storeR (.pointer (some ⟨w.heap.size, 0, none⟩)) (.agg #[.int .i64 y, .int .i64 mo, .int .i64 d, .int .i64 h, .int .i64 mi, .int .i64 s, .int .i64 ms, .int .i64 o, .int .i64 p1, .int .i64 p2, .int .i64 p3, .int .i64 p4, .int .i64 p5, .int .i64 p6, .int .i64 n])).run Tryd.prog w9 = .ok () W ∧ Hid (Blk W w.heap.size 40 #[.int .i64 y, .int .i64 mo, .int .i64 d, .int .i64 h, .int .i64 mi, .int .i64 s, .int .i64 ms, .int .i64 o, .int .i64 p1, .int .i64 p2, .int .i64 p3, .int .i64 p4, .int .i64 p5, .int .i64 p6, .int .i64 n]) ∧ Hid (Blk W (w.heap.size + 1) 37 #[.int .i64 0, .int .i64 0, .int .i64 0, .int .i64 0, .int .i64 0, .int .i64 0, .int .i64 0, .int .i64 0]) ∧ Hid (Below w.heap.size w W) := ⟨_, storeR_rq ⟨_, rfl, R9⟩ _ _ _ _ _ _ _ _ _ _ _ _ _ _ _, hide (R9.setRow _), hide (S9.setRow_far (by omega) _), hide (brow B9 (Nat.le_refl _) _)⟩; have hspE := SE.out.sp rfl))
        all_goals
          as_aux_lemma =>
            go_wp2_with fail
            have KR := RE.out.setRow_far (k := w.heap.size + 1) (show w.heap.size ≠ w.heap.size + 1 by omega) #[.int .i64 qy, .int .i64 qmo, .int .i64 qd, .int .i64 qh, .int .i64 qmi, .int .i64 qs, .int .i64 qms, .int .i64 qo]
            have k0 := KR.cell 0
            have k1 := KR.cell 1
            have k2 := KR.cell 2
            have k3 := KR.cell 3
            have k4 := KR.cell 4
            have k5 := KR.cell 5
            have k6 := KR.cell 6
            have k7 := KR.cell 7
            have k8 := KR.cell 8
            have k9 := KR.cell 9
            have k10 := KR.cell 10
            have k11 := KR.cell 11
            have k12 := KR.cell 12
            have k13 := KR.cell 13
            have k14 := KR.cell 14
            simp at k0 k1 k2 k3 k4 k5 k6 k7 k8 k9 k10 k11 k12 k13 k14
            refine bodyPost_ret (by simp [results, Tryd.results20, go_sem, cell_sp hspE, k0, k1, k2, k3, k4, k5, k6, k7, k8, k9, k10, k11, k12, k13, k14]; try rfl) rfl ?_
            exact ⟨_, _, _, _, _, _, _, _, _, _, _, _, _, _, _, ⟨qy, qmo, qd, qh, qmi, qs, qms, qo⟩, rfl, brow BE.out (by omega) _⟩
      · have z0 : (v8 == 0) = false := beq_eq_false_iff_ne.2 z8
        have Y8 := hide (Y7.out.grown' hg8 hgY)
        obtain ⟨y0, y1, y2, y3, y4, y5, y6, y7⟩ := st8 Y8.out
        have hld := loadR_row X8.out.drew
        obtain ⟨We, ste, RE, SE, BE, YE⟩ : ∃ W, (storeR (.pointer (some ⟨w.heap.size, 0, none⟩)) (.agg #[.int .i64 y, .int .i64 mo, .int .i64 d, .int .i64 h, .int .i64 mi, .int .i64 s, .int .i64 ms, .int .i64 o, .int .i64 p1, .int .i64 p2, .int .i64 p3, .int .i64 p4, .int .i64 p5, .int .i64 p6, .int .i64 n])).run Tryd.prog w8.drew = .ok () W ∧ Hid (Blk W w.heap.size 40 #[.int .i64 y, .int .i64 mo, .int .i64 d, .int .i64 h, .int .i64 mi, .int .i64 s, .int .i64 ms, .int .i64 o, .int .i64 p1, .int .i64 p2, .int .i64 p3, .int .i64 p4, .int .i64 p5, .int .i64 p6, .int .i64 n]) ∧ Hid (Blk W (w.heap.size + 1) 37 #[.int .i64 0, .int .i64 0, .int .i64 0, .int .i64 0, .int .i64 0, .int .i64 0, .int .i64 0, .int .i64 0]) ∧ Hid (Below w.heap.size w W) ∧ Hid (Blk W gY 37 #[.int .i64 Y, .int .i64 M, .int .i64 D, .int .i64 H, .int .i64 I, .int .i64 S, .int .i64 L, .int .i64 O]) := ⟨_, storeR_rq ⟨_, rfl, R8_.out.drew⟩ _ _ _ _ _ _ _ _ _ _ _ _ _ _ _, hide (R8_.out.drew.setRow _), hide (S8_.out.drew.setRow_far (by omega) _), hide (brow (bdrew B8.out) (Nat.le_refl _) _), hide (Y8.out.drew.setRow_far (by omega) _)⟩
        obtain ⟨x0, x1, x2, x3, x4, x5, x6, x7⟩ := st8 YE.out
        have hspE := SE.out.sp rfl
        go_wp2_with fail
        go_region
        all_goals
          as_aux_lemma =>
            go_wp2_with fail
            have KR := RE.out.setRow_far (k := w.heap.size + 1) (show w.heap.size ≠ w.heap.size + 1 by omega) #[.int .i64 Y, .int .i64 M, .int .i64 D, .int .i64 H, .int .i64 I, .int .i64 S, .int .i64 L, .int .i64 O]
            have k0 := KR.cell 0
            have k1 := KR.cell 1
            have k2 := KR.cell 2
            have k3 := KR.cell 3
            have k4 := KR.cell 4
            have k5 := KR.cell 5
            have k6 := KR.cell 6
            have k7 := KR.cell 7
            have k8 := KR.cell 8
            have k9 := KR.cell 9
            have k10 := KR.cell 10
            have k11 := KR.cell 11
            have k12 := KR.cell 12
            have k13 := KR.cell 13
            have k14 := KR.cell 14
            simp at k0 k1 k2 k3 k4 k5 k6 k7 k8 k9 k10 k11 k12 k13 k14
            refine bodyPost_ret (by simp [results, Tryd.results20, go_sem, cell_sp hspE, k0, k1, k2, k3, k4, k5, k6, k7, k8, k9, k10, k11, k12, k13, k14]; try rfl) rfl ?_
            exact ⟨_, _, _, _, _, _, _, _, _, _, _, _, _, _, _, ⟨Y, M, D, H, I, S, L, O⟩, rfl, brow BE.out (by omega) _⟩
end

section
attribute [local go_sem] cell_sp sp_alloc sp_drew sp_new storeP_sp
attribute [local go_sem ↓] storeP_eq storeR_eq loadR_eq
set_option maxRecDepth 100000 in
set_option maxHeartbeats 4000000 in
theorem w_FnNext (w : World) (hM : MD w) (A : Option Addr) (len cap : Nat) (hs : Src w.heap.size w A len) (hc : len ≤ cap) (hm : cap ≤ maxLen) :
    Calls Tryd.prog 8 #[.slice A len cap] w fun e w' => e = .returned (.bool true) ∧ Below w.heap.size w w' := by
  have hm' := hm
  unfold maxLen at hm'
  by_cases hbig : 1048576 < len
  · go_enter Tryd.func8, Tryd.ntmps8
    go_wp2_with fail
    go_ret
    exact ⟨rfl, Below.refl _ _⟩
  · go_enter Tryd.func8, Tryd.ntmps8
    go_wp2_with fail
    refine (drawRN hs (Nat.le_refl _) hc hm).mono ?_
    rintro e w1 ⟨y, mo, d, h, mi, s, ms, o, p1, p2, p3, p4, p5, p6, n, ⟨uy, umo, ud, uh, umi, us, ums, uo⟩, rfl, hb1⟩
    simp only [S8.v]
    have hsz1 := hb1.size
    obtain ⟨wa, sta, RA, UA, BA⟩ : ∃ W, (storeR (.pointer (some ⟨w1.heap.size, 0, none⟩)) (.agg #[.int .i64 y, .int .i64 mo, .int .i64 d, .int .i64 h, .int .i64 mi, .int .i64 s, .int .i64 ms, .int .i64 o, .int .i64 p1, .int .i64 p2, .int .i64 p3, .int .i64 p4, .int .i64 p5, .int .i64 p6, .int .i64 n])).run Tryd.prog ((w1.alloc (.cells #[.int .i64 0, .int .i64 0, .int .i64 0, .int .i64 0, .int .i64 0, .int .i64 0, .int .i64 0, .int .i64 0, .int .i64 0, .int .i64 0, .int .i64 0, .int .i64 0, .int .i64 0, .int .i64 0, .int .i64 0] 40)).alloc (.cells #[.int .i64 0, .int .i64 0, .int .i64 0, .int .i64 0, .int .i64 0, .int .i64 0, .int .i64 0, .int .i64 0] 37)) = .ok () W ∧ Hid (Blk W (w1.heap.size) 40 #[.int .i64 y, .int .i64 mo, .int .i64 d, .int .i64 h, .int .i64 mi, .int .i64 s, .int .i64 ms, .int .i64 o, .int .i64 p1, .int .i64 p2, .int .i64 p3, .int .i64 p4, .int .i64 p5, .int .i64 p6, .int .i64 n]) ∧ Hid (Blk W (w1.heap.size + 1) 37 #[.int .i64 0, .int .i64 0, .int .i64 0, .int .i64 0, .int .i64 0, .int .i64 0, .int .i64 0, .int .i64 0]) ∧ Hid (Below w.heap.size w W) :=
      ⟨_, storeR_rq ⟨_, rfl, (Blk.new w1 40 #[.int .i64 0, .int .i64 0, .int .i64 0, .int .i64 0, .int .i64 0, .int .i64 0, .int .i64 0, .int .i64 0, .int .i64 0, .int .i64 0, .int .i64 0, .int .i64 0, .int .i64 0, .int .i64 0, .int .i64 0]).alloc (.cells #[.int .i64 0, .int .i64 0, .int .i64 0, .int .i64 0, .int .i64 0, .int .i64 0, .int .i64 0, .int .i64 0] 37)⟩ _ _ _ _ _ _ _ _ _ _ _ _ _ _ _, hide (((Blk.new w1 40 #[.int .i64 0, .int .i64 0, .int .i64 0, .int .i64 0, .int .i64 0, .int .i64 0, .int .i64 0, .int .i64 0, .int .i64 0, .int .i64 0, .int .i64 0, .int .i64 0, .int .i64 0, .int .i64 0, .int .i64 0]).alloc (.cells #[.int .i64 0, .int .i64 0, .int .i64 0, .int .i64 0, .int .i64 0, .int .i64 0, .int .i64 0, .int .i64 0] 37)).setRow _), hide ((Blk.newE (W := w1.alloc (.cells #[.int .i64 0, .int .i64 0, .int .i64 0, .int .i64 0, .int .i64 0, .int .i64 0, .int .i64 0, .int .i64 0, .int .i64 0, .int .i64 0, .int .i64 0, .int .i64 0, .int .i64 0, .int .i64 0, .int .i64 0] 40)) (g := w1.heap.size + 1) (t := 37) (cs := #[.int .i64 0, .int .i64 0, .int .i64 0, .int .i64 0, .int .i64 0, .int .i64 0, .int .i64 0, .int .i64 0]) (by simp)).setRow_far (by omega) _), hide (brow (bal (bal hb1 (.cells #[.int .i64 0, .int .i64 0, .int .i64 0, .int .i64 0, .int .i64 0, .int .i64 0, .int .i64 0, .int .i64 0, .int .i64 0, .int .i64 0, .int .i64 0, .int .i64 0, .int .i64 0, .int .i64 0, .int .i64 0] 40)) (.cells #[.int .i64 0, .int .i64 0, .int .i64 0, .int .i64 0, .int .i64 0, .int .i64 0, .int .i64 0, .int .i64 0] 37)) hsz1 _)⟩
    obtain ⟨wb, stb, RB, UB, BB⟩ : ∃ W, (storeP (.pointer (some ⟨w1.heap.size + 1, 0, none⟩)) (.agg #[.int .i64 uy, .int .i64 umo, .int .i64 ud, .int .i64 uh, .int .i64 umi, .int .i64 us, .int .i64 ums, .int .i64 uo])).run Tryd.prog wa = .ok () W ∧ Hid (Blk W (w1.heap.size) 40 #[.int .i64 y, .int .i64 mo, .int .i64 d, .int .i64 h, .int .i64 mi, .int .i64 s, .int .i64 ms, .int .i64 o, .int .i64 p1, .int .i64 p2, .int .i64 p3, .int .i64 p4, .int .i64 p5, .int .i64 p6, .int .i64 n]) ∧ Hid (Blk W (w1.heap.size + 1) 37 #[.int .i64 uy, .int .i64 umo, .int .i64 ud, .int .i64 uh, .int .i64 umi, .int .i64 us, .int .i64 ums, .int .i64 uo]) ∧ Hid (Below w.heap.size w W) :=
      ⟨_, storeP_sp (UA.out.sp rfl) _ _ _ _ _ _ _ _, hide (RA.out.setRow_far (by omega) _), hide (UA.out.setRow _), hide (brow BA.out (by omega) _)⟩
    obtain ⟨⟨rn, rb⟩, hrr⟩ : ∃ r, rnP ⟨y, mo, d, h, mi, s, ms, o⟩ p1 p2 p3 p4 p5 p6 n ⟨uy, umo, ud, uh, umi, us, ums, uo⟩ = r := ⟨_, rfl⟩
    have hSr : ∀ W, Calls Tryd.prog 10 #[.agg #[.int .i64 y, .int .i64 mo, .int .i64 d, .int .i64 h, .int .i64 mi, .int .i64 s, .int .i64 ms, .int .i64 o, .int .i64 p1, .int .i64 p2, .int .i64 p3, .int .i64 p4, .int .i64 p5, .int .i64 p6, .int .i64 n], .agg #[.int .i64 uy, .int .i64 umo, .int .i64 ud, .int .i64 uh, .int .i64 umi, .int .i64 us, .int .i64 ums, .int .i64 uo]] W fun e w' => e = .returned (.tuple #[.int .i64 rn, .bool rb]) ∧ Below W.heap.size W w' := fun W => by
      have q := spec_rn y mo d h mi s ms o p1 p2 p3 p4 p5 p6 n ⟨uy, umo, ud, uh, umi, us, ums, uo⟩ W
      rw [hrr] at q
      exact q
    have hIr : ∀ W, MD W → Calls Tryd.prog 13 #[.agg #[.int .i64 y, .int .i64 mo, .int .i64 d, .int .i64 h, .int .i64 mi, .int .i64 s, .int .i64 ms, .int .i64 o, .int .i64 p1, .int .i64 p2, .int .i64 p3, .int .i64 p4, .int .i64 p5, .int .i64 p6, .int .i64 n], .agg #[.int .i64 uy, .int .i64 umo, .int .i64 ud, .int .i64 uh, .int .i64 umi, .int .i64 us, .int .i64 ums, .int .i64 uo]] W fun e w' => e = .returned (.tuple #[.int .i64 rn, .bool rb]) ∧ Below W.heap.size W w' := fun W hW => by
      have q := impl_rn y mo d h mi s ms o p1 p2 p3 p4 p5 p6 n ⟨uy, umo, ud, uh, umi, us, ums, uo⟩ W hW
      rw [hrr] at q
      exact q
    have HRR := hide hrr
    have g0 : (rb != rb) = false := by simp
    have g1 : (rb == rb) = true := by simp
    have g2 : (rn != rn) = false := by simp
    have g3 : (rn == rn) = true := by simp
    have hldb := loadR_row RB.out
    obtain ⟨b0, b1, b2, b3, b4, b5, b6, b7⟩ := st8 UB.out
    clear hrr hb1 RA UA BA
    go_wp2_with fail
    refine (hIr _ (hM.below BB.out)).mono ?_
    rintro e w3 ⟨rfl, hb3⟩
    have R3 := hide (RB.out.below hb3 RB.out.lt)
    have U3 := hide (UB.out.below hb3 UB.out.lt)
    have B3 := hide (bto BB.out hb3)
    clear sta stb hldb RB UB BB hb3 hIr b0 b1 b2 b3 b4 b5 b6 b7
    have hld3 := loadR_row R3.out
    obtain ⟨b0, b1, b2, b3, b4, b5, b6, b7⟩ := st8 U3.out
    go_wp2_with fail
    refine (hSr _).mono ?_
    rintro e w4 ⟨rfl, hb4⟩
    have R4 := hide (R3.out.below hb4 R3.out.lt)
    have U4 := hide (U3.out.below hb4 U3.out.lt)
    have B4 := hide (bto B3.out hb4)
    clear hld3 R3 U3 B3 hb4 hSr b0 b1 b2 b3 b4 b5 b6 b7
    have hld4 := loadR_row R4.out
    obtain ⟨b0, b1, b2, b3, b4, b5, b6, b7⟩ := st8 U4.out
    cases rb with
    | false =>
      go_wp2_with fail
      go_ret
      exact ⟨rfl, B4.out⟩
    | true =>
      obtain ⟨huo, hk0, hk99, ⟨⟨y1, y2, y3, y4, y5, y6, y7, y8⟩, hy, hyo, hyi⟩, hprev⟩ := rn_found HRR.out
      have hY : ∀ W, MD W → Calls Tryd.prog 15 #[.agg #[.int .i64 y, .int .i64 mo, .int .i64 d, .int .i64 h, .int .i64 mi, .int .i64 s, .int .i64 ms, .int .i64 o, .int .i64 p1, .int .i64 p2, .int .i64 p3, .int .i64 p4, .int .i64 p5, .int .i64 p6, .int .i64 n], .int .i64 rn] W fun e w' => e = .returned (.tuple #[.agg #[.int .i64 y1, .int .i64 y2, .int .i64 y3, .int .i64 y4, .int .i64 y5, .int .i64 y6, .int .i64 y7, .int .i64 y8], .bool true]) ∧ Below W.heap.size W w' := fun W hW => by
        have q := impl_ra y mo d h mi s ms o p1 p2 p3 p4 p5 p6 n rn W hW
        rw [hy] at q
        exact q
      have hLY : ∀ W, MD W → Calls Tryd.prog 19 #[.agg #[.int .i64 uy, .int .i64 umo, .int .i64 ud, .int .i64 uh, .int .i64 umi, .int .i64 us, .int .i64 ums, .int .i64 uo], .agg #[.int .i64 y1, .int .i64 y2, .int .i64 y3, .int .i64 y4, .int .i64 y5, .int .i64 y6, .int .i64 y7, .int .i64 y8]] W fun e w' => e = .returned (.bool true) ∧ Below W.heap.size W w' := fun W hW => by
        have q := less_any ⟨uy, umo, ud, uh, umi, us, ums, uo⟩ ⟨y1, y2, y3, y4, y5, y6, y7, y8⟩ W hW huo hyo
        rw [decide_eq_true hyi] at q
        exact q
      go_wp2_with fail
      refine (hY _ (hM.below B4.out)).mono ?_
      rintro e w5 ⟨rfl, hb5⟩
      have hl5 := (U4.out.below hb5 U4.out.lt).lt
      have R5 := hide (((R4.out.below hb5 R4.out.lt).alloc (.cells #[.int .i64 0, .int .i64 0, .int .i64 0, .int .i64 0, .int .i64 0, .int .i64 0, .int .i64 0, .int .i64 0] 37)).setRow_far (k := w5.heap.size) (by omega) #[.int .i64 y1, .int .i64 y2, .int .i64 y3, .int .i64 y4, .int .i64 y5, .int .i64 y6, .int .i64 y7, .int .i64 y8])
      have U5 := hide (((U4.out.below hb5 U4.out.lt).alloc (.cells #[.int .i64 0, .int .i64 0, .int .i64 0, .int .i64 0, .int .i64 0, .int .i64 0, .int .i64 0, .int .i64 0] 37)).setRow_far (k := w5.heap.size) (by omega) #[.int .i64 y1, .int .i64 y2, .int .i64 y3, .int .i64 y4, .int .i64 y5, .int .i64 y6, .int .i64 y7, .int .i64 y8])
      have Y5 := hide ((Blk.new w5 37 #[.int .i64 0, .int .i64 0, .int .i64 0, .int .i64 0, .int .i64 0, .int .i64 0, .int .i64 0, .int .i64 0]).setRow #[.int .i64 y1, .int .i64 y2, .int .i64 y3, .int .i64 y4, .int .i64 y5, .int .i64 y6, .int .i64 y7, .int .i64 y8])
      have B5 := hide (brow (bal (bto B4.out hb5) (.cells #[.int .i64 0, .int .i64 0, .int .i64 0, .int .i64 0, .int .i64 0, .int .i64 0, .int .i64 0, .int .i64 0] 37)) (g := w5.heap.size) ((bto B4.out hb5).size) #[.int .i64 y1, .int .i64 y2, .int .i64 y3, .int .i64 y4, .int .i64 y5, .int .i64 y6, .int .i64 y7, .int .i64 y8])
      clear hld4 R4 U4 B4 hb5 hY b0 b1 b2 b3 b4 b5 b6 b7
      have hld5 := loadR_row R5.out
      obtain ⟨b0, b1, b2, b3, b4, b5, b6, b7⟩ := st8 U5.out
      obtain ⟨c0, c1, c2, c3, c4, c5, c6, c7⟩ := st8 Y5.out
      go_wp2_with fail
      have hM5 := hM.below B5.out
      refine (hLY _ hM5).mono ?_
      rintro e w6 ⟨rfl, hb6⟩
      have R6 := hide (R5.out.below hb6 R5.out.lt)
      have U6 := hide (U5.out.below hb6 U5.out.lt)
      have B6 := hide (bto B5.out hb6)
      clear hld5 R5 U5 Y5 B5 hb6 hLY hM5 b0 b1 b2 b3 b4 b5 b6 b7 c0 c1 c2 c3 c4 c5 c6 c7 hyi hy hyo
      have hld6 := loadR_row R6.out
      by_cases hk : rn = 0
      · have hkb : (rn == 0) = true := by rw [hk]; rfl
        obtain ⟨⟨⟨z1, z2, z3, z4, z5, z6, z7, z8⟩, okz⟩, hz⟩ : ∃ r, raP ⟨y, mo, d, h, mi, s, ms, o⟩ p1 p2 p3 p4 p5 p6 n (rn - 1) = r := ⟨_, rfl⟩
        have hZ : ∀ W, MD W → Calls Tryd.prog 15 #[.agg #[.int .i64 y, .int .i64 mo, .int .i64 d, .int .i64 h, .int .i64 mi, .int .i64 s, .int .i64 ms, .int .i64 o, .int .i64 p1, .int .i64 p2, .int .i64 p3, .int .i64 p4, .int .i64 p5, .int .i64 p6, .int .i64 n], .int .i64 (rn - 1)] W fun e w' => e = .returned (.tuple #[.agg #[.int .i64 z1, .int .i64 z2, .int .i64 z3, .int .i64 z4, .int .i64 z5, .int .i64 z6, .int .i64 z7, .int .i64 z8], .bool okz]) ∧ Below W.heap.size W w' := fun W hW => by
          have q := impl_ra y mo d h mi s ms o p1 p2 p3 p4 p5 p6 n (rn - 1) W hW
          rw [hz] at q
          exact q
        clear hz hk HRR hprev
        go_wp2_with fail
        refine (hZ _ (hM.below B6.out)).mono ?_
        rintro e w7 ⟨rfl, hb7⟩
        have B7 := hide (brow (bal (bto B6.out hb7) (.cells #[.int .i64 0, .int .i64 0, .int .i64 0, .int .i64 0, .int .i64 0, .int .i64 0, .int .i64 0, .int .i64 0] 37)) (g := w7.heap.size) ((bto B6.out hb7).size) #[.int .i64 z1, .int .i64 z2, .int .i64 z3, .int .i64 z4, .int .i64 z5, .int .i64 z6, .int .i64 z7, .int .i64 z8])
        clear hld6 R6 U6 B6 hb7 hZ
        go_wp2_with fail
        go_ret
        exact ⟨rfl, B7.out⟩
      · have hkb : (rn == 0) = false := beq_eq_false_iff_ne.2 hk
        obtain ⟨⟨z1, z2, z3, z4, z5, z6, z7, z8⟩, hz, hzo, hzi⟩ := hprev hk
        have hZ : ∀ W, MD W → Calls Tryd.prog 15 #[.agg #[.int .i64 y, .int .i64 mo, .int .i64 d, .int .i64 h, .int .i64 mi, .int .i64 s, .int .i64 ms, .int .i64 o, .int .i64 p1, .int .i64 p2, .int .i64 p3, .int .i64 p4, .int .i64 p5, .int .i64 p6, .int .i64 n], .int .i64 (rn - 1)] W fun e w' => e = .returned (.tuple #[.agg #[.int .i64 z1, .int .i64 z2, .int .i64 z3, .int .i64 z4, .int .i64 z5, .int .i64 z6, .int .i64 z7, .int .i64 z8], .bool true]) ∧ Below W.heap.size W w' := fun W hW => by
          have q := impl_ra y mo d h mi s ms o p1 p2 p3 p4 p5 p6 n (rn - 1) W hW
          rw [hz] at q
          exact q
        have hLZ : ∀ W, MD W → Calls Tryd.prog 19 #[.agg #[.int .i64 uy, .int .i64 umo, .int .i64 ud, .int .i64 uh, .int .i64 umi, .int .i64 us, .int .i64 ums, .int .i64 uo], .agg #[.int .i64 z1, .int .i64 z2, .int .i64 z3, .int .i64 z4, .int .i64 z5, .int .i64 z6, .int .i64 z7, .int .i64 z8]] W fun e w' => e = .returned (.bool false) ∧ Below W.heap.size W w' := fun W hW => by
          have q := less_any ⟨uy, umo, ud, uh, umi, us, ums, uo⟩ ⟨z1, z2, z3, z4, z5, z6, z7, z8⟩ W hW huo hzo
          rw [decide_eq_false (Int.not_lt.2 hzi)] at q
          exact q
        clear hz hzo hzi hprev HRR
        go_wp2_with fail
        refine (hZ _ (hM.below B6.out)).mono ?_
        obtain ⟨b0, b1, b2, b3, b4, b5, b6, b7⟩ := st8 U6.out
        rintro e w7 ⟨rfl, hb7⟩
        have hl7 := (U6.out.below hb7 U6.out.lt).lt
        have R7 := hide (((R6.out.below hb7 R6.out.lt).alloc (.cells #[.int .i64 0, .int .i64 0, .int .i64 0, .int .i64 0, .int .i64 0, .int .i64 0, .int .i64 0, .int .i64 0] 37)).setRow_far (k := w7.heap.size) (by omega) #[.int .i64 z1, .int .i64 z2, .int .i64 z3, .int .i64 z4, .int .i64 z5, .int .i64 z6, .int .i64 z7, .int .i64 z8])
        have U7 := hide (((U6.out.below hb7 U6.out.lt).alloc (.cells #[.int .i64 0, .int .i64 0, .int .i64 0, .int .i64 0, .int .i64 0, .int .i64 0, .int .i64 0, .int .i64 0] 37)).setRow_far (k := w7.heap.size) (by omega) #[.int .i64 z1, .int .i64 z2, .int .i64 z3, .int .i64 z4, .int .i64 z5, .int .i64 z6, .int .i64 z7, .int .i64 z8])
        have Y7 := hide ((Blk.new w7 37 #[.int .i64 0, .int .i64 0, .int .i64 0, .int .i64 0, .int .i64 0, .int .i64 0, .int .i64 0, .int .i64 0]).setRow #[.int .i64 z1, .int .i64 z2, .int .i64 z3, .int .i64 z4, .int .i64 z5, .int .i64 z6, .int .i64 z7, .int .i64 z8])
        have B7 := hide (brow (bal (bto B6.out hb7) (.cells #[.int .i64 0, .int .i64 0, .int .i64 0, .int .i64 0, .int .i64 0, .int .i64 0, .int .i64 0, .int .i64 0] 37)) (g := w7.heap.size) ((bto B6.out hb7).size) #[.int .i64 z1, .int .i64 z2, .int .i64 z3, .int .i64 z4, .int .i64 z5, .int .i64 z6, .int .i64 z7, .int .i64 z8])
        clear hld6 R6 U6 B6 hb7 hZ b0 b1 b2 b3 b4 b5 b6 b7
        obtain ⟨b0, b1, b2, b3, b4, b5, b6, b7⟩ := st8 U7.out
        obtain ⟨c0, c1, c2, c3, c4, c5, c6, c7⟩ := st8 Y7.out
        have hM7 := hM.below B7.out
        go_wp2_with fail
        refine (hLZ _ hM7).mono ?_
        rintro e w8 ⟨rfl, hb8⟩
        go_wp2_with fail
        go_ret
        exact ⟨rfl, bto B7.out hb8⟩
end
end Go.Proofs.YtaagomchjklgaaaDoor
