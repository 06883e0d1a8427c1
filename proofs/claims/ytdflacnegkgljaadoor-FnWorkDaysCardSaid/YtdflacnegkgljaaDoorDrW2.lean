/- Draws: two dates and holidays. -/
import Derived.Test.YtdflacnegkgljaaDoorDrW
namespace Go.Proofs.YtdflacnegkgljaaDoor
open Go.RowKit

/-- What stands while DrawWorkDays draws: the first date's box, two results' boxes, the reader. -/
structure Hv (w0 w : World) (B g m ab : Nat) (y mo d : Int) : Prop where
  X : Blk w ab 25 #[.int .i64 y, .int .i64 mo, .int .i64 d]
  R1 : Blk w w0.heap.size 25 #[.int .i64 0, .int .i64 0, .int .i64 0]
  R2 : Blk w (w0.heap.size + 1) 25 #[.int .i64 0, .int .i64 0, .int .i64 0]
  T : Rd B w g m
  Bl : Below w0.heap.size w0 w
  h2 : w0.heap.size + 1 < g
  h3 : g < ab
section
variable {w0 w w' : World} {B g m ab : Nat} {y mo d : Int}
theorem Hv.drew (h : Hv w0 w B g m ab y mo d) : Hv w0 w.drew B g m ab y mo d := ⟨h.X, h.R1, h.R2, h.T, bdrew h.Bl, h.h2, h.h3⟩
theorem Hv.alloc (h : Hv w0 w B g m ab y mo d) (o : Obj) : Hv w0 (w.alloc o) B g m ab y mo d := ⟨h.X.alloc o, h.R1.alloc o, h.R2.alloc o, h.T.alloc o, bal h.Bl o, h.h2, h.h3⟩
theorem Hv.below (h : Hv w0 w B g m ab y mo d) (hb : Below w.heap.size w w') : Hv w0 w' B g m ab y mo d :=
  ⟨h.X.below hb h.X.lt, h.R1.below hb h.R1.lt, h.R2.below hb h.R2.lt, h.T.below hb h.T.lt, bto h.Bl hb, h.h2, h.h3⟩
theorem Hv.step (h : Hv w0 w B g m ab y mo d) {m' : Nat} (hr : Rd B w' g m') (hg : w.grownBy w' (some g)) : Hv w0 w' B g m' ab y mo d :=
  have a2 := h.h2
  have a3 := h.h3
  ⟨h.X.grown' hg (by omega), h.R1.grown' hg (by omega), h.R2.grown' hg (by omega), hr, bonly h.Bl hg (by omega), a2, a3⟩
theorem Hv.set3 (h : Hv w0 w B g m ab y mo d) {k : Nat} (hk : ab < k) (u0 u1 u2 : Value) : Hv w0 (((w.setCell ⟨k, 0, none⟩ u0).setCell ⟨k, 1, none⟩ u1).setCell ⟨k, 2, none⟩ u2) B g m ab y mo d :=
  have a2 := h.h2
  have a3 := h.h3
  ⟨h.X.far3 (by omega) _ _ _, h.R1.far3 (by omega) _ _ _, h.R2.far3 (by omega) _ _ _, ((h.T.setCell (a := ⟨k, 0, none⟩) (show g < k by omega) _).setCell (a := ⟨k, 1, none⟩) (show g < k by omega) _).setCell (a := ⟨k, 2, none⟩) (show g < k by omega) _, bset (bset (bset h.Bl (p := ⟨k, 0, none⟩) (show w0.heap.size ≤ k by omega) _) (p := ⟨k, 1, none⟩) (show w0.heap.size ≤ k by omega) _) (p := ⟨k, 2, none⟩) (show w0.heap.size ≤ k by omega) _, a2, a3⟩
theorem Hv.more (h : Hv w0 w B g m ab y mo d) {m' : Nat} (hm : m ≤ m') : Hv w0 w B g m' ab y mo d := ⟨h.X, h.R1, h.R2, h.T.more hm, h.Bl, h.h2, h.h3⟩
theorem Hv.pickC (h : Hv w0 w B g m ab y mo d) {n : Int} (hm : m ≤ 60000) (hn : 1 ≤ n) :
    Calls Tryd.prog 36 #[.pointer (some ⟨g, 0, none⟩), .int .i64 n] w fun e w' => ∃ v : Int, 0 ≤ v ∧ v < n ∧ e = .returned (.int .i64 v) ∧ Hv w0 w' B g (m + 1) ab y mo d ∧ w.grownBy w' (some g) :=
  (pick_any h.T (by omega) (by omega)).mono fun _ _ ⟨v, a, b, e', hr, hg⟩ => ⟨v, a, b, e', h.step hr hg, hg⟩
theorem Hv.holC (h : Hv w0 w B g m ab y mo d) (hm : m ≤ 50000) :
    Calls Tryd.prog 58 #[.pointer (some ⟨g, 0, none⟩), .agg #[.int .i64 y, .int .i64 mo, .int .i64 d]] w fun e w' => ∃ (b cap : Nat) (l : List D3), e = .returned (.slice (some ⟨b, 0, none⟩) l.length cap) ∧ w'.ownsRow w.heap.size 25 3 (.slice (some ⟨b, 0, none⟩) l.length cap) l.length (flatD l) ∧ l.length ≤ 6 ∧ Hv w0 w' B g (m + 7) ab y mo d ∧ w.grownBy w' (some g) :=
  (l92Holidays_any y mo d h.T hm).mono fun _ _ ⟨b, cap, l, e', ho, hl, hr, hg⟩ => ⟨b, cap, l, e', ho, hl, h.step hr hg, hg⟩
theorem Hv.cs (h : Hv w0 w B g m ab y mo d) : w.cell? ⟨ab, 0, none⟩ = some (.int .i64 y) ∧ w.cell? ⟨ab, 1, none⟩ = some (.int .i64 mo) ∧ w.cell? ⟨ab, 2, none⟩ = some (.int .i64 d) := ⟨h.X.cell 0, h.X.cell 1, h.X.cell 2⟩
end
theorem Blk.cs3 {w : World} {k : Nat} {t : TypeId} {v0 v1 v2 : Value} (h : Blk w k t #[v0, v1, v2]) : w.cell? ⟨k, 0, none⟩ = some v0 ∧ w.cell? ⟨k, 1, none⟩ = some v1 ∧ w.cell? ⟨k, 2, none⟩ = some v2 := ⟨h.cell 0, h.cell 1, h.cell 2⟩
theorem Blk.fs3 {w : World} {k : Nat} {t : TypeId} {v0 v1 v2 : Value} (h : Blk w k t #[v0, v1, v2]) : w.frozen? ⟨k, 0, none⟩ = false ∧ w.frozen? ⟨k, 1, none⟩ = false ∧ w.frozen? ⟨k, 2, none⟩ = false := ⟨h.frozen 0, h.frozen 1, h.frozen 2⟩
/-- Drawn: two dates, holidays. -/
def DrawnWD (w : World) (e : Ending) (w' : World) : Prop :=
  ∃ (ya ma da yb mb db : Int) (b cap : Nat) (l : List D3), e = .returned (.tuple #[.agg #[.int .i64 ya, .int .i64 ma, .int .i64 da], .agg #[.int .i64 yb, .int .i64 mb, .int .i64 db], .slice (some ⟨b, 0, none⟩) l.length cap]) ∧ w'.ownsRow w.heap.size 25 3 (.slice (some ⟨b, 0, none⟩) l.length cap) l.length (flatD l) ∧ l.length ≤ 6 ∧ Below w.heap.size w w'
theorem v19 (v u : Int) (h0 : 0 ≤ v) (h1 : v < 20) (k0 : 0 ≤ u) (k1 : u < 60) : IntKind.i64.wrap (v.tdiv 19) = v / 19 ∧ IntKind.i64.wrap (v / 19 * 62) = v / 19 * 62 ∧ IntKind.i64.wrap (u - v / 19 * 62) = u - v / 19 * 62 ∧ -100 ≤ u - v / 19 * 62 ∧ u - v / 19 * 62 ≤ 100 := by
  have e : v.tdiv 19 = v / 19 := Int.tdiv_eq_ediv_of_nonneg h0
  rw [e]
  exact ⟨IntWalk.i64_in _ (by omega), IntWalk.i64_in _ (by omega), IntWalk.i64_in _ (by omega), by omega, by omega⟩

set_option maxHeartbeats 4000000 in
theorem drawWD {B len cap : Nat} {A : Option Addr} {w : World} (hs : Src B w A len) (hB : B ≤ w.heap.size) (hc : len ≤ cap) (hm : cap ≤ maxLen) :
    Calls Tryd.prog 31 #[.slice A len cap] w (DrawnWD w) := by
  have R1 := (Blk.new w 25 #[.int .i64 0, .int .i64 0, .int .i64 0]).alloc (.cells #[.int .i64 0, .int .i64 0, .int .i64 0] 25)
  have R2 := Blk.newE (W := w.alloc (.cells #[.int .i64 0, .int .i64 0, .int .i64 0] 25)) (g := w.heap.size + 1) (t := 25) (cs := #[.int .i64 0, .int .i64 0, .int .i64 0]) (by simp)
  have hDP : ∀ (k : Int) W, -100 ≤ k → k ≤ 100 → ∀ (y mo d : Int), Calls Tryd.prog 56 #[.agg #[.int .i64 y, .int .i64 mo, .int .i64 d], .int .i64 k] W (SomeDB W) := fun k W h1 h2 y mo d => spec_dp_any y mo d k W h1 h2
  go_enter Tryd.func31, Tryd.ntmps31
  go_wp2_with fail
  refine (l6Open_any ((hs.keep fun p hp => World.cell?_alloc_lt w _ p (by omega)).keep fun p hp => World.cell?_alloc_lt _ _ p (by simp; omega)) (by simp; omega) hc hm).mono ?_
  rintro e w1 ⟨g, rfl, hg, hr1, hb1⟩
  have hg' : w.heap.size + 1 < g := Nat.lt_of_lt_of_le R2.lt hg
  have Q1 := hide (R1.below hb1 R1.lt)
  have Q2 := hide (R2.below hb1 R2.lt)
  have B1 := hide (bto (bal (bal (Below.refl w.heap.size w) (.cells #[.int .i64 0, .int .i64 0, .int .i64 0] 25)) (.cells #[.int .i64 0, .int .i64 0, .int .i64 0] 25)) hb1)
  clear R1 R2 hb1
  go_wp2_with fail
  refine (l91Good_any hr1 (by omega)).mono ?_
  rintro e w2 ⟨y, mo, d, _, rfl, hr2, hg2⟩
  have hgl2 := hr2.lt
  have H2 : Hv w (w2.alloc (.cells #[.int .i64 y, .int .i64 mo, .int .i64 d] 25)) B g (0 + 9) w2.heap.size y mo d :=
    ⟨Blk.new _ _ _, (Q1.out.grown' hg2 (by omega)).alloc _, (Q2.out.grown' hg2 (by omega)).alloc _, hr2.alloc _, bal (bonly B1.out hg2 (by omega)) _, hg', hgl2⟩
  obtain ⟨w3, hw3⟩ : ∃ W, W = w2.alloc (.cells #[.int .i64 y, .int .i64 mo, .int .i64 d] 25) := ⟨_, rfl⟩
  obtain ⟨ab, hab⟩ : ∃ b, b = w2.heap.size := ⟨_, rfl⟩
  have H3 : Hv w w3 B g 9 ab y mo d := by rw [hw3, hab]; exact H2
  have HW3 := hide hw3
  have HAB := hide hab
  clear Q1 Q2 B1 hr1 hr2 hg2 hw3 hab H2 hs hc hm hB hg hgl2
  replace hDP := fun (k : Int) W h1 h2 => hDP k W h1 h2 y mo d
  go_upto_region 3 with fail
  rw [← HW3.out, ← HAB.out]
  have H4 := H3.drew
  have hl3 := H3.X.lt
  have a2 := H3.h2
  have a3 := H3.h3
  go_cut [7, 8] from 13 to 24 (fun t7 t8 wx => ∃ (dB : Nat) (x1 x2 x3 : Int) (ok : Bool), t7 = .pointer (some ⟨dB, 0, none⟩) ∧ t8 = .bool ok ∧ Hid (Blk wx dB 25 #[.int .i64 x1, .int .i64 x2, .int .i64 x3]) ∧ Hid (Hv w wx B g 11 ab y mo d) ∧ ab < dB)
  case first =>
    go_region_held3 (fun w' => w'.cell? ⟨ab, 0, none⟩ = some (.int .i64 y) ∧ w'.cell? ⟨ab, 1, none⟩ = some (.int .i64 mo) ∧ w'.cell? ⟨ab, 2, none⟩ = some (.int .i64 d)) (first | (with_reducible exact H4.cs) | (with_reducible exact H5.cs) | (with_reducible exact H6.cs) | (with_reducible exact H7.cs) | (with_reducible exact (H5.alloc _).cs) | (with_reducible exact (H6.alloc _).cs) | (with_reducible exact (H7.alloc _).cs) | (with_reducible exact (H3.alloc _).drew.cs) | (with_reducible exact Hv.cs (Hv.set3 H7 (by omega) _ _ _)) | (with_reducible exact Hv.cs (Hv.set3 (Hv.alloc H7 _) (by simp; omega) _ _ _))) (first | (go_at_call 36; (first | (have zz := H5; (first | ((with_reducible refine (H5.pickC (by omega) (by omega)).mono ?_); rintro e w6 ⟨v6, a6, b6, rfl, H6, hg6⟩; (first | have D6 := hide (D5.out.grown' hg6 (by omega)) | have D6 := True.intro)) | ((with_reducible refine ((H5.alloc (.cells #[.int .i64 0, .int .i64 0, .int .i64 0] 25)).pickC (by omega) (by omega)).mono ?_); rintro e w6 ⟨v6, a6, b6, rfl, H6, hg6⟩; have D6 := hide ((Blk.newE (W := w5) (g := w5.heap.size) (t := 25) (cs := #[.int .i64 0, .int .i64 0, .int .i64 0]) (by simp)).grown' hg6 (by omega)))); obtain ⟨q1, q2, q3, q4, q5⟩ := v19 v6 v5 a6 b6 a5 b5; have hl6 := H6.X.lt) | ((first | ((with_reducible refine (H4.pickC (by omega) (by omega)).mono ?_); rintro e w5 ⟨v5, a5, b5, rfl, H5, hg5⟩; have D5 := True.intro) | ((with_reducible refine ((H3.alloc (.cells #[.int .i64 0, .int .i64 0, .int .i64 0] 25)).drew.pickC (by omega) (by omega)).mono ?_); rintro e w5 ⟨v5, a5, b5, rfl, H5, hg5⟩; have D5 := hide ((Blk.drew (Blk.newE (W := w3) (g := w3.heap.size) (t := 25) (cs := #[.int .i64 0, .int .i64 0, .int .i64 0]) (by simp))).grown' hg5 (by omega)))); have hl5 := H5.X.lt))) | (go_at_call 56; (first | ((with_reducible refine (hDP (v5 - v6 / 19 * 62) w6 q4 q5).mono ?_); rintro e w7 ⟨x1, x2, x3, ok, rfl, hb7⟩; have H7 := H6.below hb7; (first | have D7 := hide (D6.out.below hb7 D6.out.lt) | have D7 := True.intro)) | ((with_reducible refine (hDP (v5 - v6 / 19 * 62) (w6.alloc (.cells #[.int .i64 0, .int .i64 0, .int .i64 0] 25)) q4 q5).mono ?_); rintro e w7 ⟨x1, x2, x3, ok, rfl, hb7⟩; have H7 := (H6.alloc (.cells #[.int .i64 0, .int .i64 0, .int .i64 0] 25)).below hb7; have D7 := hide ((Blk.newE (W := w6) (g := w6.heap.size) (t := 25) (cs := #[.int .i64 0, .int .i64 0, .int .i64 0]) (by simp)).below hb7 (by simp)))); have hl7 := H7.X.lt; (first | (obtain ⟨e0, e1, e2⟩ := D7.out.cs3; obtain ⟨g0, g1, g2⟩ := D7.out.fs3) | skip)))
    all_goals
      rename_i hS
      clear hS hDP
      go_wp2_with fail
      go_meet
      first
      | exact ⟨w3.heap.size, x1, x2, x3, ok, rfl, rfl, hide (D7.out.set3 _ _ _), hide (H7.set3 (by omega) _ _ _), by omega⟩
      | exact ⟨w5.heap.size, x1, x2, x3, ok, rfl, rfl, hide (D7.out.set3 _ _ _), hide (H7.set3 (by omega) _ _ _), by omega⟩
      | exact ⟨w6.heap.size, x1, x2, x3, ok, rfl, rfl, hide (D7.out.set3 _ _ _), hide (H7.set3 (by omega) _ _ _), by omega⟩
      | exact ⟨w7.heap.size, x1, x2, x3, ok, rfl, rfl, hide (Blk.new w7 25 #[.int .i64 x1, .int .i64 x2, .int .i64 x3]), hide (H7.alloc _), by omega⟩
  case rest =>
    clear H3 H4 hDP HW3 HAB hl3
    obtain ⟨dB, x1, x2, x3, ok, rfl, rfl, D7, H7, hab⟩ := hcut
    cases ok with
    | true =>
      go_wp2_with fail
      refine (H7.out.pickC (by omega) (by omega)).mono ?_
      rintro e w5 ⟨v5, a5, b5, rfl, H5, hg5⟩
      have h3 := H7.out.h3
      have D5 := hide (D7.out.grown' hg5 (by omega))
      clear D7 H7 hg5
      by_cases h0 : v5 = 0
      · subst h0
        have H8 := hide H5
        have D8 := hide D5.out
        have h2 := H8.out.h2
        obtain ⟨f0, f1, f2⟩ := D8.out.fs3
        clear H5 D5
        go_wp2_with fail
        refine (l91Date_any H8.out.T (by omega)).mono ?_
        rintro e wd ⟨z1, z2, z3, rfl, hrd, hgd⟩
        have HD := H8.out.step hrd hgd
        have DD := D8.out.grown' hgd (by omega)
        obtain ⟨f0, f1, f2⟩ := DD.fs3
        obtain ⟨c0, c1, c2⟩ := DD.cs3
        obtain ⟨W, hW⟩ : ∃ W, W = ((wd.setCell ⟨dB, 0, none⟩ (.int .i64 z1)).setCell ⟨dB, 1, none⟩ (.int .i64 z2)).setCell ⟨dB, 2, none⟩ (.int .i64 z3) := ⟨_, rfl⟩
        have HW : Hv w W B g 30 ab y mo d := by rw [hW]; exact (HD.set3 hab _ _ _).more (by omega)
        have DW : Blk W dB 25 #[.int .i64 z1, .int .i64 z2, .int .i64 z3] := by rw [hW]; exact DD.set3 _ _ _
        have KW := hide hW
        have H8 := hide HW
        have D8 := hide DW
        have ldd := DD.lt
        clear HD DD hrd hgd hW HW DW
        go_upto_region 6 with fail
        rw [← KW.out]
        clear KW ldd f0 f1 f2 c0 c1 c2
        have H9 := H8.out.drew
        have D9 := D8.out.drew
        have h2 := H9.h2
        have h3 := H9.h3
        have lw := H9.X.lt
        obtain ⟨c0, c1, c2⟩ := D9.cs3
        obtain ⟨y0, y1, y2⟩ := H9.cs
        clear c0 c1 c2 y0 y1 y2
        go_region_held3 (fun w' => (w'.cell? ⟨ab, 0, none⟩ = some (.int .i64 y) ∧ w'.cell? ⟨ab, 1, none⟩ = some (.int .i64 mo) ∧ w'.cell? ⟨ab, 2, none⟩ = some (.int .i64 d)) ∧ w'.cell? ⟨dB, 0, none⟩ = some (.int .i64 z1) ∧ w'.cell? ⟨dB, 1, none⟩ = some (.int .i64 z2) ∧ w'.cell? ⟨dB, 2, none⟩ = some (.int .i64 z3)) (first | (with_reducible exact ⟨H9.cs, D9.cs3⟩) | (with_reducible exact ⟨H6.cs, D6.cs3⟩) | (with_reducible exact ⟨(H6.X.far3 (by omega) _ _ _).cs3, (D6.far3 (by omega) _ _ _).cs3⟩) | (with_reducible exact ⟨((H6.X.far3 (by omega) _ _ _).far3 (by omega) _ _ _).cs3, ((D6.far3 (by omega) _ _ _).far3 (by omega) _ _ _).cs3⟩)) ((go_at_call 58; (with_reducible refine (H9.holC (by omega)).mono ?_); rintro e w6 ⟨b6, cap6, l6, rfl, HO, hl6, H6, hg6⟩; have D6 := D9.grown' hg6 (by omega); have lx := H6.X.lt; have lr := H6.R2.lt; have ld := D6.lt; obtain ⟨r0, r1, r2⟩ := H6.R1.fs3; obtain ⟨t0, t1, t2⟩ := H6.R2.fs3; obtain ⟨rr0, rr1, rr2⟩ := H6.R1.cs3; obtain ⟨tt0, tt1, tt2⟩ := H6.R2.cs3))
        all_goals
          rename_i hS
          clear hS
          have Q1 := ((H6.R1.set3 (.int .i64 y) (.int .i64 mo) (.int .i64 d)).far3 (k := w.heap.size + 1) (by omega) (.int .i64 z1) (.int .i64 z2) (.int .i64 z3)).cs3
          have Q2 := ((H6.R2.far3 (k := w.heap.size) (by omega) (.int .i64 y) (.int .i64 mo) (.int .i64 d)).set3 (.int .i64 z1) (.int .i64 z2) (.int .i64 z3)).cs3
          obtain ⟨q0, q1, q2⟩ := Q1
          obtain ⟨s0, s1, s2⟩ := Q2
          go_wp2_with fail
          refine bodyPost_ret (by simp [results, Tryd.results31, go_sem, q0, q1, q2, s0, s1, s2]; try rfl) rfl ?_
          exact ⟨y, mo, d, z1, z2, z3, b6, cap6, l6, rfl, own_moreD (own_set3D (own_set3D HO (by omega) _ _ _) (by omega) _ _ _) (by omega), hl6, bset (bset (bset (bset (bset (bset H6.Bl (p := ⟨w.heap.size, 0, none⟩) (Nat.le_refl _) _) (p := ⟨w.heap.size, 1, none⟩) (Nat.le_refl _) _) (p := ⟨w.heap.size, 2, none⟩) (Nat.le_refl _) _) (p := ⟨w.heap.size + 1, 0, none⟩) (Nat.le_succ _) _) (p := ⟨w.heap.size + 1, 1, none⟩) (Nat.le_succ _) _) (p := ⟨w.heap.size + 1, 2, none⟩) (Nat.le_succ _) _⟩
      · have g0 : (v5 == 0) = false := by simpa using h0
        have H8 := hide (H5.more (show 11 + 1 ≤ 30 by omega))
        have D8 := hide D5.out
        clear H5 D5 h3 h0 a5 b5
        generalize x1 = z1 at *
        generalize x2 = z2 at *
        generalize x3 = z3 at *
        obtain ⟨w8, hw8⟩ : ∃ W, W = w5 := ⟨_, rfl⟩
        rw [← hw8] at H8 D8 ⊢
        clear hw8
        have H9 := H8.out.drew
        have D9 := D8.out.drew
        have h2 := H9.h2
        have h3 := H9.h3
        have lw := H9.X.lt
        obtain ⟨c0, c1, c2⟩ := D9.cs3
        obtain ⟨y0, y1, y2⟩ := H9.cs
        go_upto_region 6 with fail
        clear c0 c1 c2 y0 y1 y2
        go_region_held3 (fun w' => (w'.cell? ⟨ab, 0, none⟩ = some (.int .i64 y) ∧ w'.cell? ⟨ab, 1, none⟩ = some (.int .i64 mo) ∧ w'.cell? ⟨ab, 2, none⟩ = some (.int .i64 d)) ∧ w'.cell? ⟨dB, 0, none⟩ = some (.int .i64 z1) ∧ w'.cell? ⟨dB, 1, none⟩ = some (.int .i64 z2) ∧ w'.cell? ⟨dB, 2, none⟩ = some (.int .i64 z3)) (first | (with_reducible exact ⟨H9.cs, D9.cs3⟩) | (with_reducible exact ⟨H6.cs, D6.cs3⟩) | (with_reducible exact ⟨(H6.X.far3 (by omega) _ _ _).cs3, (D6.far3 (by omega) _ _ _).cs3⟩) | (with_reducible exact ⟨((H6.X.far3 (by omega) _ _ _).far3 (by omega) _ _ _).cs3, ((D6.far3 (by omega) _ _ _).far3 (by omega) _ _ _).cs3⟩)) ((go_at_call 58; (with_reducible refine (H9.holC (by omega)).mono ?_); rintro e w6 ⟨b6, cap6, l6, rfl, HO, hl6, H6, hg6⟩; have D6 := D9.grown' hg6 (by omega); have lx := H6.X.lt; have lr := H6.R2.lt; have ld := D6.lt; obtain ⟨r0, r1, r2⟩ := H6.R1.fs3; obtain ⟨t0, t1, t2⟩ := H6.R2.fs3; obtain ⟨rr0, rr1, rr2⟩ := H6.R1.cs3; obtain ⟨tt0, tt1, tt2⟩ := H6.R2.cs3))
        all_goals
          rename_i hS
          clear hS
          have Q1 := ((H6.R1.set3 (.int .i64 y) (.int .i64 mo) (.int .i64 d)).far3 (k := w.heap.size + 1) (by omega) (.int .i64 z1) (.int .i64 z2) (.int .i64 z3)).cs3
          have Q2 := ((H6.R2.far3 (k := w.heap.size) (by omega) (.int .i64 y) (.int .i64 mo) (.int .i64 d)).set3 (.int .i64 z1) (.int .i64 z2) (.int .i64 z3)).cs3
          obtain ⟨q0, q1, q2⟩ := Q1
          obtain ⟨s0, s1, s2⟩ := Q2
          go_wp2_with fail
          refine bodyPost_ret (by simp [results, Tryd.results31, go_sem, q0, q1, q2, s0, s1, s2]; try rfl) rfl ?_
          exact ⟨y, mo, d, z1, z2, z3, b6, cap6, l6, rfl, own_moreD (own_set3D (own_set3D HO (by omega) _ _ _) (by omega) _ _ _) (by omega), hl6, bset (bset (bset (bset (bset (bset H6.Bl (p := ⟨w.heap.size, 0, none⟩) (Nat.le_refl _) _) (p := ⟨w.heap.size, 1, none⟩) (Nat.le_refl _) _) (p := ⟨w.heap.size, 2, none⟩) (Nat.le_refl _) _) (p := ⟨w.heap.size + 1, 0, none⟩) (Nat.le_succ _) _) (p := ⟨w.heap.size + 1, 1, none⟩) (Nat.le_succ _) _) (p := ⟨w.heap.size + 1, 2, none⟩) (Nat.le_succ _) _⟩
    | false =>
      have H8 := hide (H7.out)
      have D8 := hide D7.out
      have h3 := H8.out.h3
      have h2 := H8.out.h2
      obtain ⟨f0, f1, f2⟩ := D8.out.fs3
      clear H7 D7
      go_wp2_with fail
      refine (l91Date_any H8.out.T (by omega)).mono ?_
      rintro e wd ⟨z1, z2, z3, rfl, hrd, hgd⟩
      have HD := H8.out.step hrd hgd
      have DD := D8.out.grown' hgd (by omega)
      obtain ⟨f0, f1, f2⟩ := DD.fs3
      obtain ⟨c0, c1, c2⟩ := DD.cs3
      obtain ⟨W, hW⟩ : ∃ W, W = ((wd.setCell ⟨dB, 0, none⟩ (.int .i64 z1)).setCell ⟨dB, 1, none⟩ (.int .i64 z2)).setCell ⟨dB, 2, none⟩ (.int .i64 z3) := ⟨_, rfl⟩
      have HW : Hv w W B g 30 ab y mo d := by rw [hW]; exact (HD.set3 hab _ _ _).more (by omega)
      have DW : Blk W dB 25 #[.int .i64 z1, .int .i64 z2, .int .i64 z3] := by rw [hW]; exact DD.set3 _ _ _
      have KW := hide hW
      have H8 := hide HW
      have D8 := hide DW
      have ldd := DD.lt
      clear HD DD hrd hgd hW HW DW
      go_upto_region 6 with fail
      rw [← KW.out]
      clear KW ldd f0 f1 f2 c0 c1 c2
      have H9 := H8.out.drew
      have D9 := D8.out.drew
      have h2 := H9.h2
      have h3 := H9.h3
      have lw := H9.X.lt
      obtain ⟨c0, c1, c2⟩ := D9.cs3
      obtain ⟨y0, y1, y2⟩ := H9.cs
      clear c0 c1 c2 y0 y1 y2
      go_region_held3 (fun w' => (w'.cell? ⟨ab, 0, none⟩ = some (.int .i64 y) ∧ w'.cell? ⟨ab, 1, none⟩ = some (.int .i64 mo) ∧ w'.cell? ⟨ab, 2, none⟩ = some (.int .i64 d)) ∧ w'.cell? ⟨dB, 0, none⟩ = some (.int .i64 z1) ∧ w'.cell? ⟨dB, 1, none⟩ = some (.int .i64 z2) ∧ w'.cell? ⟨dB, 2, none⟩ = some (.int .i64 z3)) (first | (with_reducible exact ⟨H9.cs, D9.cs3⟩) | (with_reducible exact ⟨H6.cs, D6.cs3⟩) | (with_reducible exact ⟨(H6.X.far3 (by omega) _ _ _).cs3, (D6.far3 (by omega) _ _ _).cs3⟩) | (with_reducible exact ⟨((H6.X.far3 (by omega) _ _ _).far3 (by omega) _ _ _).cs3, ((D6.far3 (by omega) _ _ _).far3 (by omega) _ _ _).cs3⟩)) ((go_at_call 58; (with_reducible refine (H9.holC (by omega)).mono ?_); rintro e w6 ⟨b6, cap6, l6, rfl, HO, hl6, H6, hg6⟩; have D6 := D9.grown' hg6 (by omega); have lx := H6.X.lt; have lr := H6.R2.lt; have ld := D6.lt; obtain ⟨r0, r1, r2⟩ := H6.R1.fs3; obtain ⟨t0, t1, t2⟩ := H6.R2.fs3; obtain ⟨rr0, rr1, rr2⟩ := H6.R1.cs3; obtain ⟨tt0, tt1, tt2⟩ := H6.R2.cs3))
      all_goals
        rename_i hS
        clear hS
        have Q1 := ((H6.R1.set3 (.int .i64 y) (.int .i64 mo) (.int .i64 d)).far3 (k := w.heap.size + 1) (by omega) (.int .i64 z1) (.int .i64 z2) (.int .i64 z3)).cs3
        have Q2 := ((H6.R2.far3 (k := w.heap.size) (by omega) (.int .i64 y) (.int .i64 mo) (.int .i64 d)).set3 (.int .i64 z1) (.int .i64 z2) (.int .i64 z3)).cs3
        obtain ⟨q0, q1, q2⟩ := Q1
        obtain ⟨s0, s1, s2⟩ := Q2
        go_wp2_with fail
        refine bodyPost_ret (by simp [results, Tryd.results31, go_sem, q0, q1, q2, s0, s1, s2]; try rfl) rfl ?_
        exact ⟨y, mo, d, z1, z2, z3, b6, cap6, l6, rfl, own_moreD (own_set3D (own_set3D HO (by omega) _ _ _) (by omega) _ _ _) (by omega), hl6, bset (bset (bset (bset (bset (bset H6.Bl (p := ⟨w.heap.size, 0, none⟩) (Nat.le_refl _) _) (p := ⟨w.heap.size, 1, none⟩) (Nat.le_refl _) _) (p := ⟨w.heap.size, 2, none⟩) (Nat.le_refl _) _) (p := ⟨w.heap.size + 1, 0, none⟩) (Nat.le_succ _) _) (p := ⟨w.heap.size + 1, 1, none⟩) (Nat.le_succ _) _) (p := ⟨w.heap.size + 1, 2, none⟩) (Nat.le_succ _) _⟩
end Go.Proofs.YtdflacnegkgljaaDoor
