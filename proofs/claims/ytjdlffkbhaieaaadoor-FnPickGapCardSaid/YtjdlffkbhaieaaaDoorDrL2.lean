/- Draws: a zone, a date and a time (the draws themselves). -/
import Derived.Test.YtjdlffkbhaieaaaDoorDrL
namespace Go.Proofs.YtjdlffkbhaieaaaDoor
open Go.RowKit

section
variable {w0 w w' : World} {B g m base zb nb : Nat} {o : Int} {b cap : Nat} {l : List R2} {y mo d : Int} {r0 r1 r2 : Array Value}
theorem Le.c5 (h : Le w0 w B g m base zb nb o b cap l y mo d r0 r1 r2) : w.cell? ⟨zb, 0, none⟩ = some (.int .i64 o) ∧ w.cell? ⟨zb, 1, none⟩ = some (.slice (some ⟨b, 0, none⟩) l.length cap) ∧ w.cell? ⟨nb, 0, none⟩ = some (.int .i64 y) ∧ w.cell? ⟨nb, 1, none⟩ = some (.int .i64 mo) ∧ w.cell? ⟨nb, 2, none⟩ = some (.int .i64 d) := Go.Proofs.YtjdlffkbhaieaaaDoor.c5 h.Z h.N
theorem Lc.rd (h : Lc w0 w B g m base zb nb o b cap l y mo d) : Rd B w g m := h.Q.T
theorem Lc.s3 (h : Lc w0 w B g m base zb nb o b cap l y mo d) : w.cell? ⟨zb, 0, none⟩ = some (.int .i64 o) ∧ w.cell? ⟨zb, 1, none⟩ = some (.slice (some ⟨b, 0, none⟩) l.length cap) ∧ (∀ j : Nat, j < l.length → w.cell? ⟨b, j * 2, none⟩ = some (.int .i64 (l.getD j (0, 0)).1) ∧ w.cell? ⟨b, j * 2 + 1, none⟩ = some (.int .i64 (l.getD j (0, 0)).2)) := ⟨h.Z.cell 0, h.Z.cell 1, fun _ hj => h.tc hj⟩
theorem Lc.setF (h : Lc w0 w B g m base zb nb o b cap l y mo d) {p : Addr} (h1 : zb < p.block) (h2 : nb < p.block) (h3 : b < p.block) (u : Value) : Lc w0 (w.setCell p u) B g m base zb nb o b cap l y mo d := by
  have a1 := h.h1; have a2 := h.h2; have a3 := h.h3; have a4 := h.Q.h0
  exact ⟨h.Z.far (by omega) _, h.N.far (by omega) _, h.V0.far (by omega) _, h.V1.far (by omega) _, h.V2.far (by omega) _,
    ⟨ownsRow_setCell_other h.Q.O (fun e => by have : b = p.block := by injection e
                                              omega) _, h.Q.T.setCell (by omega) _, only_setCell h.Q.G (.inr (by have := h.Q.h1; omega)) _, h.Q.h0, h.Q.h1, h.Q.h2⟩, h.h1, h.h2, h.h3⟩
theorem Le.rd (h : Le w0 w B g m base zb nb o b cap l y mo d r0 r1 r2) : Rd B w g m := h.Q.T
theorem Le.done {m' : Nat} {Y M D H I S T : Int} {e : Ending} (h : Le w0 w B g m' base zb nb o b cap l y mo d r0 r1 r2) (hm : m' ≤ m + 60) (hl : l.length ≤ 5)
    (he : e = .returned (.tuple #[.agg #[.int .i64 o, .slice (some ⟨b, 0, none⟩) l.length cap], .agg #[.int .i64 Y, .int .i64 M, .int .i64 D], .agg #[.int .i64 H, .int .i64 I, .int .i64 S, .int .i64 T]])) : DrawnZDC B g m w0 e w :=
  ⟨o, b, cap, l, Y, M, D, H, I, S, T, he, own_more h.Q.O (by have := h.h1; omega), hl, h.Q.T.more hm, h.Q.G⟩
end

set_option maxRecDepth 100000 in
set_option maxHeartbeats 8000000 in
theorem l92Local_any {B g m : Nat} {w : World} (hr : Rd B w g m) (hm : m ≤ 40000) :
    Calls Tryd.prog 56 #[.pointer (some ⟨g, 0, none⟩)] w (DrawnZDC B g m w) := by
  have hgl := hr.lt
  have A0 := ((Blk.new w 36 #[.int .i64 0, .slice none 0 0]).alloc (.cells #[.int .i64 0, .int .i64 0, .int .i64 0] 27)).alloc (.cells #[.int .i64 0, .int .i64 0, .int .i64 0, .int .i64 0] 29)
  have A1 := (Blk.newE (W := w.alloc (.cells #[.int .i64 0, .slice none 0 0] 36)) (g := w.heap.size + 1) (t := 27) (cs := #[.int .i64 0, .int .i64 0, .int .i64 0]) (by simp)).alloc (.cells #[.int .i64 0, .int .i64 0, .int .i64 0, .int .i64 0] 29)
  have A2 := Blk.newE (W := (w.alloc (.cells #[.int .i64 0, .slice none 0 0] 36)).alloc (.cells #[.int .i64 0, .int .i64 0, .int .i64 0] 27)) (g := w.heap.size + 1 + 1) (t := 29) (cs := #[.int .i64 0, .int .i64 0, .int .i64 0, .int .i64 0]) (by simp)
  have G0 := only_alloc (only_alloc (only_alloc (only_refl w (some g)) (.cells #[.int .i64 0, .slice none 0 0] 36)) (.cells #[.int .i64 0, .int .i64 0, .int .i64 0] 27)) (.cells #[.int .i64 0, .int .i64 0, .int .i64 0, .int .i64 0] 29)
  go_enter Tryd.func56, Tryd.ntmps56
  go_wp2_with fail
  refine (l92Zone_any (((hr.alloc _).alloc _).alloc _) (by omega)).mono ?_
  rintro e w1 ⟨o, b, cap, l, y, mo, d, rfl, ho, hl5, hbd, hr1, hg1⟩
  have ho' := ho
  simp only [World.size_alloc] at ho'
  have hs1 := hg1.size
  simp at hs1
  have hbl := ho.lt b rfl
  simp at hbl
  have hcap := own_cap ho
  have hcm : cap ≤ 9223372036854775807 := hcap.2
  have hlc : l.length ≤ cap := hcap.1
  have S1 := hide (show Lc w ((w1.alloc (.cells #[.int .i64 o, .slice (some ⟨b, 0, none⟩) l.length cap] 36)).alloc (.cells #[.int .i64 y, .int .i64 mo, .int .i64 d] 27)) B g (m + 40) (w.heap.size + 1 + 1 + 1) w1.heap.size (w1.heap.size + 1) o b cap l y mo d from
    ⟨(Blk.new _ _ _).alloc _, Blk.newE (by simp), ((A0.grown' hg1 (by omega)).alloc _).alloc _, ((A1.grown' hg1 (by omega)).alloc _).alloc _, ((A2.grown' hg1 (by omega)).alloc _).alloc _,
      ⟨(ho'.alloc _).alloc _, (hr1.alloc _).alloc _, only_alloc (only_alloc (only_trans G0 hg1) _) _, hgl, Nat.le_refl _, by omega⟩, by omega, by omega, by omega⟩)
  clear A0 A1 A2 G0 ho ho' hr1 hg1 hbd hcap
  obtain ⟨z0, z1⟩ := S1.out.zc
  by_cases hl0 : l.length = 0
  · have g0 : decide (0 < l.length) = false := decide_eq_false (by omega)
    have g0' : ¬ 0 < l.length := by omega
    clear hl0
    go_wp2_with fail
    have L0h := hide S1.out.le
    have L0 := L0h.out.drew
    obtain ⟨pf0, pf1, pf2⟩ := L0.fz
    have p00 := L0.V0.cell 0
    have p01 := L0.V0.cell 1
    have p10 := L0.V1.cell 0
    have p11 := L0.V1.cell 1
    have p12 := L0.V1.cell 2
    have p20 := L0.V2.cell 0
    have p21 := L0.V2.cell 1
    have p22 := L0.V2.cell 2
    have p23 := L0.V2.cell 3
    simp at p00 p01 p10 p11 p12 p20 p21 p22 p23
    go_region_held3 (fun w' => w'.cell? ⟨w1.heap.size, 0, none⟩ = some (.int .i64 o) ∧ w'.cell? ⟨w1.heap.size, 1, none⟩ = some (.slice (some ⟨b, 0, none⟩) l.length cap) ∧ w'.cell? ⟨w1.heap.size + 1, 0, none⟩ = some (.int .i64 y) ∧ w'.cell? ⟨w1.heap.size + 1, 1, none⟩ = some (.int .i64 mo) ∧ w'.cell? ⟨w1.heap.size + 1, 2, none⟩ = some (.int .i64 d)) (first | (apply Le.c5; (repeat' first | (with_reducible exact L9) | (with_reducible exact L0) | (with_reducible apply Le.drew) | (with_reducible apply Le.set0) | (with_reducible apply Le.set1) | (with_reducible apply Le.set2)); done)) (first | (go_at_call 81; (first | refine (l91Clock_any (B := B) (g := g) (by first | (apply Le.rd; (repeat' first | (with_reducible exact L0) | (with_reducible apply Le.drew) | (with_reducible apply Le.set0) | (with_reducible apply Le.set1) | (with_reducible apply Le.set2))) | fail) (by omega)).mono ?_ | fail); rintro e w9 ⟨h, mi, s, ms, rfl, hr9, hg9⟩; (have L9 := Le.pick (by first | (repeat' first | (with_reducible exact L0) | (with_reducible apply Le.drew) | (with_reducible apply Le.set0) | (with_reducible apply Le.set1) | (with_reducible apply Le.set2)) | fail) hr9 hg9); obtain ⟨qf0, qf1, qf2⟩ := L9.fz; have q00 := L9.V0.cell 0; have q01 := L9.V0.cell 1; have q10 := L9.V1.cell 0; have q11 := L9.V1.cell 1; have q12 := L9.V1.cell 2; have q20 := L9.V2.cell 0; have q21 := L9.V2.cell 1; have q22 := L9.V2.cell 2; have q23 := L9.V2.cell 3; simp at q00 q01 q10 q11 q12 q20 q21 q22 q23))
    all_goals
      go_wp2_with fail
      refine bodyPost_ret (v := .tuple #[.agg #[.int .i64 o, .slice (some ⟨b, 0, none⟩) l.length cap], .agg #[.int .i64 y, .int .i64 mo, .int .i64 d], .agg #[.int .i64 h, .int .i64 mi, .int .i64 s, .int .i64 ms]]) (by simp [results, Tryd.results56, go_sem, q00, q01, q10, q11, q12, q20, q21, q22, q23, World.cell?_setCell_other]; try rfl) rfl ?_
      apply Le.done (l := l) (o := o) (b := b) (cap := cap) (hl := hl5) (he := rfl)
      rotate_left
      (repeat' first | (with_reducible exact L9) | (with_reducible apply Le.drew) | (with_reducible apply Le.set0) | (with_reducible apply Le.set1) | (with_reducible apply Le.set2))
      omega
  · have g0' : 0 < l.length := by omega
    clear hl0
    go_wp2_with fail
    refine (pick_any S1.out.Q.T (by omega) (by omega)).mono ?_
    rintro e w3 ⟨v3, a3, b3, rfl, hr3, hg3⟩
    have S3 := hide (S1.out.pick hr3 hg3)
    clear hr3 hg3 S1 z0 z1
    obtain ⟨z0, z1⟩ := S3.out.zc
    by_cases h3 : v3 = 0
    · subst h3
      go_wp2_with fail
      have L0h := hide S3.out.le
      have L0 := L0h.out.drew
      obtain ⟨pf0, pf1, pf2⟩ := L0.fz
      have p00 := L0.V0.cell 0
      have p01 := L0.V0.cell 1
      have p10 := L0.V1.cell 0
      have p11 := L0.V1.cell 1
      have p12 := L0.V1.cell 2
      have p20 := L0.V2.cell 0
      have p21 := L0.V2.cell 1
      have p22 := L0.V2.cell 2
      have p23 := L0.V2.cell 3
      simp at p00 p01 p10 p11 p12 p20 p21 p22 p23
      go_region_held3 (fun w' => w'.cell? ⟨w1.heap.size, 0, none⟩ = some (.int .i64 o) ∧ w'.cell? ⟨w1.heap.size, 1, none⟩ = some (.slice (some ⟨b, 0, none⟩) l.length cap) ∧ w'.cell? ⟨w1.heap.size + 1, 0, none⟩ = some (.int .i64 y) ∧ w'.cell? ⟨w1.heap.size + 1, 1, none⟩ = some (.int .i64 mo) ∧ w'.cell? ⟨w1.heap.size + 1, 2, none⟩ = some (.int .i64 d)) (first | (apply Le.c5; (repeat' first | (with_reducible exact L9) | (with_reducible exact L0) | (with_reducible apply Le.drew) | (with_reducible apply Le.set0) | (with_reducible apply Le.set1) | (with_reducible apply Le.set2)); done)) (first | (go_at_call 81; (first | refine (l91Clock_any (B := B) (g := g) (by first | (apply Le.rd; (repeat' first | (with_reducible exact L0) | (with_reducible apply Le.drew) | (with_reducible apply Le.set0) | (with_reducible apply Le.set1) | (with_reducible apply Le.set2))) | fail) (by omega)).mono ?_ | fail); rintro e w9 ⟨h, mi, s, ms, rfl, hr9, hg9⟩; (have L9 := Le.pick (by first | (repeat' first | (with_reducible exact L0) | (with_reducible apply Le.drew) | (with_reducible apply Le.set0) | (with_reducible apply Le.set1) | (with_reducible apply Le.set2)) | fail) hr9 hg9); obtain ⟨qf0, qf1, qf2⟩ := L9.fz; have q00 := L9.V0.cell 0; have q01 := L9.V0.cell 1; have q10 := L9.V1.cell 0; have q11 := L9.V1.cell 1; have q12 := L9.V1.cell 2; have q20 := L9.V2.cell 0; have q21 := L9.V2.cell 1; have q22 := L9.V2.cell 2; have q23 := L9.V2.cell 3; simp at q00 q01 q10 q11 q12 q20 q21 q22 q23))
      all_goals
        go_wp2_with fail
        refine bodyPost_ret (v := .tuple #[.agg #[.int .i64 o, .slice (some ⟨b, 0, none⟩) l.length cap], .agg #[.int .i64 y, .int .i64 mo, .int .i64 d], .agg #[.int .i64 h, .int .i64 mi, .int .i64 s, .int .i64 ms]]) (by simp [results, Tryd.results56, go_sem, q00, q01, q10, q11, q12, q20, q21, q22, q23, World.cell?_setCell_other]; try rfl) rfl ?_
        apply Le.done (l := l) (o := o) (b := b) (cap := cap) (hl := hl5) (he := rfl)
        rotate_left
        (repeat' first | (with_reducible exact L9) | (with_reducible apply Le.drew) | (with_reducible apply Le.set0) | (with_reducible apply Le.set1) | (with_reducible apply Le.set2))
        omega
    · have g3 : decide (0 < v3) = true := decide_eq_true (by omega)
      have g3' : 0 < v3 := by omega
      go_wp2_with fail
      have S3d := hide S3.out.drew
      have q1 := S3.out.Z.lt
      have q2 := S3.out.N.lt
      have q3 := S3.out.blt
      clear S3d z0 z1
      have hne : w3.heap.size ≠ g := Nat.ne_of_gt S3.out.Q.T.lt
      go_region_held3 (fun w' => w'.cell? ⟨w1.heap.size, 0, none⟩ = some (.int .i64 o) ∧ w'.cell? ⟨w1.heap.size, 1, none⟩ = some (.slice (some ⟨b, 0, none⟩) l.length cap) ∧ (∀ j : Nat, j < l.length → w'.cell? ⟨b, j * 2, none⟩ = some (.int .i64 (l.getD j (0, 0)).1) ∧ w'.cell? ⟨b, j * 2 + 1, none⟩ = some (.int .i64 (l.getD j (0, 0)).2))) (first | (apply Lc.s3; (repeat' first | (with_reducible exact S4) | (with_reducible exact S3.out) | (with_reducible apply Lc.drew) | (with_reducible apply Lc.alloc) | (with_reducible apply Lc.setF) | (focus (show (_ : Nat) < _; simp; done)) | (focus (show (_ : Nat) < _; simp; omega)) | (focus (show (_ : Nat) < _; omega))); done)) (first | ((go_at_call 66); (first | refine (pick_any (B := B) (g := g) (by first | (apply Lc.rd; (repeat' first | (with_reducible exact S4) | (with_reducible exact S3.out) | (with_reducible apply Lc.drew) | (with_reducible apply Lc.alloc) | (with_reducible apply Lc.setF) | (focus (show (_ : Nat) < _; simp; done)) | (focus (show (_ : Nat) < _; simp; omega)) | (focus (show (_ : Nat) < _; omega)))) | fail) (by omega) (by omega)).mono ?_ | fail); rintro e w4 ⟨v4, a4, b4, rfl, hr4, hg4⟩; (have S4 := Lc.pick (by first | (repeat' first | (with_reducible exact S4) | (with_reducible exact S3.out) | (with_reducible apply Lc.drew) | (with_reducible apply Lc.alloc) | (with_reducible apply Lc.setF) | (focus (show (_ : Nat) < _; simp; done)) | (focus (show (_ : Nat) < _; simp; omega)) | (focus (show (_ : Nat) < _; omega))) | fail) hr4 hg4); obtain ⟨k4, rfl⟩ := Int.eq_ofNat_of_zero_le a4; have hk4 : k4 < l.length := (by omega); have q4 := hg4.size; simp at q4; (first | (have TB := Blk.grown' (Blk.drew (Blk.new w3 68 #[.int .i64 0, .int .i64 0])) hg4 hne; have tf0 := TB.frozen 0; have tf1 := TB.frozen 1; have tc0 := TB.cell 0; have tc1 := TB.cell 1; simp at tc0 tc1) | skip)))
      · generalize l[k4].1 = t0
        generalize l[k4].2 = t1
        have S5 := hide (S4.alloc (.cells #[.int .i64 t0, .int .i64 t1] 68))
        have T5 := hide (Blk.new w4 68 #[.int .i64 t0, .int .i64 t1])
        have htg : w4.heap.size ≠ g := Nat.ne_of_gt S4.Q.T.lt
        clear S4 S3 hr4 hg4
        have u0 := T5.out.cell 0
        have u1 := T5.out.cell 1
        simp at u0 u1
        go_wp2_with fail
        go_region_held3 (fun w' => w'.cell? ⟨w4.heap.size, 0, none⟩ = some (.int .i64 t0) ∧ w'.cell? ⟨w4.heap.size, 1, none⟩ = some (.int .i64 t1)) (first | exact ⟨T5.out.drew.cell 0, T5.out.drew.cell 1⟩ | exact ⟨T6.cell 0, T6.cell 1⟩) (first | ((go_at_call 66); (with_reducible refine (pick_any (B := B) (g := g) S5.out.drew.Q.T (by omega) (by omega)).mono ?_); rintro e w6 ⟨v6, a6, b6, rfl, hr6, hg6⟩; have S6 := hide (S5.out.drew.pick hr6 hg6); have T6 := T5.out.drew.grown' hg6 htg))
        go_wp2_with fail
        refine (dateOf_some _ _).mono ?_
        rintro e w7 ⟨⟨y2, mo2, d2, ok, rfl⟩, hb7⟩
        have S7 := hide (S6.out.below hb7)
        have S8 := hide (S7.out.alloc (.cells #[.int .i64 y2, .int .i64 mo2, .int .i64 d2] 27))
        have hbz : w.heap.size + 1 + 1 + 1 < w7.heap.size := Nat.lt_trans S7.out.h2 S7.out.Z.lt
        clear S5 S6 T5 T6 u0 u1 hr6 hg6 hb7
        cases ok with
        | false =>
          clear S7
          go_wp2_with fail
          have L0h := hide S8.out.le
          have L0 := L0h.out.drew
          obtain ⟨pf0, pf1, pf2⟩ := L0.fz
          have p00 := L0.V0.cell 0
          have p01 := L0.V0.cell 1
          have p10 := L0.V1.cell 0
          have p11 := L0.V1.cell 1
          have p12 := L0.V1.cell 2
          have p20 := L0.V2.cell 0
          have p21 := L0.V2.cell 1
          have p22 := L0.V2.cell 2
          have p23 := L0.V2.cell 3
          simp at p00 p01 p10 p11 p12 p20 p21 p22 p23
          go_region_held3 (fun w' => w'.cell? ⟨w1.heap.size, 0, none⟩ = some (.int .i64 o) ∧ w'.cell? ⟨w1.heap.size, 1, none⟩ = some (.slice (some ⟨b, 0, none⟩) l.length cap) ∧ w'.cell? ⟨w1.heap.size + 1, 0, none⟩ = some (.int .i64 y) ∧ w'.cell? ⟨w1.heap.size + 1, 1, none⟩ = some (.int .i64 mo) ∧ w'.cell? ⟨w1.heap.size + 1, 2, none⟩ = some (.int .i64 d)) (first | (apply Le.c5; (repeat' first | (with_reducible exact L9) | (with_reducible exact L0) | (with_reducible apply Le.drew) | (with_reducible apply Le.set0) | (with_reducible apply Le.set1) | (with_reducible apply Le.set2)); done)) (first | (go_at_call 81; (first | refine (l91Clock_any (B := B) (g := g) (by first | (apply Le.rd; (repeat' first | (with_reducible exact L0) | (with_reducible apply Le.drew) | (with_reducible apply Le.set0) | (with_reducible apply Le.set1) | (with_reducible apply Le.set2))) | fail) (by omega)).mono ?_ | fail); rintro e w9 ⟨h, mi, s, ms, rfl, hr9, hg9⟩; (have L9 := Le.pick (by first | (repeat' first | (with_reducible exact L0) | (with_reducible apply Le.drew) | (with_reducible apply Le.set0) | (with_reducible apply Le.set1) | (with_reducible apply Le.set2)) | fail) hr9 hg9); obtain ⟨qf0, qf1, qf2⟩ := L9.fz; have q00 := L9.V0.cell 0; have q01 := L9.V0.cell 1; have q10 := L9.V1.cell 0; have q11 := L9.V1.cell 1; have q12 := L9.V1.cell 2; have q20 := L9.V2.cell 0; have q21 := L9.V2.cell 1; have q22 := L9.V2.cell 2; have q23 := L9.V2.cell 3; simp at q00 q01 q10 q11 q12 q20 q21 q22 q23))
          all_goals
            go_wp2_with fail
            refine bodyPost_ret (v := .tuple #[.agg #[.int .i64 o, .slice (some ⟨b, 0, none⟩) l.length cap], .agg #[.int .i64 y, .int .i64 mo, .int .i64 d], .agg #[.int .i64 h, .int .i64 mi, .int .i64 s, .int .i64 ms]]) (by simp [results, Tryd.results56, go_sem, q00, q01, q10, q11, q12, q20, q21, q22, q23, World.cell?_setCell_other]; try rfl) rfl ?_
            apply Le.done (l := l) (o := o) (b := b) (cap := cap) (hl := hl5) (he := rfl)
            rotate_left
            (repeat' first | (with_reducible exact L9) | (with_reducible apply Le.drew) | (with_reducible apply Le.set0) | (with_reducible apply Le.set1) | (with_reducible apply Le.set2))
            omega
        | true =>
          have S9 := hide (show Lc w (w7.alloc (.cells #[.int .i64 y2, .int .i64 mo2, .int .i64 d2] 27)) B g (m + 40 + 1 + 1 + 1) (w.heap.size + 1 + 1 + 1) w1.heap.size w7.heap.size o b cap l y2 mo2 d2 from
            ⟨S8.out.Z, Blk.new _ _ _, S8.out.V0, S8.out.V1, S8.out.V2, S8.out.Q, S8.out.h1, S8.out.h2, hbz⟩)
          clear S7 S8
          go_wp2_with fail
          have L0h := hide S9.out.le
          have L0 := L0h.out.drew
          obtain ⟨pf0, pf1, pf2⟩ := L0.fz
          have p00 := L0.V0.cell 0
          have p01 := L0.V0.cell 1
          have p10 := L0.V1.cell 0
          have p11 := L0.V1.cell 1
          have p12 := L0.V1.cell 2
          have p20 := L0.V2.cell 0
          have p21 := L0.V2.cell 1
          have p22 := L0.V2.cell 2
          have p23 := L0.V2.cell 3
          simp at p00 p01 p10 p11 p12 p20 p21 p22 p23
          go_region_held3 (fun w' => w'.cell? ⟨w1.heap.size, 0, none⟩ = some (.int .i64 o) ∧ w'.cell? ⟨w1.heap.size, 1, none⟩ = some (.slice (some ⟨b, 0, none⟩) l.length cap) ∧ w'.cell? ⟨w7.heap.size, 0, none⟩ = some (.int .i64 y2) ∧ w'.cell? ⟨w7.heap.size, 1, none⟩ = some (.int .i64 mo2) ∧ w'.cell? ⟨w7.heap.size, 2, none⟩ = some (.int .i64 d2)) (first | (apply Le.c5; (repeat' first | (with_reducible exact L9) | (with_reducible exact L0) | (with_reducible apply Le.drew) | (with_reducible apply Le.set0) | (with_reducible apply Le.set1) | (with_reducible apply Le.set2)); done)) (first | (go_at_call 71; refine (l5Of_some _ _).mono ?_; rintro e w9 ⟨⟨h, mi, s, ms, rfl⟩, hb9⟩; (have L9 := Le.below (by first | (repeat' first | (with_reducible exact L0) | (with_reducible apply Le.drew) | (with_reducible apply Le.set0) | (with_reducible apply Le.set1) | (with_reducible apply Le.set2)) | fail) hb9); obtain ⟨qf0, qf1, qf2⟩ := L9.fz; have q00 := L9.V0.cell 0; have q01 := L9.V0.cell 1; have q10 := L9.V1.cell 0; have q11 := L9.V1.cell 1; have q12 := L9.V1.cell 2; have q20 := L9.V2.cell 0; have q21 := L9.V2.cell 1; have q22 := L9.V2.cell 2; have q23 := L9.V2.cell 3; simp at q00 q01 q10 q11 q12 q20 q21 q22 q23))
          all_goals
            go_wp2_with fail
            refine bodyPost_ret (v := .tuple #[.agg #[.int .i64 o, .slice (some ⟨b, 0, none⟩) l.length cap], .agg #[.int .i64 y2, .int .i64 mo2, .int .i64 d2], .agg #[.int .i64 h, .int .i64 mi, .int .i64 s, .int .i64 ms]]) (by simp [results, Tryd.results56, go_sem, q00, q01, q10, q11, q12, q20, q21, q22, q23, World.cell?_setCell_other]; try rfl) rfl ?_
            apply Le.done (l := l) (o := o) (b := b) (cap := cap) (hl := hl5) (he := rfl)
            rotate_left
            (repeat' first | (with_reducible exact L9) | (with_reducible apply Le.drew) | (with_reducible apply Le.set0) | (with_reducible apply Le.set1) | (with_reducible apply Le.set2))
            omega
      · generalize l[k4].1 = t0
        generalize l[k4].2 = t1
        have S5 := hide ((S4.setF (p := ⟨w3.heap.size, 0, none⟩) q1 q2 q3 (.int .i64 t0)).setF (p := ⟨w3.heap.size, 1, none⟩) q1 q2 q3 (.int .i64 t1))
        have T5 := hide ((TB.set_ 0 (.int .i64 t0)).set_ 1 (.int .i64 t1))
        have htg : w3.heap.size ≠ g := hne
        clear S4 S3 TB tf0 tf1 tc0 tc1 hr4 hg4
        have u0 := T5.out.cell 0
        have u1 := T5.out.cell 1
        simp at u0 u1
        go_wp2_with fail
        go_region_held3 (fun w' => w'.cell? ⟨w3.heap.size, 0, none⟩ = some (.int .i64 t0) ∧ w'.cell? ⟨w3.heap.size, 1, none⟩ = some (.int .i64 t1)) (first | exact ⟨T5.out.drew.cell 0, T5.out.drew.cell 1⟩ | exact ⟨T6.cell 0, T6.cell 1⟩) (first | ((go_at_call 66); (with_reducible refine (pick_any (B := B) (g := g) S5.out.drew.Q.T (by omega) (by omega)).mono ?_); rintro e w6 ⟨v6, a6, b6, rfl, hr6, hg6⟩; have S6 := hide (S5.out.drew.pick hr6 hg6); have T6 := T5.out.drew.grown' hg6 htg))
        go_wp2_with fail
        refine (dateOf_some _ _).mono ?_
        rintro e w7 ⟨⟨y2, mo2, d2, ok, rfl⟩, hb7⟩
        have S7 := hide (S6.out.below hb7)
        have S8 := hide (S7.out.alloc (.cells #[.int .i64 y2, .int .i64 mo2, .int .i64 d2] 27))
        have hbz : w.heap.size + 1 + 1 + 1 < w7.heap.size := Nat.lt_trans S7.out.h2 S7.out.Z.lt
        clear S5 S6 T5 T6 u0 u1 hr6 hg6 hb7
        cases ok with
        | false =>
          clear S7
          go_wp2_with fail
          have L0h := hide S8.out.le
          have L0 := L0h.out.drew
          obtain ⟨pf0, pf1, pf2⟩ := L0.fz
          have p00 := L0.V0.cell 0
          have p01 := L0.V0.cell 1
          have p10 := L0.V1.cell 0
          have p11 := L0.V1.cell 1
          have p12 := L0.V1.cell 2
          have p20 := L0.V2.cell 0
          have p21 := L0.V2.cell 1
          have p22 := L0.V2.cell 2
          have p23 := L0.V2.cell 3
          simp at p00 p01 p10 p11 p12 p20 p21 p22 p23
          go_region_held3 (fun w' => w'.cell? ⟨w1.heap.size, 0, none⟩ = some (.int .i64 o) ∧ w'.cell? ⟨w1.heap.size, 1, none⟩ = some (.slice (some ⟨b, 0, none⟩) l.length cap) ∧ w'.cell? ⟨w1.heap.size + 1, 0, none⟩ = some (.int .i64 y) ∧ w'.cell? ⟨w1.heap.size + 1, 1, none⟩ = some (.int .i64 mo) ∧ w'.cell? ⟨w1.heap.size + 1, 2, none⟩ = some (.int .i64 d)) (first | (apply Le.c5; (repeat' first | (with_reducible exact L9) | (with_reducible exact L0) | (with_reducible apply Le.drew) | (with_reducible apply Le.set0) | (with_reducible apply Le.set1) | (with_reducible apply Le.set2)); done)) (first | (go_at_call 81; (first | refine (l91Clock_any (B := B) (g := g) (by first | (apply Le.rd; (repeat' first | (with_reducible exact L0) | (with_reducible apply Le.drew) | (with_reducible apply Le.set0) | (with_reducible apply Le.set1) | (with_reducible apply Le.set2))) | fail) (by omega)).mono ?_ | fail); rintro e w9 ⟨h, mi, s, ms, rfl, hr9, hg9⟩; (have L9 := Le.pick (by first | (repeat' first | (with_reducible exact L0) | (with_reducible apply Le.drew) | (with_reducible apply Le.set0) | (with_reducible apply Le.set1) | (with_reducible apply Le.set2)) | fail) hr9 hg9); obtain ⟨qf0, qf1, qf2⟩ := L9.fz; have q00 := L9.V0.cell 0; have q01 := L9.V0.cell 1; have q10 := L9.V1.cell 0; have q11 := L9.V1.cell 1; have q12 := L9.V1.cell 2; have q20 := L9.V2.cell 0; have q21 := L9.V2.cell 1; have q22 := L9.V2.cell 2; have q23 := L9.V2.cell 3; simp at q00 q01 q10 q11 q12 q20 q21 q22 q23))
          all_goals
            go_wp2_with fail
            refine bodyPost_ret (v := .tuple #[.agg #[.int .i64 o, .slice (some ⟨b, 0, none⟩) l.length cap], .agg #[.int .i64 y, .int .i64 mo, .int .i64 d], .agg #[.int .i64 h, .int .i64 mi, .int .i64 s, .int .i64 ms]]) (by simp [results, Tryd.results56, go_sem, q00, q01, q10, q11, q12, q20, q21, q22, q23, World.cell?_setCell_other]; try rfl) rfl ?_
            apply Le.done (l := l) (o := o) (b := b) (cap := cap) (hl := hl5) (he := rfl)
            rotate_left
            (repeat' first | (with_reducible exact L9) | (with_reducible apply Le.drew) | (with_reducible apply Le.set0) | (with_reducible apply Le.set1) | (with_reducible apply Le.set2))
            omega
        | true =>
          have S9 := hide (show Lc w (w7.alloc (.cells #[.int .i64 y2, .int .i64 mo2, .int .i64 d2] 27)) B g (m + 40 + 1 + 1 + 1) (w.heap.size + 1 + 1 + 1) w1.heap.size w7.heap.size o b cap l y2 mo2 d2 from
            ⟨S8.out.Z, Blk.new _ _ _, S8.out.V0, S8.out.V1, S8.out.V2, S8.out.Q, S8.out.h1, S8.out.h2, hbz⟩)
          clear S7 S8
          go_wp2_with fail
          have L0h := hide S9.out.le
          have L0 := L0h.out.drew
          obtain ⟨pf0, pf1, pf2⟩ := L0.fz
          have p00 := L0.V0.cell 0
          have p01 := L0.V0.cell 1
          have p10 := L0.V1.cell 0
          have p11 := L0.V1.cell 1
          have p12 := L0.V1.cell 2
          have p20 := L0.V2.cell 0
          have p21 := L0.V2.cell 1
          have p22 := L0.V2.cell 2
          have p23 := L0.V2.cell 3
          simp at p00 p01 p10 p11 p12 p20 p21 p22 p23
          go_region_held3 (fun w' => w'.cell? ⟨w1.heap.size, 0, none⟩ = some (.int .i64 o) ∧ w'.cell? ⟨w1.heap.size, 1, none⟩ = some (.slice (some ⟨b, 0, none⟩) l.length cap) ∧ w'.cell? ⟨w7.heap.size, 0, none⟩ = some (.int .i64 y2) ∧ w'.cell? ⟨w7.heap.size, 1, none⟩ = some (.int .i64 mo2) ∧ w'.cell? ⟨w7.heap.size, 2, none⟩ = some (.int .i64 d2)) (first | (apply Le.c5; (repeat' first | (with_reducible exact L9) | (with_reducible exact L0) | (with_reducible apply Le.drew) | (with_reducible apply Le.set0) | (with_reducible apply Le.set1) | (with_reducible apply Le.set2)); done)) (first | (go_at_call 71; refine (l5Of_some _ _).mono ?_; rintro e w9 ⟨⟨h, mi, s, ms, rfl⟩, hb9⟩; (have L9 := Le.below (by first | (repeat' first | (with_reducible exact L0) | (with_reducible apply Le.drew) | (with_reducible apply Le.set0) | (with_reducible apply Le.set1) | (with_reducible apply Le.set2)) | fail) hb9); obtain ⟨qf0, qf1, qf2⟩ := L9.fz; have q00 := L9.V0.cell 0; have q01 := L9.V0.cell 1; have q10 := L9.V1.cell 0; have q11 := L9.V1.cell 1; have q12 := L9.V1.cell 2; have q20 := L9.V2.cell 0; have q21 := L9.V2.cell 1; have q22 := L9.V2.cell 2; have q23 := L9.V2.cell 3; simp at q00 q01 q10 q11 q12 q20 q21 q22 q23))
          all_goals
            go_wp2_with fail
            refine bodyPost_ret (v := .tuple #[.agg #[.int .i64 o, .slice (some ⟨b, 0, none⟩) l.length cap], .agg #[.int .i64 y2, .int .i64 mo2, .int .i64 d2], .agg #[.int .i64 h, .int .i64 mi, .int .i64 s, .int .i64 ms]]) (by simp [results, Tryd.results56, go_sem, q00, q01, q10, q11, q12, q20, q21, q22, q23, World.cell?_setCell_other]; try rfl) rfl ?_
            apply Le.done (l := l) (o := o) (b := b) (cap := cap) (hl := hl5) (he := rfl)
            rotate_left
            (repeat' first | (with_reducible exact L9) | (with_reducible apply Le.drew) | (with_reducible apply Le.set0) | (with_reducible apply Le.set1) | (with_reducible apply Le.set2))
            omega
end Go.Proofs.YtjdlffkbhaieaaaDoor
