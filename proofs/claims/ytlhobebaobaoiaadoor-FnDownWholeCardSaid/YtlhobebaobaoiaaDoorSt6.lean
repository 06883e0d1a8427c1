/- Contracts: rounding (the reference's). -/
import Derived.Test.YtlhobebaobaoiaaDoorSt5
import Derived.Test.YtlhobebaobaoiaaDoorSt4
namespace Go.Proofs.YtlhobebaobaoiaaDoor
open Go.RowKit
attribute [local go_sem] lt_cell cell_sp sp_alloc sp_drew sp_new storeP_sp
attribute [local go_sem ↓] storeP_eq

set_option maxRecDepth 100000 in
set_option maxHeartbeats 4000000 in
theorem spec_down (x : S8) (u : Int) (w : World) :
    Calls Tryd.prog 11 #[.agg x.v, .int .i64 u] w (RetS (rnd dnW x u) w) := by
  obtain ⟨y, mo, d, h, mi, s, ms, o⟩ := x
  have R0 := (Blk.newE (W := w.alloc (.cells #[.int .i64 y, .int .i64 mo, .int .i64 d, .int .i64 h, .int .i64 mi, .int .i64 s, .int .i64 ms, .int .i64 o] 31)) (g := w.heap.size + 1) (t := 31) (cs := #[.int .i64 0, .int .i64 0, .int .i64 0, .int .i64 0, .int .i64 0, .int .i64 0, .int .i64 0, .int .i64 0]) (by simp))
  have X0 := (Blk.new w 31 #[.int .i64 y, .int .i64 mo, .int .i64 d, .int .i64 h, .int .i64 mi, .int .i64 s, .int .i64 ms, .int .i64 o]).alloc (.cells #[.int .i64 0, .int .i64 0, .int .i64 0, .int .i64 0, .int .i64 0, .int .i64 0, .int .i64 0, .int .i64 0] 31)
  have B0 := bal (bal (Below.refl w.heap.size w) (.cells #[.int .i64 y, .int .i64 mo, .int .i64 d, .int .i64 h, .int .i64 mi, .int .i64 s, .int .i64 ms, .int .i64 o] 31)) (.cells #[.int .i64 0, .int .i64 0, .int .i64 0, .int .i64 0, .int .i64 0, .int .i64 0, .int .i64 0, .int .i64 0] 31)
  simp only [S8.v]
  go_enter Tryd.func11, Tryd.ntmps11
  go_wp2_with fail
  refine (spec_ok ⟨y, mo, d, h, mi, s, ms, o⟩ u _).mono ?_
  rintro e w1 ⟨rfl, hb1⟩
  have H1 : Below w.heap.size w w1 := bto B0 hb1
  have hsp := (R0.below hb1 R0.lt).sp rfl
  have hz := hsp.choose_spec.2.lt
  have X1 := hide (X0.below hb1 X0.lt)
  have hsz : w.heap.size ≤ w.heap.size + 1 := Nat.le_succ _
  have hxl : w.heap.size < w1.heap.size := by omega
  have x0 := X1.out.cell 0
  have x1 := X1.out.cell 1
  have x2 := X1.out.cell 2
  have x3 := X1.out.cell 3
  have x4 := X1.out.cell 4
  have x5 := X1.out.cell 5
  have x6 := X1.out.cell 6
  have x7 := X1.out.cell 7
  simp at x0 x1 x2 x3 x4 x5 x6 x7
  clear R0 X0 B0 hb1
  cases hv : (S8.ok ⟨y, mo, d, h, mi, s, ms, o⟩ && unB u) with
  | false =>
    have HS := hide (rnd_no (way := dnW) hv)
    go_wp2_with fail
    refine bodyPost_ret (by simp [results, Tryd.results11, go_sem, cell_sp hsp]; try rfl) rfl ?_
    exact ⟨by rw [HS.out]; rfl, brow H1 hsz _⟩
  | true =>
    simp only [Bool.and_eq_true] at hv
    obtain ⟨hx, hu⟩ := hv
    have hib := S8.ins_bd hx
    obtain ⟨i, ei⟩ : ∃ i, i = S8.ins ⟨y, mo, d, h, mi, s, ms, o⟩ := ⟨_, rfl⟩
    obtain ⟨r, er⟩ : ∃ r, r = cms h mi s ms % u := ⟨_, rfl⟩
    have hI : ∀ W : World, Calls Tryd.prog 31 #[.agg #[.int .i64 y, .int .i64 mo, .int .i64 d, .int .i64 h, .int .i64 mi, .int .i64 s, .int .i64 ms, .int .i64 o]] W fun e w' => e = .returned (.int .i64 i) ∧ Below W.heap.size W w' := fun W => by rw [ei]; exact spec_l12i ⟨y, mo, d, h, mi, s, ms, o⟩ W hx
    have hR : ∀ W : World, Calls Tryd.prog 32 #[.agg #[.int .i64 y, .int .i64 mo, .int .i64 d, .int .i64 h, .int .i64 mi, .int .i64 s, .int .i64 ms, .int .i64 o], .int .i64 u] W fun e w' => e = .returned (.int .i64 r) ∧ Below W.heap.size W w' := fun W => by rw [er]; exact spec_rest ⟨y, mo, d, h, mi, s, ms, o⟩ u W hx hu
    have HS := hide (show rnd dnW ⟨y, mo, d, h, mi, s, ms, o⟩ u = stAt (i - r) o by rw [rnd_yes hx hu]; show stAt (_ - 60000 * S8.o ⟨y, mo, d, h, mi, s, ms, o⟩) _ = _; rw [dn_is ⟨y, mo, d, h, mi, s, ms, o⟩ hu, ei, er])
    have hr0 : 0 ≤ r := by rw [er]; exact Int.emod_nonneg _ (by have := unB_iff.1 hu; omega)
    have hr1 : r < u := by rw [er]; exact Int.emod_lt_of_pos _ (by have := unB_iff.1 hu; omega)
    rw [← ei] at hib
    clear ei er
    have HU := hide (unB_iff.1 hu)
    clear hx hu
    rcases HU.out with rfl | rfl | rfl | rfl
    · have e1 : IntKind.i64.wrap (i - r) = i - r := IntWalk.i64_in _ (by omega)
      go_wp2_with fail
      go_region_held3 (fun w' => w'.cell? ⟨w.heap.size, 0, none⟩ = some (.int .i64 y) ∧ w'.cell? ⟨w.heap.size, 1, none⟩ = some (.int .i64 mo) ∧ w'.cell? ⟨w.heap.size, 2, none⟩ = some (.int .i64 d) ∧ w'.cell? ⟨w.heap.size, 3, none⟩ = some (.int .i64 h) ∧ w'.cell? ⟨w.heap.size, 4, none⟩ = some (.int .i64 mi) ∧ w'.cell? ⟨w.heap.size, 5, none⟩ = some (.int .i64 s) ∧ w'.cell? ⟨w.heap.size, 6, none⟩ = some (.int .i64 ms) ∧ w'.cell? ⟨w.heap.size, 7, none⟩ = some (.int .i64 o)) (first | exact st8 X1.out.drew | exact st8 XA | exact st8 XB | exact st8 XC | exact st8 (XC.setRow_far (by omega) _)) (first | (go_at_call 31; refine (hI _).mono ?_; rintro e wA ⟨rfl, hbA⟩; have XA : Blk wA w.heap.size 31 #[.int .i64 y, .int .i64 mo, .int .i64 d, .int .i64 h, .int .i64 mi, .int .i64 s, .int .i64 ms, .int .i64 o] := (by first | exact X1.out.drew.below hbA X1.out.lt | exact XB.below hbA XB.lt); have hzA := XA.lt) | (go_at_call 32; refine (hR _).mono ?_; rintro e wB ⟨rfl, hbB⟩; have XB : Blk wB w.heap.size 31 #[.int .i64 y, .int .i64 mo, .int .i64 d, .int .i64 h, .int .i64 mi, .int .i64 s, .int .i64 ms, .int .i64 o] := (by first | exact X1.out.drew.below hbB X1.out.lt | exact XA.below hbB XA.lt); have hzB := XB.lt) | (go_at_call 30; refine (spec_stampAt _ _ _).mono ?_; rintro e wC ⟨rfl, hbC⟩; have HC : Below w.heap.size w wC := (by first | exact bto (bto (bto (bdrew H1) hbA) hbB) hbC | exact bto (bto (bto (bdrew H1) hbB) hbA) hbC); have hsC : Sp wC (w.heap.size + 1) := (by first | exact sp_below (sp_below (sp_below (sp_drew hsp) hbA) hbB) hbC | exact sp_below (sp_below (sp_below (sp_drew hsp) hbB) hbA) hbC); have XC : Blk wC w.heap.size 31 #[.int .i64 y, .int .i64 mo, .int .i64 d, .int .i64 h, .int .i64 mi, .int .i64 s, .int .i64 ms, .int .i64 o] := (by first | exact XA.below hbC XA.lt | exact XB.below hbC XB.lt); generalize stAt (i - r) o = qq at HS; obtain ⟨⟨y', mo', d', h', mi', s', ms', o'⟩, ok⟩ := qq; simp only [S8.v]))
      all_goals
        go_wp2_with fail
        refine bodyPost_ret (by simp [results, Tryd.results11, go_sem, cell_sp hsC]; try rfl) rfl ?_
        exact ⟨by rw [HS.out]; rfl, brow HC hsz _⟩
    · have e1 : IntKind.i64.wrap (i - r) = i - r := IntWalk.i64_in _ (by omega)
      go_wp2_with fail
      go_region_held3 (fun w' => w'.cell? ⟨w.heap.size, 0, none⟩ = some (.int .i64 y) ∧ w'.cell? ⟨w.heap.size, 1, none⟩ = some (.int .i64 mo) ∧ w'.cell? ⟨w.heap.size, 2, none⟩ = some (.int .i64 d) ∧ w'.cell? ⟨w.heap.size, 3, none⟩ = some (.int .i64 h) ∧ w'.cell? ⟨w.heap.size, 4, none⟩ = some (.int .i64 mi) ∧ w'.cell? ⟨w.heap.size, 5, none⟩ = some (.int .i64 s) ∧ w'.cell? ⟨w.heap.size, 6, none⟩ = some (.int .i64 ms) ∧ w'.cell? ⟨w.heap.size, 7, none⟩ = some (.int .i64 o)) (first | exact st8 X1.out.drew | exact st8 XA | exact st8 XB | exact st8 XC | exact st8 (XC.setRow_far (by omega) _)) (first | (go_at_call 31; refine (hI _).mono ?_; rintro e wA ⟨rfl, hbA⟩; have XA : Blk wA w.heap.size 31 #[.int .i64 y, .int .i64 mo, .int .i64 d, .int .i64 h, .int .i64 mi, .int .i64 s, .int .i64 ms, .int .i64 o] := (by first | exact X1.out.drew.below hbA X1.out.lt | exact XB.below hbA XB.lt); have hzA := XA.lt) | (go_at_call 32; refine (hR _).mono ?_; rintro e wB ⟨rfl, hbB⟩; have XB : Blk wB w.heap.size 31 #[.int .i64 y, .int .i64 mo, .int .i64 d, .int .i64 h, .int .i64 mi, .int .i64 s, .int .i64 ms, .int .i64 o] := (by first | exact X1.out.drew.below hbB X1.out.lt | exact XA.below hbB XA.lt); have hzB := XB.lt) | (go_at_call 30; refine (spec_stampAt _ _ _).mono ?_; rintro e wC ⟨rfl, hbC⟩; have HC : Below w.heap.size w wC := (by first | exact bto (bto (bto (bdrew H1) hbA) hbB) hbC | exact bto (bto (bto (bdrew H1) hbB) hbA) hbC); have hsC : Sp wC (w.heap.size + 1) := (by first | exact sp_below (sp_below (sp_below (sp_drew hsp) hbA) hbB) hbC | exact sp_below (sp_below (sp_below (sp_drew hsp) hbB) hbA) hbC); have XC : Blk wC w.heap.size 31 #[.int .i64 y, .int .i64 mo, .int .i64 d, .int .i64 h, .int .i64 mi, .int .i64 s, .int .i64 ms, .int .i64 o] := (by first | exact XA.below hbC XA.lt | exact XB.below hbC XB.lt); generalize stAt (i - r) o = qq at HS; obtain ⟨⟨y', mo', d', h', mi', s', ms', o'⟩, ok⟩ := qq; simp only [S8.v]))
      all_goals
        go_wp2_with fail
        refine bodyPost_ret (by simp [results, Tryd.results11, go_sem, cell_sp hsC]; try rfl) rfl ?_
        exact ⟨by rw [HS.out]; rfl, brow HC hsz _⟩
    · have e1 : IntKind.i64.wrap (i - r) = i - r := IntWalk.i64_in _ (by omega)
      go_wp2_with fail
      go_region_held3 (fun w' => w'.cell? ⟨w.heap.size, 0, none⟩ = some (.int .i64 y) ∧ w'.cell? ⟨w.heap.size, 1, none⟩ = some (.int .i64 mo) ∧ w'.cell? ⟨w.heap.size, 2, none⟩ = some (.int .i64 d) ∧ w'.cell? ⟨w.heap.size, 3, none⟩ = some (.int .i64 h) ∧ w'.cell? ⟨w.heap.size, 4, none⟩ = some (.int .i64 mi) ∧ w'.cell? ⟨w.heap.size, 5, none⟩ = some (.int .i64 s) ∧ w'.cell? ⟨w.heap.size, 6, none⟩ = some (.int .i64 ms) ∧ w'.cell? ⟨w.heap.size, 7, none⟩ = some (.int .i64 o)) (first | exact st8 X1.out.drew | exact st8 XA | exact st8 XB | exact st8 XC | exact st8 (XC.setRow_far (by omega) _)) (first | (go_at_call 31; refine (hI _).mono ?_; rintro e wA ⟨rfl, hbA⟩; have XA : Blk wA w.heap.size 31 #[.int .i64 y, .int .i64 mo, .int .i64 d, .int .i64 h, .int .i64 mi, .int .i64 s, .int .i64 ms, .int .i64 o] := (by first | exact X1.out.drew.below hbA X1.out.lt | exact XB.below hbA XB.lt); have hzA := XA.lt) | (go_at_call 32; refine (hR _).mono ?_; rintro e wB ⟨rfl, hbB⟩; have XB : Blk wB w.heap.size 31 #[.int .i64 y, .int .i64 mo, .int .i64 d, .int .i64 h, .int .i64 mi, .int .i64 s, .int .i64 ms, .int .i64 o] := (by first | exact X1.out.drew.below hbB X1.out.lt | exact XA.below hbB XA.lt); have hzB := XB.lt) | (go_at_call 30; refine (spec_stampAt _ _ _).mono ?_; rintro e wC ⟨rfl, hbC⟩; have HC : Below w.heap.size w wC := (by first | exact bto (bto (bto (bdrew H1) hbA) hbB) hbC | exact bto (bto (bto (bdrew H1) hbB) hbA) hbC); have hsC : Sp wC (w.heap.size + 1) := (by first | exact sp_below (sp_below (sp_below (sp_drew hsp) hbA) hbB) hbC | exact sp_below (sp_below (sp_below (sp_drew hsp) hbB) hbA) hbC); have XC : Blk wC w.heap.size 31 #[.int .i64 y, .int .i64 mo, .int .i64 d, .int .i64 h, .int .i64 mi, .int .i64 s, .int .i64 ms, .int .i64 o] := (by first | exact XA.below hbC XA.lt | exact XB.below hbC XB.lt); generalize stAt (i - r) o = qq at HS; obtain ⟨⟨y', mo', d', h', mi', s', ms', o'⟩, ok⟩ := qq; simp only [S8.v]))
      all_goals
        go_wp2_with fail
        refine bodyPost_ret (by simp [results, Tryd.results11, go_sem, cell_sp hsC]; try rfl) rfl ?_
        exact ⟨by rw [HS.out]; rfl, brow HC hsz _⟩
    · have e1 : IntKind.i64.wrap (i - r) = i - r := IntWalk.i64_in _ (by omega)
      go_wp2_with fail
      go_region_held3 (fun w' => w'.cell? ⟨w.heap.size, 0, none⟩ = some (.int .i64 y) ∧ w'.cell? ⟨w.heap.size, 1, none⟩ = some (.int .i64 mo) ∧ w'.cell? ⟨w.heap.size, 2, none⟩ = some (.int .i64 d) ∧ w'.cell? ⟨w.heap.size, 3, none⟩ = some (.int .i64 h) ∧ w'.cell? ⟨w.heap.size, 4, none⟩ = some (.int .i64 mi) ∧ w'.cell? ⟨w.heap.size, 5, none⟩ = some (.int .i64 s) ∧ w'.cell? ⟨w.heap.size, 6, none⟩ = some (.int .i64 ms) ∧ w'.cell? ⟨w.heap.size, 7, none⟩ = some (.int .i64 o)) (first | exact st8 X1.out.drew | exact st8 XA | exact st8 XB | exact st8 XC | exact st8 (XC.setRow_far (by omega) _)) (first | (go_at_call 31; refine (hI _).mono ?_; rintro e wA ⟨rfl, hbA⟩; have XA : Blk wA w.heap.size 31 #[.int .i64 y, .int .i64 mo, .int .i64 d, .int .i64 h, .int .i64 mi, .int .i64 s, .int .i64 ms, .int .i64 o] := (by first | exact X1.out.drew.below hbA X1.out.lt | exact XB.below hbA XB.lt); have hzA := XA.lt) | (go_at_call 32; refine (hR _).mono ?_; rintro e wB ⟨rfl, hbB⟩; have XB : Blk wB w.heap.size 31 #[.int .i64 y, .int .i64 mo, .int .i64 d, .int .i64 h, .int .i64 mi, .int .i64 s, .int .i64 ms, .int .i64 o] := (by first | exact X1.out.drew.below hbB X1.out.lt | exact XA.below hbB XA.lt); have hzB := XB.lt) | (go_at_call 30; refine (spec_stampAt _ _ _).mono ?_; rintro e wC ⟨rfl, hbC⟩; have HC : Below w.heap.size w wC := (by first | exact bto (bto (bto (bdrew H1) hbA) hbB) hbC | exact bto (bto (bto (bdrew H1) hbB) hbA) hbC); have hsC : Sp wC (w.heap.size + 1) := (by first | exact sp_below (sp_below (sp_below (sp_drew hsp) hbA) hbB) hbC | exact sp_below (sp_below (sp_below (sp_drew hsp) hbB) hbA) hbC); have XC : Blk wC w.heap.size 31 #[.int .i64 y, .int .i64 mo, .int .i64 d, .int .i64 h, .int .i64 mi, .int .i64 s, .int .i64 ms, .int .i64 o] := (by first | exact XA.below hbC XA.lt | exact XB.below hbC XB.lt); generalize stAt (i - r) o = qq at HS; obtain ⟨⟨y', mo', d', h', mi', s', ms', o'⟩, ok⟩ := qq; simp only [S8.v]))
      all_goals
        go_wp2_with fail
        refine bodyPost_ret (by simp [results, Tryd.results11, go_sem, cell_sp hsC]; try rfl) rfl ?_
        exact ⟨by rw [HS.out]; rfl, brow HC hsz _⟩

set_option maxRecDepth 100000 in
set_option maxHeartbeats 4000000 in
theorem spec_up (x : S8) (u : Int) (w : World) :
    Calls Tryd.prog 15 #[.agg x.v, .int .i64 u] w (RetS (rnd upW x u) w) := by
  obtain ⟨y, mo, d, h, mi, s, ms, o⟩ := x
  have R0 := (Blk.newE (W := w.alloc (.cells #[.int .i64 y, .int .i64 mo, .int .i64 d, .int .i64 h, .int .i64 mi, .int .i64 s, .int .i64 ms, .int .i64 o] 31)) (g := w.heap.size + 1) (t := 31) (cs := #[.int .i64 0, .int .i64 0, .int .i64 0, .int .i64 0, .int .i64 0, .int .i64 0, .int .i64 0, .int .i64 0]) (by simp))
  have X0 := (Blk.new w 31 #[.int .i64 y, .int .i64 mo, .int .i64 d, .int .i64 h, .int .i64 mi, .int .i64 s, .int .i64 ms, .int .i64 o]).alloc (.cells #[.int .i64 0, .int .i64 0, .int .i64 0, .int .i64 0, .int .i64 0, .int .i64 0, .int .i64 0, .int .i64 0] 31)
  have B0 := bal (bal (Below.refl w.heap.size w) (.cells #[.int .i64 y, .int .i64 mo, .int .i64 d, .int .i64 h, .int .i64 mi, .int .i64 s, .int .i64 ms, .int .i64 o] 31)) (.cells #[.int .i64 0, .int .i64 0, .int .i64 0, .int .i64 0, .int .i64 0, .int .i64 0, .int .i64 0, .int .i64 0] 31)
  simp only [S8.v]
  go_enter Tryd.func15, Tryd.ntmps15
  go_wp2_with fail
  refine (spec_ok ⟨y, mo, d, h, mi, s, ms, o⟩ u _).mono ?_
  rintro e w1 ⟨rfl, hb1⟩
  have H1 : Below w.heap.size w w1 := bto B0 hb1
  have hsp := (R0.below hb1 R0.lt).sp rfl
  have hz := hsp.choose_spec.2.lt
  have X1 := hide (X0.below hb1 X0.lt)
  have hsz : w.heap.size ≤ w.heap.size + 1 := Nat.le_succ _
  have hxl : w.heap.size < w1.heap.size := by omega
  have x0 := X1.out.cell 0
  have x1 := X1.out.cell 1
  have x2 := X1.out.cell 2
  have x3 := X1.out.cell 3
  have x4 := X1.out.cell 4
  have x5 := X1.out.cell 5
  have x6 := X1.out.cell 6
  have x7 := X1.out.cell 7
  simp at x0 x1 x2 x3 x4 x5 x6 x7
  clear R0 X0 B0 hb1
  cases hv : (S8.ok ⟨y, mo, d, h, mi, s, ms, o⟩ && unB u) with
  | false =>
    have HS := hide (rnd_no (way := upW) hv)
    go_wp2_with fail
    refine bodyPost_ret (by simp [results, Tryd.results15, go_sem, cell_sp hsp]; try rfl) rfl ?_
    exact ⟨by rw [HS.out]; rfl, brow H1 hsz _⟩
  | true =>
    simp only [Bool.and_eq_true] at hv
    obtain ⟨hx, hu⟩ := hv
    have hib := S8.ins_bd hx
    obtain ⟨i, ei⟩ : ∃ i, i = S8.ins ⟨y, mo, d, h, mi, s, ms, o⟩ := ⟨_, rfl⟩
    obtain ⟨r, er⟩ : ∃ r, r = cms h mi s ms % u := ⟨_, rfl⟩
    have hI : ∀ W : World, Calls Tryd.prog 31 #[.agg #[.int .i64 y, .int .i64 mo, .int .i64 d, .int .i64 h, .int .i64 mi, .int .i64 s, .int .i64 ms, .int .i64 o]] W fun e w' => e = .returned (.int .i64 i) ∧ Below W.heap.size W w' := fun W => by rw [ei]; exact spec_l12i ⟨y, mo, d, h, mi, s, ms, o⟩ W hx
    have hR : ∀ W : World, Calls Tryd.prog 32 #[.agg #[.int .i64 y, .int .i64 mo, .int .i64 d, .int .i64 h, .int .i64 mi, .int .i64 s, .int .i64 ms, .int .i64 o], .int .i64 u] W fun e w' => e = .returned (.int .i64 r) ∧ Below W.heap.size W w' := fun W => by rw [er]; exact spec_rest ⟨y, mo, d, h, mi, s, ms, o⟩ u W hx hu
    have HS := hide (show rnd upW ⟨y, mo, d, h, mi, s, ms, o⟩ u = stAt (i + -r % u) o by rw [rnd_yes hx hu]; show stAt (_ - 60000 * S8.o ⟨y, mo, d, h, mi, s, ms, o⟩) _ = _; rw [up_neg ⟨y, mo, d, h, mi, s, ms, o⟩ hu, ei, er])
    have hr0 : 0 ≤ r := by rw [er]; exact Int.emod_nonneg _ (by have := unB_iff.1 hu; omega)
    have hr1 : r < u := by rw [er]; exact Int.emod_lt_of_pos _ (by have := unB_iff.1 hu; omega)
    rw [← ei] at hib
    clear ei er
    have HU := hide (unB_iff.1 hu)
    clear hx hu
    rcases HU.out with rfl | rfl | rfl | rfl
    · have e0 : IntKind.i64.wrap (1000 - r) = 1000 - r := IntWalk.i64_in _ (by omega)
      have e2 : (1000 - r).tmod 1000 = (1000 - r) % 1000 := Int.tmod_eq_emod_of_nonneg (by omega)
      have e1 : IntKind.i64.wrap (i + -r % 1000) = i + -r % 1000 := IntWalk.i64_in _ (by omega)
      go_wp2_with fail
      go_region_held3 (fun w' => w'.cell? ⟨w.heap.size, 0, none⟩ = some (.int .i64 y) ∧ w'.cell? ⟨w.heap.size, 1, none⟩ = some (.int .i64 mo) ∧ w'.cell? ⟨w.heap.size, 2, none⟩ = some (.int .i64 d) ∧ w'.cell? ⟨w.heap.size, 3, none⟩ = some (.int .i64 h) ∧ w'.cell? ⟨w.heap.size, 4, none⟩ = some (.int .i64 mi) ∧ w'.cell? ⟨w.heap.size, 5, none⟩ = some (.int .i64 s) ∧ w'.cell? ⟨w.heap.size, 6, none⟩ = some (.int .i64 ms) ∧ w'.cell? ⟨w.heap.size, 7, none⟩ = some (.int .i64 o)) (first | exact st8 X1.out.drew | exact st8 XA | exact st8 XB | exact st8 XC | exact st8 (XC.setRow_far (by omega) _)) (first | (go_at_call 31; refine (hI _).mono ?_; rintro e wA ⟨rfl, hbA⟩; have XA : Blk wA w.heap.size 31 #[.int .i64 y, .int .i64 mo, .int .i64 d, .int .i64 h, .int .i64 mi, .int .i64 s, .int .i64 ms, .int .i64 o] := (by first | exact X1.out.drew.below hbA X1.out.lt | exact XB.below hbA XB.lt); have hzA := XA.lt) | (go_at_call 32; refine (hR _).mono ?_; rintro e wB ⟨rfl, hbB⟩; have XB : Blk wB w.heap.size 31 #[.int .i64 y, .int .i64 mo, .int .i64 d, .int .i64 h, .int .i64 mi, .int .i64 s, .int .i64 ms, .int .i64 o] := (by first | exact X1.out.drew.below hbB X1.out.lt | exact XA.below hbB XA.lt); have hzB := XB.lt) | (go_at_call 30; refine (spec_stampAt _ _ _).mono ?_; rintro e wC ⟨rfl, hbC⟩; have HC : Below w.heap.size w wC := (by first | exact bto (bto (bto (bdrew H1) hbA) hbB) hbC | exact bto (bto (bto (bdrew H1) hbB) hbA) hbC); have hsC : Sp wC (w.heap.size + 1) := (by first | exact sp_below (sp_below (sp_below (sp_drew hsp) hbA) hbB) hbC | exact sp_below (sp_below (sp_below (sp_drew hsp) hbB) hbA) hbC); have XC : Blk wC w.heap.size 31 #[.int .i64 y, .int .i64 mo, .int .i64 d, .int .i64 h, .int .i64 mi, .int .i64 s, .int .i64 ms, .int .i64 o] := (by first | exact XA.below hbC XA.lt | exact XB.below hbC XB.lt); generalize stAt (i + -r % 1000) o = qq at HS; obtain ⟨⟨y', mo', d', h', mi', s', ms', o'⟩, ok⟩ := qq; simp only [S8.v]))
      all_goals
        go_wp2_with fail
        refine bodyPost_ret (by simp [results, Tryd.results15, go_sem, cell_sp hsC]; try rfl) rfl ?_
        exact ⟨by rw [HS.out]; rfl, brow HC hsz _⟩
    · have e0 : IntKind.i64.wrap (60000 - r) = 60000 - r := IntWalk.i64_in _ (by omega)
      have e2 : (60000 - r).tmod 60000 = (60000 - r) % 60000 := Int.tmod_eq_emod_of_nonneg (by omega)
      have e1 : IntKind.i64.wrap (i + -r % 60000) = i + -r % 60000 := IntWalk.i64_in _ (by omega)
      go_wp2_with fail
      go_region_held3 (fun w' => w'.cell? ⟨w.heap.size, 0, none⟩ = some (.int .i64 y) ∧ w'.cell? ⟨w.heap.size, 1, none⟩ = some (.int .i64 mo) ∧ w'.cell? ⟨w.heap.size, 2, none⟩ = some (.int .i64 d) ∧ w'.cell? ⟨w.heap.size, 3, none⟩ = some (.int .i64 h) ∧ w'.cell? ⟨w.heap.size, 4, none⟩ = some (.int .i64 mi) ∧ w'.cell? ⟨w.heap.size, 5, none⟩ = some (.int .i64 s) ∧ w'.cell? ⟨w.heap.size, 6, none⟩ = some (.int .i64 ms) ∧ w'.cell? ⟨w.heap.size, 7, none⟩ = some (.int .i64 o)) (first | exact st8 X1.out.drew | exact st8 XA | exact st8 XB | exact st8 XC | exact st8 (XC.setRow_far (by omega) _)) (first | (go_at_call 31; refine (hI _).mono ?_; rintro e wA ⟨rfl, hbA⟩; have XA : Blk wA w.heap.size 31 #[.int .i64 y, .int .i64 mo, .int .i64 d, .int .i64 h, .int .i64 mi, .int .i64 s, .int .i64 ms, .int .i64 o] := (by first | exact X1.out.drew.below hbA X1.out.lt | exact XB.below hbA XB.lt); have hzA := XA.lt) | (go_at_call 32; refine (hR _).mono ?_; rintro e wB ⟨rfl, hbB⟩; have XB : Blk wB w.heap.size 31 #[.int .i64 y, .int .i64 mo, .int .i64 d, .int .i64 h, .int .i64 mi, .int .i64 s, .int .i64 ms, .int .i64 o] := (by first | exact X1.out.drew.below hbB X1.out.lt | exact XA.below hbB XA.lt); have hzB := XB.lt) | (go_at_call 30; refine (spec_stampAt _ _ _).mono ?_; rintro e wC ⟨rfl, hbC⟩; have HC : Below w.heap.size w wC := (by first | exact bto (bto (bto (bdrew H1) hbA) hbB) hbC | exact bto (bto (bto (bdrew H1) hbB) hbA) hbC); have hsC : Sp wC (w.heap.size + 1) := (by first | exact sp_below (sp_below (sp_below (sp_drew hsp) hbA) hbB) hbC | exact sp_below (sp_below (sp_below (sp_drew hsp) hbB) hbA) hbC); have XC : Blk wC w.heap.size 31 #[.int .i64 y, .int .i64 mo, .int .i64 d, .int .i64 h, .int .i64 mi, .int .i64 s, .int .i64 ms, .int .i64 o] := (by first | exact XA.below hbC XA.lt | exact XB.below hbC XB.lt); generalize stAt (i + -r % 60000) o = qq at HS; obtain ⟨⟨y', mo', d', h', mi', s', ms', o'⟩, ok⟩ := qq; simp only [S8.v]))
      all_goals
        go_wp2_with fail
        refine bodyPost_ret (by simp [results, Tryd.results15, go_sem, cell_sp hsC]; try rfl) rfl ?_
        exact ⟨by rw [HS.out]; rfl, brow HC hsz _⟩
    · have e0 : IntKind.i64.wrap (3600000 - r) = 3600000 - r := IntWalk.i64_in _ (by omega)
      have e2 : (3600000 - r).tmod 3600000 = (3600000 - r) % 3600000 := Int.tmod_eq_emod_of_nonneg (by omega)
      have e1 : IntKind.i64.wrap (i + -r % 3600000) = i + -r % 3600000 := IntWalk.i64_in _ (by omega)
      go_wp2_with fail
      go_region_held3 (fun w' => w'.cell? ⟨w.heap.size, 0, none⟩ = some (.int .i64 y) ∧ w'.cell? ⟨w.heap.size, 1, none⟩ = some (.int .i64 mo) ∧ w'.cell? ⟨w.heap.size, 2, none⟩ = some (.int .i64 d) ∧ w'.cell? ⟨w.heap.size, 3, none⟩ = some (.int .i64 h) ∧ w'.cell? ⟨w.heap.size, 4, none⟩ = some (.int .i64 mi) ∧ w'.cell? ⟨w.heap.size, 5, none⟩ = some (.int .i64 s) ∧ w'.cell? ⟨w.heap.size, 6, none⟩ = some (.int .i64 ms) ∧ w'.cell? ⟨w.heap.size, 7, none⟩ = some (.int .i64 o)) (first | exact st8 X1.out.drew | exact st8 XA | exact st8 XB | exact st8 XC | exact st8 (XC.setRow_far (by omega) _)) (first | (go_at_call 31; refine (hI _).mono ?_; rintro e wA ⟨rfl, hbA⟩; have XA : Blk wA w.heap.size 31 #[.int .i64 y, .int .i64 mo, .int .i64 d, .int .i64 h, .int .i64 mi, .int .i64 s, .int .i64 ms, .int .i64 o] := (by first | exact X1.out.drew.below hbA X1.out.lt | exact XB.below hbA XB.lt); have hzA := XA.lt) | (go_at_call 32; refine (hR _).mono ?_; rintro e wB ⟨rfl, hbB⟩; have XB : Blk wB w.heap.size 31 #[.int .i64 y, .int .i64 mo, .int .i64 d, .int .i64 h, .int .i64 mi, .int .i64 s, .int .i64 ms, .int .i64 o] := (by first | exact X1.out.drew.below hbB X1.out.lt | exact XA.below hbB XA.lt); have hzB := XB.lt) | (go_at_call 30; refine (spec_stampAt _ _ _).mono ?_; rintro e wC ⟨rfl, hbC⟩; have HC : Below w.heap.size w wC := (by first | exact bto (bto (bto (bdrew H1) hbA) hbB) hbC | exact bto (bto (bto (bdrew H1) hbB) hbA) hbC); have hsC : Sp wC (w.heap.size + 1) := (by first | exact sp_below (sp_below (sp_below (sp_drew hsp) hbA) hbB) hbC | exact sp_below (sp_below (sp_below (sp_drew hsp) hbB) hbA) hbC); have XC : Blk wC w.heap.size 31 #[.int .i64 y, .int .i64 mo, .int .i64 d, .int .i64 h, .int .i64 mi, .int .i64 s, .int .i64 ms, .int .i64 o] := (by first | exact XA.below hbC XA.lt | exact XB.below hbC XB.lt); generalize stAt (i + -r % 3600000) o = qq at HS; obtain ⟨⟨y', mo', d', h', mi', s', ms', o'⟩, ok⟩ := qq; simp only [S8.v]))
      all_goals
        go_wp2_with fail
        refine bodyPost_ret (by simp [results, Tryd.results15, go_sem, cell_sp hsC]; try rfl) rfl ?_
        exact ⟨by rw [HS.out]; rfl, brow HC hsz _⟩
    · have e0 : IntKind.i64.wrap (86400000 - r) = 86400000 - r := IntWalk.i64_in _ (by omega)
      have e2 : (86400000 - r).tmod 86400000 = (86400000 - r) % 86400000 := Int.tmod_eq_emod_of_nonneg (by omega)
      have e1 : IntKind.i64.wrap (i + -r % 86400000) = i + -r % 86400000 := IntWalk.i64_in _ (by omega)
      go_wp2_with fail
      go_region_held3 (fun w' => w'.cell? ⟨w.heap.size, 0, none⟩ = some (.int .i64 y) ∧ w'.cell? ⟨w.heap.size, 1, none⟩ = some (.int .i64 mo) ∧ w'.cell? ⟨w.heap.size, 2, none⟩ = some (.int .i64 d) ∧ w'.cell? ⟨w.heap.size, 3, none⟩ = some (.int .i64 h) ∧ w'.cell? ⟨w.heap.size, 4, none⟩ = some (.int .i64 mi) ∧ w'.cell? ⟨w.heap.size, 5, none⟩ = some (.int .i64 s) ∧ w'.cell? ⟨w.heap.size, 6, none⟩ = some (.int .i64 ms) ∧ w'.cell? ⟨w.heap.size, 7, none⟩ = some (.int .i64 o)) (first | exact st8 X1.out.drew | exact st8 XA | exact st8 XB | exact st8 XC | exact st8 (XC.setRow_far (by omega) _)) (first | (go_at_call 31; refine (hI _).mono ?_; rintro e wA ⟨rfl, hbA⟩; have XA : Blk wA w.heap.size 31 #[.int .i64 y, .int .i64 mo, .int .i64 d, .int .i64 h, .int .i64 mi, .int .i64 s, .int .i64 ms, .int .i64 o] := (by first | exact X1.out.drew.below hbA X1.out.lt | exact XB.below hbA XB.lt); have hzA := XA.lt) | (go_at_call 32; refine (hR _).mono ?_; rintro e wB ⟨rfl, hbB⟩; have XB : Blk wB w.heap.size 31 #[.int .i64 y, .int .i64 mo, .int .i64 d, .int .i64 h, .int .i64 mi, .int .i64 s, .int .i64 ms, .int .i64 o] := (by first | exact X1.out.drew.below hbB X1.out.lt | exact XA.below hbB XA.lt); have hzB := XB.lt) | (go_at_call 30; refine (spec_stampAt _ _ _).mono ?_; rintro e wC ⟨rfl, hbC⟩; have HC : Below w.heap.size w wC := (by first | exact bto (bto (bto (bdrew H1) hbA) hbB) hbC | exact bto (bto (bto (bdrew H1) hbB) hbA) hbC); have hsC : Sp wC (w.heap.size + 1) := (by first | exact sp_below (sp_below (sp_below (sp_drew hsp) hbA) hbB) hbC | exact sp_below (sp_below (sp_below (sp_drew hsp) hbB) hbA) hbC); have XC : Blk wC w.heap.size 31 #[.int .i64 y, .int .i64 mo, .int .i64 d, .int .i64 h, .int .i64 mi, .int .i64 s, .int .i64 ms, .int .i64 o] := (by first | exact XA.below hbC XA.lt | exact XB.below hbC XB.lt); generalize stAt (i + -r % 86400000) o = qq at HS; obtain ⟨⟨y', mo', d', h', mi', s', ms', o'⟩, ok⟩ := qq; simp only [S8.v]))
      all_goals
        go_wp2_with fail
        refine bodyPost_ret (by simp [results, Tryd.results15, go_sem, cell_sp hsC]; try rfl) rfl ?_
        exact ⟨by rw [HS.out]; rfl, brow HC hsz _⟩

set_option maxRecDepth 100000 in
set_option maxHeartbeats 4000000 in
theorem spec_near (x : S8) (u : Int) (w : World) :
    Calls Tryd.prog 17 #[.agg x.v, .int .i64 u] w (RetS (rnd nrW x u) w) := by
  obtain ⟨y, mo, d, h, mi, s, ms, o⟩ := x
  have R0 := (Blk.newE (W := w.alloc (.cells #[.int .i64 y, .int .i64 mo, .int .i64 d, .int .i64 h, .int .i64 mi, .int .i64 s, .int .i64 ms, .int .i64 o] 31)) (g := w.heap.size + 1) (t := 31) (cs := #[.int .i64 0, .int .i64 0, .int .i64 0, .int .i64 0, .int .i64 0, .int .i64 0, .int .i64 0, .int .i64 0]) (by simp))
  have X0 := (Blk.new w 31 #[.int .i64 y, .int .i64 mo, .int .i64 d, .int .i64 h, .int .i64 mi, .int .i64 s, .int .i64 ms, .int .i64 o]).alloc (.cells #[.int .i64 0, .int .i64 0, .int .i64 0, .int .i64 0, .int .i64 0, .int .i64 0, .int .i64 0, .int .i64 0] 31)
  have B0 := bal (bal (Below.refl w.heap.size w) (.cells #[.int .i64 y, .int .i64 mo, .int .i64 d, .int .i64 h, .int .i64 mi, .int .i64 s, .int .i64 ms, .int .i64 o] 31)) (.cells #[.int .i64 0, .int .i64 0, .int .i64 0, .int .i64 0, .int .i64 0, .int .i64 0, .int .i64 0, .int .i64 0] 31)
  simp only [S8.v]
  go_enter Tryd.func17, Tryd.ntmps17
  go_wp2_with fail
  refine (spec_ok ⟨y, mo, d, h, mi, s, ms, o⟩ u _).mono ?_
  rintro e w1 ⟨rfl, hb1⟩
  have H1 : Below w.heap.size w w1 := bto B0 hb1
  have hsp := (R0.below hb1 R0.lt).sp rfl
  have hz := hsp.choose_spec.2.lt
  have X1 := hide (X0.below hb1 X0.lt)
  have hsz : w.heap.size ≤ w.heap.size + 1 := Nat.le_succ _
  have hxl : w.heap.size < w1.heap.size := by omega
  have x0 := X1.out.cell 0
  have x1 := X1.out.cell 1
  have x2 := X1.out.cell 2
  have x3 := X1.out.cell 3
  have x4 := X1.out.cell 4
  have x5 := X1.out.cell 5
  have x6 := X1.out.cell 6
  have x7 := X1.out.cell 7
  simp at x0 x1 x2 x3 x4 x5 x6 x7
  clear R0 X0 B0 hb1
  cases hv : (S8.ok ⟨y, mo, d, h, mi, s, ms, o⟩ && unB u) with
  | false =>
    have HS := hide (show rnd nrW ⟨y, mo, d, h, mi, s, ms, o⟩ u = rnd upW ⟨y, mo, d, h, mi, s, ms, o⟩ u by rw [rnd_no hv, rnd_no hv])
    go_wp2_with fail
    refine (spec_up ⟨y, mo, d, h, mi, s, ms, o⟩ u _).mono ?_
    rintro e w3 ⟨rfl, hb3⟩
    have hs3 := sp_below hsp hb3
    have H3 := bto H1 hb3
    generalize rnd upW ⟨y, mo, d, h, mi, s, ms, o⟩ u = r at HS
    obtain ⟨⟨y', mo', d', h', mi', s', ms', o'⟩, ok⟩ := r
    simp only [S8.v]
    go_wp2_with fail
    refine bodyPost_ret (by simp [results, Tryd.results17, go_sem, cell_sp hs3]; try rfl) rfl ?_
    exact ⟨by rw [HS.out]; rfl, brow H3 hsz _⟩
  | true =>
    simp only [Bool.and_eq_true] at hv
    obtain ⟨hx, hu⟩ := hv
    go_wp2_with fail
    refine (spec_rest ⟨y, mo, d, h, mi, s, ms, o⟩ u _ hx hu).mono ?_
    rintro e w2 ⟨rfl, hb2⟩
    have hs2 := sp_below hsp hb2
    have H2 := bto H1 hb2
    have X2 := hide (X1.out.below hb2 X1.out.lt)
    have x0 := X2.out.cell 0
    have x1 := X2.out.cell 1
    have x2 := X2.out.cell 2
    have x3 := X2.out.cell 3
    have x4 := X2.out.cell 4
    have x5 := X2.out.cell 5
    have x6 := X2.out.cell 6
    have x7 := X2.out.cell 7
    simp at x0 x1 x2 x3 x4 x5 x6 x7
    obtain ⟨r, er⟩ : ∃ r, r = cms h mi s ms % u := ⟨_, rfl⟩
    have hr0 : 0 ≤ r := by rw [er]; exact Int.emod_nonneg _ (by have := unB_iff.1 hu; omega)
    have hr1 : r < u := by rw [er]; exact Int.emod_lt_of_pos _ (by have := unB_iff.1 hu; omega)
    have hub : 0 < u ∧ u ≤ 86400000 := by have := unB_iff.1 hu; omega
    by_cases hlt : 2 * r < u
    · have HS := hide (show rnd nrW ⟨y, mo, d, h, mi, s, ms, o⟩ u = rnd dnW ⟨y, mo, d, h, mi, s, ms, o⟩ u by rw [rnd_yes hx hu, rnd_yes hx hu, nr_dn _ hu (by rw [er] at hlt; exact hlt)])
      clear hx hu
      rw [← er]
      clear er
      go_wp2_with fail
      refine (spec_down ⟨y, mo, d, h, mi, s, ms, o⟩ u _).mono ?_
      rintro e w3 ⟨rfl, hb3⟩
      have hs3 := sp_below hs2 hb3
      have H3 := bto H2 hb3
      generalize rnd dnW ⟨y, mo, d, h, mi, s, ms, o⟩ u = r at HS
      obtain ⟨⟨y', mo', d', h', mi', s', ms', o'⟩, ok⟩ := r
      simp only [S8.v]
      go_wp2_with fail
      refine bodyPost_ret (by simp [results, Tryd.results17, go_sem, cell_sp hs3]; try rfl) rfl ?_
      exact ⟨by rw [HS.out]; rfl, brow H3 hsz _⟩
    · have HS := hide (show rnd nrW ⟨y, mo, d, h, mi, s, ms, o⟩ u = rnd upW ⟨y, mo, d, h, mi, s, ms, o⟩ u by rw [rnd_yes hx hu, rnd_yes hx hu, nr_up _ hu (by rw [er] at hlt; exact hlt)])
      clear hx hu
      rw [← er]
      clear er
      go_wp2_with fail
      refine (spec_up ⟨y, mo, d, h, mi, s, ms, o⟩ u _).mono ?_
      rintro e w3 ⟨rfl, hb3⟩
      have hs3 := sp_below hs2 hb3
      have H3 := bto H2 hb3
      generalize rnd upW ⟨y, mo, d, h, mi, s, ms, o⟩ u = r at HS
      obtain ⟨⟨y', mo', d', h', mi', s', ms', o'⟩, ok⟩ := r
      simp only [S8.v]
      go_wp2_with fail
      refine bodyPost_ret (by simp [results, Tryd.results17, go_sem, cell_sp hs3]; try rfl) rfl ?_
      exact ⟨by rw [HS.out]; rfl, brow H3 hsz _⟩
end Go.Proofs.YtlhobebaobaoiaaDoor
