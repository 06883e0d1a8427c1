/- Contracts: rounding (the program's). -/
import Derived.Test.YtlhobebaobaoiaaDoorSt4
import Derived.Test.YtlhobebaobaoiaaDoorRoPl
namespace Go.Proofs.YtlhobebaobaoiaaDoor
open Go.RowKit
attribute [local go_sem] lt_cell cell_sp sp_alloc sp_drew sp_new storeP_sp
attribute [local go_sem ↓] storeP_eq

theorem unit_valid (u : Int) (w : World) : Calls Tryd.prog 64 #[.int .i64 u] w fun e w' => e = .returned (.bool (unB u)) ∧ w = w' := by
  go_enter Tryd.func64, Tryd.ntmps64
  go_wp2
  all_goals
    go_ret
    exact ⟨ret_bool (by simp [unB, Bool.or_assoc, *]), rfl⟩
theorem unit_down (u l : Int) (w : World) (hu : unB u = true) (h0 : 0 ≤ l) (h1 : l ≤ 400000000000000) : Calls Tryd.prog 36 #[.int .i64 u, .int .i64 l] w fun e w' => e = .returned (.int .i64 (dnW u l)) ∧ w = w' := by
  unfold dnW
  rcases unB_iff.1 hu with rfl | rfl | rfl | rfl
  all_goals
    clear hu
    go_enter Tryd.func36, Tryd.ntmps36
    go_wp2
    go_ret
    exact ⟨ret_int (by try omega), rfl⟩
theorem unit_up (u l : Int) (w : World) (hu : unB u = true) (h0 : 0 ≤ l) (h1 : l ≤ 315537984000000) : Calls Tryd.prog 39 #[.int .i64 u, .int .i64 l] w fun e w' => e = .returned (.int .i64 (upW u l)) ∧ w = w' := by
  have hub : 0 < u ∧ u ≤ 86400000 := by have := unB_iff.1 hu; omega
  go_enter Tryd.func39, Tryd.ntmps39
  go_wp2_with (go_at_call 36; refine (unit_down u (l + u - 1) _ hu (by omega) (by omega)).mono ?_; rintro e w' ⟨rfl, rfl⟩)
  go_ret
  exact ⟨rfl, rfl⟩
theorem unit_near (u l : Int) (w : World) (hu : unB u = true) (h0 : 0 ≤ l) (h1 : l ≤ 315537984000000) : Calls Tryd.prog 40 #[.int .i64 u, .int .i64 l] w fun e w' => e = .returned (.int .i64 (nrW u l)) ∧ w = w' := by
  have hub : 0 < u ∧ u ≤ 86400000 := by have := unB_iff.1 hu; omega
  go_enter Tryd.func40, Tryd.ntmps40
  go_wp2_with (go_at_call 36; refine (unit_down u (l + u / 2) _ hu (by omega) (by omega)).mono ?_; rintro e w' ⟨rfl, rfl⟩)
  go_ret
  exact ⟨rfl, rfl⟩
theorem way_bd {u l : Int} (hu : unB u = true) (h0 : 0 ≤ l) (h1 : l ≤ 315537984000000) : (0 ≤ dnW u l ∧ dnW u l ≤ 400000000000000) ∧ (0 ≤ upW u l ∧ upW u l ≤ 400000000000000) ∧ 0 ≤ nrW u l ∧ nrW u l ≤ 400000000000000 := by
  unfold upW nrW dnW
  rcases unB_iff.1 hu with rfl | rfl | rfl | rfl <;> omega

set_option maxRecDepth 100000 in
set_option maxHeartbeats 4000000 in
theorem rounded_down (x : S8) (u : Int) (w : World) (hM : MD w) (cap : Array Value) (hcap : cap = #[]) :
    Calls Tryd.prog 35 #[.agg x.v, .int .i64 u, .func (.func 36) #[.int .i64 u] cap] w (RetS (rnd dnW x u) w) := by
  subst hcap
  obtain ⟨y, mo, d, h, mi, s, ms, o⟩ := x
  have R0 := (Blk.newE (W := w.alloc (.cells #[.int .i64 y, .int .i64 mo, .int .i64 d, .int .i64 h, .int .i64 mi, .int .i64 s, .int .i64 ms, .int .i64 o] 31)) (g := w.heap.size + 1) (t := 31) (cs := #[.int .i64 0, .int .i64 0, .int .i64 0, .int .i64 0, .int .i64 0, .int .i64 0, .int .i64 0, .int .i64 0]) (by simp))
  have X0 := (Blk.new w 31 #[.int .i64 y, .int .i64 mo, .int .i64 d, .int .i64 h, .int .i64 mi, .int .i64 s, .int .i64 ms, .int .i64 o]).alloc (.cells #[.int .i64 0, .int .i64 0, .int .i64 0, .int .i64 0, .int .i64 0, .int .i64 0, .int .i64 0, .int .i64 0] 31)
  have B0 := bal (bal (Below.refl w.heap.size w) (.cells #[.int .i64 y, .int .i64 mo, .int .i64 d, .int .i64 h, .int .i64 mi, .int .i64 s, .int .i64 ms, .int .i64 o] 31)) (.cells #[.int .i64 0, .int .i64 0, .int .i64 0, .int .i64 0, .int .i64 0, .int .i64 0, .int .i64 0, .int .i64 0] 31)
  have M0 := (hM.alloc (.cells #[.int .i64 y, .int .i64 mo, .int .i64 d, .int .i64 h, .int .i64 mi, .int .i64 s, .int .i64 ms, .int .i64 o] 31)).alloc (.cells #[.int .i64 0, .int .i64 0, .int .i64 0, .int .i64 0, .int .i64 0, .int .i64 0, .int .i64 0, .int .i64 0] 31)
  simp only [S8.v]
  go_enter Tryd.func35, Tryd.ntmps35
  go_wp2_with fail
  refine (impl_sv ⟨y, mo, d, h, mi, s, ms, o⟩ _ M0).mono ?_
  rintro e w1 ⟨rfl, hb1⟩
  have M1 := M0.below hb1
  have H1 : Below w.heap.size w w1 := bto B0 hb1
  have hsp := (R0.below hb1 R0.lt).sp rfl
  have hz := hsp.choose_spec.2.lt
  have X1 := hide (X0.below hb1 X0.lt)
  have hsz : w.heap.size ≤ w.heap.size + 1 := Nat.le_succ _
  have hxl : w.heap.size < w1.heap.size := by omega
  have x0 := X1.out.cell 0
  have x1 := X1.out.cell 1
  have x2 := X1.out.cell 2
  have x3 := X1.out.cell 3
  have x4 := X1.out.cell 4
  have x5 := X1.out.cell 5
  have x6 := X1.out.cell 6
  have x7 := X1.out.cell 7
  simp at x0 x1 x2 x3 x4 x5 x6 x7
  clear R0 X0 B0 hb1
  cases hx : S8.ok ⟨y, mo, d, h, mi, s, ms, o⟩ with
  | false =>
    have HS := hide (rnd_no (way := dnW) (x := ⟨y, mo, d, h, mi, s, ms, o⟩) (u := u) (by rw [hx]; rfl))
    go_wp2_with fail
    refine bodyPost_ret (by simp [results, Tryd.results35, go_sem, cell_sp hsp]; try rfl) rfl ?_
    exact ⟨by rw [HS.out]; rfl, brow H1 hsz _⟩
  | true =>
    cases hu : unB u with
    | false =>
      have HS := hide (rnd_no (way := dnW) (x := ⟨y, mo, d, h, mi, s, ms, o⟩) (u := u) (by rw [hx, hu]; rfl))
      go_wp2_with (go_at_call 64; refine (unit_valid _ _).mono ?_; rintro e w' ⟨rfl, rfl⟩)
      refine bodyPost_ret (by simp [results, Tryd.results35, go_sem, cell_sp hsp]; try rfl) rfl ?_
      exact ⟨by rw [HS.out]; rfl, brow H1 hsz _⟩
    | true =>
      have hlb := S8.loc_bd hx
      have hvd : vld y mo d = true := (S8.ok_in hx).1
      have hcv : cvB h mi s ms = true := (S8.ok_in hx).2.1
      have ho : offB o = true := (S8.ok_in hx).2.2
      have hn := num_bd hvd
      have hob := offB_iff.1 ho
      obtain ⟨L, eL⟩ : ∃ L, L = S8.loc ⟨y, mo, d, h, mi, s, ms, o⟩ := ⟨_, rfl⟩
      have hL : ∀ W : World, Calls Tryd.prog 67 #[.agg #[.int .i64 y, .int .i64 mo, .int .i64 d, .int .i64 (num y mo d), .int .i64 h, .int .i64 mi, .int .i64 s, .int .i64 ms, .int .i64 o]] W fun e w' => e = .returned (.int .i64 L) ∧ Below W.heap.size W w' := fun W => by rw [eL]; exact local_any y mo d (num y mo d) h mi s ms o W hcv hn.1 hn.2
      obtain ⟨q, eq⟩ : ∃ q, q = dnW u L := ⟨_, rfl⟩
      have hq0 : 0 ≤ q ∧ q ≤ 400000000000000 := by rw [eq]; exact (way_bd hu (by omega) (by omega)).1
      have hW : ∀ W : World, Calls Tryd.prog 36 #[.int .i64 u, .int .i64 L] W fun e w' => e = .returned (.int .i64 q) ∧ W = w' := fun W => by rw [eq]; exact unit_down u L W hu (by omega) (by omega)
      have HS := hide (show rnd dnW ⟨y, mo, d, h, mi, s, ms, o⟩ u = stAt (q - 60000 * o) o by rw [rnd_yes hx hu, eq, eL])
      clear eL eq hlb
      have e1 : IntKind.i64.wrap (60000 * o) = 60000 * o := IntWalk.i64_in _ (by omega)
      have e2 : IntKind.i64.wrap (q - 60000 * o) = q - 60000 * o := IntWalk.i64_in _ (by omega)
      go_wp2_with (go_at_call 64; refine (unit_valid _ _).mono ?_; rintro e w' ⟨rfl, rfl⟩)
      go_region_held3 (fun w' => w'.cell? ⟨w.heap.size, 0, none⟩ = some (.int .i64 y) ∧ w'.cell? ⟨w.heap.size, 1, none⟩ = some (.int .i64 mo) ∧ w'.cell? ⟨w.heap.size, 2, none⟩ = some (.int .i64 d) ∧ w'.cell? ⟨w.heap.size, 3, none⟩ = some (.int .i64 h) ∧ w'.cell? ⟨w.heap.size, 4, none⟩ = some (.int .i64 mi) ∧ w'.cell? ⟨w.heap.size, 5, none⟩ = some (.int .i64 s) ∧ w'.cell? ⟨w.heap.size, 6, none⟩ = some (.int .i64 ms) ∧ w'.cell? ⟨w.heap.size, 7, none⟩ = some (.int .i64 o)) (first | exact st8 X1.out.drew | exact st8 XA | exact st8 XB | exact st8 XC | exact st8 (XC.setRow_far (by omega) _)) (first | (go_at_call 66; refine (momentOf_any y mo d h mi s ms o _ (by exact M1.drew) hvd).mono ?_; rintro e wA ⟨rfl, hbA⟩; have XA := X1.out.drew.below hbA X1.out.lt) | (go_at_call 67; refine (hL _).mono ?_; rintro e wB ⟨rfl, hbB⟩; have XB := XA.below hbB XA.lt) | (go_at_call 36; refine (hW _).mono ?_; rintro e wW ⟨rfl, rfl⟩) | (go_at_call 65; refine (impl_stampAt _ _ _ (hM.below (bto (bto (bdrew H1) hbA) hbB))).mono ?_; rintro e wC ⟨rfl, hbC⟩; have HC := bto (bto (bto (bdrew H1) hbA) hbB) hbC; have hsC := sp_below (sp_below (sp_below (sp_drew hsp) hbA) hbB) hbC; have XC := XB.below hbC XB.lt; generalize stAt (q - 60000 * o) o = qq at HS; obtain ⟨⟨y', mo', d', h', mi', s', ms', o'⟩, ok⟩ := qq; simp only [S8.v]))
      all_goals
        go_wp2_with fail
        refine bodyPost_ret (by simp [results, Tryd.results35, go_sem, cell_sp hsC]; try rfl) rfl ?_
        exact ⟨by rw [HS.out]; rfl, brow HC hsz _⟩

set_option maxRecDepth 100000 in
set_option maxHeartbeats 4000000 in
theorem impl_down (x : S8) (u : Int) (w : World) (hM : MD w) :
    Calls Tryd.prog 13 #[.agg x.v, .int .i64 u] w (RetS (rnd dnW x u) w) := by
  have hmf : ∀ (fn : Fn) (first cap : Array Value) (w : World), (Instr.makeFunc fn first cap).run Tryd.prog w = .ok (.func fn first cap) w := fun _ _ _ _ => rfl
  obtain ⟨y, mo, d, h, mi, s, ms, o⟩ := x
  have R0 := (Blk.newE (W := w.alloc (.cells #[.int .i64 y, .int .i64 mo, .int .i64 d, .int .i64 h, .int .i64 mi, .int .i64 s, .int .i64 ms, .int .i64 o] 31)) (g := w.heap.size + 1) (t := 31) (cs := #[.int .i64 0, .int .i64 0, .int .i64 0, .int .i64 0, .int .i64 0, .int .i64 0, .int .i64 0, .int .i64 0]) (by simp))
  have X0 := (Blk.new w 31 #[.int .i64 y, .int .i64 mo, .int .i64 d, .int .i64 h, .int .i64 mi, .int .i64 s, .int .i64 ms, .int .i64 o]).alloc (.cells #[.int .i64 0, .int .i64 0, .int .i64 0, .int .i64 0, .int .i64 0, .int .i64 0, .int .i64 0, .int .i64 0] 31)
  have B0 := bal (bal (Below.refl w.heap.size w) (.cells #[.int .i64 y, .int .i64 mo, .int .i64 d, .int .i64 h, .int .i64 mi, .int .i64 s, .int .i64 ms, .int .i64 o] 31)) (.cells #[.int .i64 0, .int .i64 0, .int .i64 0, .int .i64 0, .int .i64 0, .int .i64 0, .int .i64 0, .int .i64 0] 31)
  have M0 := (hM.alloc (.cells #[.int .i64 y, .int .i64 mo, .int .i64 d, .int .i64 h, .int .i64 mi, .int .i64 s, .int .i64 ms, .int .i64 o] 31)).alloc (.cells #[.int .i64 0, .int .i64 0, .int .i64 0, .int .i64 0, .int .i64 0, .int .i64 0, .int .i64 0, .int .i64 0] 31)
  simp only [S8.v]
  go_enter Tryd.func13, Tryd.ntmps13
  go_wp2_with fail
  refine (rounded_down ⟨y, mo, d, h, mi, s, ms, o⟩ u _ M0 _ rfl).mono ?_
  rintro e w1 ⟨rfl, hb1⟩
  have H1 : Below w.heap.size w w1 := bto B0 hb1
  have hsp := (R0.below hb1 R0.lt).sp rfl
  have hz := hsp.choose_spec.2.lt
  have hsz : w.heap.size ≤ w.heap.size + 1 := Nat.le_succ _
  clear R0 X0 B0 hb1
  obtain ⟨r, er⟩ : ∃ r, r = rnd dnW ⟨y, mo, d, h, mi, s, ms, o⟩ u := ⟨_, rfl⟩
  rw [← er]
  obtain ⟨⟨y', mo', d', h', mi', s', ms', o'⟩, ok⟩ := r
  have HS := hide er
  clear er
  simp only [S8.v]
  go_wp2_with fail
  refine bodyPost_ret (by simp [results, Tryd.results13, go_sem, cell_sp hsp]; try rfl) rfl ?_
  exact ⟨by first | rfl | (rw [← HS.out]; rfl), brow H1 hsz _⟩

set_option maxRecDepth 100000 in
set_option maxHeartbeats 4000000 in
theorem rounded_up (x : S8) (u : Int) (w : World) (hM : MD w) (cap : Array Value) (hcap : cap = #[]) :
    Calls Tryd.prog 35 #[.agg x.v, .int .i64 u, .func (.func 39) #[.int .i64 u] cap] w (RetS (rnd upW x u) w) := by
  subst hcap
  obtain ⟨y, mo, d, h, mi, s, ms, o⟩ := x
  have R0 := (Blk.newE (W := w.alloc (.cells #[.int .i64 y, .int .i64 mo, .int .i64 d, .int .i64 h, .int .i64 mi, .int .i64 s, .int .i64 ms, .int .i64 o] 31)) (g := w.heap.size + 1) (t := 31) (cs := #[.int .i64 0, .int .i64 0, .int .i64 0, .int .i64 0, .int .i64 0, .int .i64 0, .int .i64 0, .int .i64 0]) (by simp))
  have X0 := (Blk.new w 31 #[.int .i64 y, .int .i64 mo, .int .i64 d, .int .i64 h, .int .i64 mi, .int .i64 s, .int .i64 ms, .int .i64 o]).alloc (.cells #[.int .i64 0, .int .i64 0, .int .i64 0, .int .i64 0, .int .i64 0, .int .i64 0, .int .i64 0, .int .i64 0] 31)
  have B0 := bal (bal (Below.refl w.heap.size w) (.cells #[.int .i64 y, .int .i64 mo, .int .i64 d, .int .i64 h, .int .i64 mi, .int .i64 s, .int .i64 ms, .int .i64 o] 31)) (.cells #[.int .i64 0, .int .i64 0, .int .i64 0, .int .i64 0, .int .i64 0, .int .i64 0, .int .i64 0, .int .i64 0] 31)
  have M0 := (hM.alloc (.cells #[.int .i64 y, .int .i64 mo, .int .i64 d, .int .i64 h, .int .i64 mi, .int .i64 s, .int .i64 ms, .int .i64 o] 31)).alloc (.cells #[.int .i64 0, .int .i64 0, .int .i64 0, .int .i64 0, .int .i64 0, .int .i64 0, .int .i64 0, .int .i64 0] 31)
  simp only [S8.v]
  go_enter Tryd.func35, Tryd.ntmps35
  go_wp2_with fail
  refine (impl_sv ⟨y, mo, d, h, mi, s, ms, o⟩ _ M0).mono ?_
  rintro e w1 ⟨rfl, hb1⟩
  have M1 := M0.below hb1
  have H1 : Below w.heap.size w w1 := bto B0 hb1
  have hsp := (R0.below hb1 R0.lt).sp rfl
  have hz := hsp.choose_spec.2.lt
  have X1 := hide (X0.below hb1 X0.lt)
  have hsz : w.heap.size ≤ w.heap.size + 1 := Nat.le_succ _
  have hxl : w.heap.size < w1.heap.size := by omega
  have x0 := X1.out.cell 0
  have x1 := X1.out.cell 1
  have x2 := X1.out.cell 2
  have x3 := X1.out.cell 3
  have x4 := X1.out.cell 4
  have x5 := X1.out.cell 5
  have x6 := X1.out.cell 6
  have x7 := X1.out.cell 7
  simp at x0 x1 x2 x3 x4 x5 x6 x7
  clear R0 X0 B0 hb1
  cases hx : S8.ok ⟨y, mo, d, h, mi, s, ms, o⟩ with
  | false =>
    have HS := hide (rnd_no (way := upW) (x := ⟨y, mo, d, h, mi, s, ms, o⟩) (u := u) (by rw [hx]; rfl))
    go_wp2_with fail
    refine bodyPost_ret (by simp [results, Tryd.results35, go_sem, cell_sp hsp]; try rfl) rfl ?_
    exact ⟨by rw [HS.out]; rfl, brow H1 hsz _⟩
  | true =>
    cases hu : unB u with
    | false =>
      have HS := hide (rnd_no (way := upW) (x := ⟨y, mo, d, h, mi, s, ms, o⟩) (u := u) (by rw [hx, hu]; rfl))
      go_wp2_with (go_at_call 64; refine (unit_valid _ _).mono ?_; rintro e w' ⟨rfl, rfl⟩)
      refine bodyPost_ret (by simp [results, Tryd.results35, go_sem, cell_sp hsp]; try rfl) rfl ?_
      exact ⟨by rw [HS.out]; rfl, brow H1 hsz _⟩
    | true =>
      have hlb := S8.loc_bd hx
      have hvd : vld y mo d = true := (S8.ok_in hx).1
      have hcv : cvB h mi s ms = true := (S8.ok_in hx).2.1
      have ho : offB o = true := (S8.ok_in hx).2.2
      have hn := num_bd hvd
      have hob := offB_iff.1 ho
      obtain ⟨L, eL⟩ : ∃ L, L = S8.loc ⟨y, mo, d, h, mi, s, ms, o⟩ := ⟨_, rfl⟩
      have hL : ∀ W : World, Calls Tryd.prog 67 #[.agg #[.int .i64 y, .int .i64 mo, .int .i64 d, .int .i64 (num y mo d), .int .i64 h, .int .i64 mi, .int .i64 s, .int .i64 ms, .int .i64 o]] W fun e w' => e = .returned (.int .i64 L) ∧ Below W.heap.size W w' := fun W => by rw [eL]; exact local_any y mo d (num y mo d) h mi s ms o W hcv hn.1 hn.2
      obtain ⟨q, eq⟩ : ∃ q, q = upW u L := ⟨_, rfl⟩
      have hq0 : 0 ≤ q ∧ q ≤ 400000000000000 := by rw [eq]; exact (way_bd hu (by omega) (by omega)).2.1
      have hW : ∀ W : World, Calls Tryd.prog 39 #[.int .i64 u, .int .i64 L] W fun e w' => e = .returned (.int .i64 q) ∧ W = w' := fun W => by rw [eq]; exact unit_up u L W hu (by omega) (by omega)
      have HS := hide (show rnd upW ⟨y, mo, d, h, mi, s, ms, o⟩ u = stAt (q - 60000 * o) o by rw [rnd_yes hx hu, eq, eL])
      clear eL eq hlb
      have e1 : IntKind.i64.wrap (60000 * o) = 60000 * o := IntWalk.i64_in _ (by omega)
      have e2 : IntKind.i64.wrap (q - 60000 * o) = q - 60000 * o := IntWalk.i64_in _ (by omega)
      go_wp2_with (go_at_call 64; refine (unit_valid _ _).mono ?_; rintro e w' ⟨rfl, rfl⟩)
      go_region_held3 (fun w' => w'.cell? ⟨w.heap.size, 0, none⟩ = some (.int .i64 y) ∧ w'.cell? ⟨w.heap.size, 1, none⟩ = some (.int .i64 mo) ∧ w'.cell? ⟨w.heap.size, 2, none⟩ = some (.int .i64 d) ∧ w'.cell? ⟨w.heap.size, 3, none⟩ = some (.int .i64 h) ∧ w'.cell? ⟨w.heap.size, 4, none⟩ = some (.int .i64 mi) ∧ w'.cell? ⟨w.heap.size, 5, none⟩ = some (.int .i64 s) ∧ w'.cell? ⟨w.heap.size, 6, none⟩ = some (.int .i64 ms) ∧ w'.cell? ⟨w.heap.size, 7, none⟩ = some (.int .i64 o)) (first | exact st8 X1.out.drew | exact st8 XA | exact st8 XB | exact st8 XC | exact st8 (XC.setRow_far (by omega) _)) (first | (go_at_call 66; refine (momentOf_any y mo d h mi s ms o _ (by exact M1.drew) hvd).mono ?_; rintro e wA ⟨rfl, hbA⟩; have XA := X1.out.drew.below hbA X1.out.lt) | (go_at_call 67; refine (hL _).mono ?_; rintro e wB ⟨rfl, hbB⟩; have XB := XA.below hbB XA.lt) | (go_at_call 39; refine (hW _).mono ?_; rintro e wW ⟨rfl, rfl⟩) | (go_at_call 65; refine (impl_stampAt _ _ _ (hM.below (bto (bto (bdrew H1) hbA) hbB))).mono ?_; rintro e wC ⟨rfl, hbC⟩; have HC := bto (bto (bto (bdrew H1) hbA) hbB) hbC; have hsC := sp_below (sp_below (sp_below (sp_drew hsp) hbA) hbB) hbC; have XC := XB.below hbC XB.lt; generalize stAt (q - 60000 * o) o = qq at HS; obtain ⟨⟨y', mo', d', h', mi', s', ms', o'⟩, ok⟩ := qq; simp only [S8.v]))
      all_goals
        go_wp2_with fail
        refine bodyPost_ret (by simp [results, Tryd.results35, go_sem, cell_sp hsC]; try rfl) rfl ?_
        exact ⟨by rw [HS.out]; rfl, brow HC hsz _⟩

set_option maxRecDepth 100000 in
set_option maxHeartbeats 4000000 in
theorem impl_up (x : S8) (u : Int) (w : World) (hM : MD w) :
    Calls Tryd.prog 16 #[.agg x.v, .int .i64 u] w (RetS (rnd upW x u) w) := by
  have hmf : ∀ (fn : Fn) (first cap : Array Value) (w : World), (Instr.makeFunc fn first cap).run Tryd.prog w = .ok (.func fn first cap) w := fun _ _ _ _ => rfl
  obtain ⟨y, mo, d, h, mi, s, ms, o⟩ := x
  have R0 := (Blk.newE (W := w.alloc (.cells #[.int .i64 y, .int .i64 mo, .int .i64 d, .int .i64 h, .int .i64 mi, .int .i64 s, .int .i64 ms, .int .i64 o] 31)) (g := w.heap.size + 1) (t := 31) (cs := #[.int .i64 0, .int .i64 0, .int .i64 0, .int .i64 0, .int .i64 0, .int .i64 0, .int .i64 0, .int .i64 0]) (by simp))
  have X0 := (Blk.new w 31 #[.int .i64 y, .int .i64 mo, .int .i64 d, .int .i64 h, .int .i64 mi, .int .i64 s, .int .i64 ms, .int .i64 o]).alloc (.cells #[.int .i64 0, .int .i64 0, .int .i64 0, .int .i64 0, .int .i64 0, .int .i64 0, .int .i64 0, .int .i64 0] 31)
  have B0 := bal (bal (Below.refl w.heap.size w) (.cells #[.int .i64 y, .int .i64 mo, .int .i64 d, .int .i64 h, .int .i64 mi, .int .i64 s, .int .i64 ms, .int .i64 o] 31)) (.cells #[.int .i64 0, .int .i64 0, .int .i64 0, .int .i64 0, .int .i64 0, .int .i64 0, .int .i64 0, .int .i64 0] 31)
  have M0 := (hM.alloc (.cells #[.int .i64 y, .int .i64 mo, .int .i64 d, .int .i64 h, .int .i64 mi, .int .i64 s, .int .i64 ms, .int .i64 o] 31)).alloc (.cells #[.int .i64 0, .int .i64 0, .int .i64 0, .int .i64 0, .int .i64 0, .int .i64 0, .int .i64 0, .int .i64 0] 31)
  simp only [S8.v]
  go_enter Tryd.func16, Tryd.ntmps16
  go_wp2_with fail
  refine (rounded_up ⟨y, mo, d, h, mi, s, ms, o⟩ u _ M0 _ rfl).mono ?_
  rintro e w1 ⟨rfl, hb1⟩
  have H1 : Below w.heap.size w w1 := bto B0 hb1
  have hsp := (R0.below hb1 R0.lt).sp rfl
  have hz := hsp.choose_spec.2.lt
  have hsz : w.heap.size ≤ w.heap.size + 1 := Nat.le_succ _
  clear R0 X0 B0 hb1
  obtain ⟨r, er⟩ : ∃ r, r = rnd upW ⟨y, mo, d, h, mi, s, ms, o⟩ u := ⟨_, rfl⟩
  rw [← er]
  obtain ⟨⟨y', mo', d', h', mi', s', ms', o'⟩, ok⟩ := r
  have HS := hide er
  clear er
  simp only [S8.v]
  go_wp2_with fail
  refine bodyPost_ret (by simp [results, Tryd.results16, go_sem, cell_sp hsp]; try rfl) rfl ?_
  exact ⟨by first | rfl | (rw [← HS.out]; rfl), brow H1 hsz _⟩

set_option maxRecDepth 100000 in
set_option maxHeartbeats 4000000 in
theorem rounded_near (x : S8) (u : Int) (w : World) (hM : MD w) (cap : Array Value) (hcap : cap = #[]) :
    Calls Tryd.prog 35 #[.agg x.v, .int .i64 u, .func (.func 40) #[.int .i64 u] cap] w (RetS (rnd nrW x u) w) := by
  subst hcap
  obtain ⟨y, mo, d, h, mi, s, ms, o⟩ := x
  have R0 := (Blk.newE (W := w.alloc (.cells #[.int .i64 y, .int .i64 mo, .int .i64 d, .int .i64 h, .int .i64 mi, .int .i64 s, .int .i64 ms, .int .i64 o] 31)) (g := w.heap.size + 1) (t := 31) (cs := #[.int .i64 0, .int .i64 0, .int .i64 0, .int .i64 0, .int .i64 0, .int .i64 0, .int .i64 0, .int .i64 0]) (by simp))
  have X0 := (Blk.new w 31 #[.int .i64 y, .int .i64 mo, .int .i64 d, .int .i64 h, .int .i64 mi, .int .i64 s, .int .i64 ms, .int .i64 o]).alloc (.cells #[.int .i64 0, .int .i64 0, .int .i64 0, .int .i64 0, .int .i64 0, .int .i64 0, .int .i64 0, .int .i64 0] 31)
  have B0 := bal (bal (Below.refl w.heap.size w) (.cells #[.int .i64 y, .int .i64 mo, .int .i64 d, .int .i64 h, .int .i64 mi, .int .i64 s, .int .i64 ms, .int .i64 o] 31)) (.cells #[.int .i64 0, .int .i64 0, .int .i64 0, .int .i64 0, .int .i64 0, .int .i64 0, .int .i64 0, .int .i64 0] 31)
  have M0 := (hM.alloc (.cells #[.int .i64 y, .int .i64 mo, .int .i64 d, .int .i64 h, .int .i64 mi, .int .i64 s, .int .i64 ms, .int .i64 o] 31)).alloc (.cells #[.int .i64 0, .int .i64 0, .int .i64 0, .int .i64 0, .int .i64 0, .int .i64 0, .int .i64 0, .int .i64 0] 31)
  simp only [S8.v]
  go_enter Tryd.func35, Tryd.ntmps35
  go_wp2_with fail
  refine (impl_sv ⟨y, mo, d, h, mi, s, ms, o⟩ _ M0).mono ?_
  rintro e w1 ⟨rfl, hb1⟩
  have M1 := M0.below hb1
  have H1 : Below w.heap.size w w1 := bto B0 hb1
  have hsp := (R0.below hb1 R0.lt).sp rfl
  have hz := hsp.choose_spec.2.lt
  have X1 := hide (X0.below hb1 X0.lt)
  have hsz : w.heap.size ≤ w.heap.size + 1 := Nat.le_succ _
  have hxl : w.heap.size < w1.heap.size := by omega
  have x0 := X1.out.cell 0
  have x1 := X1.out.cell 1
  have x2 := X1.out.cell 2
  have x3 := X1.out.cell 3
  have x4 := X1.out.cell 4
  have x5 := X1.out.cell 5
  have x6 := X1.out.cell 6
  have x7 := X1.out.cell 7
  simp at x0 x1 x2 x3 x4 x5 x6 x7
  clear R0 X0 B0 hb1
  cases hx : S8.ok ⟨y, mo, d, h, mi, s, ms, o⟩ with
  | false =>
    have HS := hide (rnd_no (way := nrW) (x := ⟨y, mo, d, h, mi, s, ms, o⟩) (u := u) (by rw [hx]; rfl))
    go_wp2_with fail
    refine bodyPost_ret (by simp [results, Tryd.results35, go_sem, cell_sp hsp]; try rfl) rfl ?_
    exact ⟨by rw [HS.out]; rfl, brow H1 hsz _⟩
  | true =>
    cases hu : unB u with
    | false =>
      have HS := hide (rnd_no (way := nrW) (x := ⟨y, mo, d, h, mi, s, ms, o⟩) (u := u) (by rw [hx, hu]; rfl))
      go_wp2_with (go_at_call 64; refine (unit_valid _ _).mono ?_; rintro e w' ⟨rfl, rfl⟩)
      refine bodyPost_ret (by simp [results, Tryd.results35, go_sem, cell_sp hsp]; try rfl) rfl ?_
      exact ⟨by rw [HS.out]; rfl, brow H1 hsz _⟩
    | true =>
      have hlb := S8.loc_bd hx
      have hvd : vld y mo d = true := (S8.ok_in hx).1
      have hcv : cvB h mi s ms = true := (S8.ok_in hx).2.1
      have ho : offB o = true := (S8.ok_in hx).2.2
      have hn := num_bd hvd
      have hob := offB_iff.1 ho
      obtain ⟨L, eL⟩ : ∃ L, L = S8.loc ⟨y, mo, d, h, mi, s, ms, o⟩ := ⟨_, rfl⟩
      have hL : ∀ W : World, Calls Tryd.prog 67 #[.agg #[.int .i64 y, .int .i64 mo, .int .i64 d, .int .i64 (num y mo d), .int .i64 h, .int .i64 mi, .int .i64 s, .int .i64 ms, .int .i64 o]] W fun e w' => e = .returned (.int .i64 L) ∧ Below W.heap.size W w' := fun W => by rw [eL]; exact local_any y mo d (num y mo d) h mi s ms o W hcv hn.1 hn.2
      obtain ⟨q, eq⟩ : ∃ q, q = nrW u L := ⟨_, rfl⟩
      have hq0 : 0 ≤ q ∧ q ≤ 400000000000000 := by rw [eq]; exact (way_bd hu (by omega) (by omega)).2.2
      have hW : ∀ W : World, Calls Tryd.prog 40 #[.int .i64 u, .int .i64 L] W fun e w' => e = .returned (.int .i64 q) ∧ W = w' := fun W => by rw [eq]; exact unit_near u L W hu (by omega) (by omega)
      have HS := hide (show rnd nrW ⟨y, mo, d, h, mi, s, ms, o⟩ u = stAt (q - 60000 * o) o by rw [rnd_yes hx hu, eq, eL])
      clear eL eq hlb
      have e1 : IntKind.i64.wrap (60000 * o) = 60000 * o := IntWalk.i64_in _ (by omega)
      have e2 : IntKind.i64.wrap (q - 60000 * o) = q - 60000 * o := IntWalk.i64_in _ (by omega)
      go_wp2_with (go_at_call 64; refine (unit_valid _ _).mono ?_; rintro e w' ⟨rfl, rfl⟩)
      go_region_held3 (fun w' => w'.cell? ⟨w.heap.size, 0, none⟩ = some (.int .i64 y) ∧ w'.cell? ⟨w.heap.size, 1, none⟩ = some (.int .i64 mo) ∧ w'.cell? ⟨w.heap.size, 2, none⟩ = some (.int .i64 d) ∧ w'.cell? ⟨w.heap.size, 3, none⟩ = some (.int .i64 h) ∧ w'.cell? ⟨w.heap.size, 4, none⟩ = some (.int .i64 mi) ∧ w'.cell? ⟨w.heap.size, 5, none⟩ = some (.int .i64 s) ∧ w'.cell? ⟨w.heap.size, 6, none⟩ = some (.int .i64 ms) ∧ w'.cell? ⟨w.heap.size, 7, none⟩ = some (.int .i64 o)) (first | exact st8 X1.out.drew | exact st8 XA | exact st8 XB | exact st8 XC | exact st8 (XC.setRow_far (by omega) _)) (first | (go_at_call 66; refine (momentOf_any y mo d h mi s ms o _ (by exact M1.drew) hvd).mono ?_; rintro e wA ⟨rfl, hbA⟩; have XA := X1.out.drew.below hbA X1.out.lt) | (go_at_call 67; refine (hL _).mono ?_; rintro e wB ⟨rfl, hbB⟩; have XB := XA.below hbB XA.lt) | (go_at_call 40; refine (hW _).mono ?_; rintro e wW ⟨rfl, rfl⟩) | (go_at_call 65; refine (impl_stampAt _ _ _ (hM.below (bto (bto (bdrew H1) hbA) hbB))).mono ?_; rintro e wC ⟨rfl, hbC⟩; have HC := bto (bto (bto (bdrew H1) hbA) hbB) hbC; have hsC := sp_below (sp_below (sp_below (sp_drew hsp) hbA) hbB) hbC; have XC := XB.below hbC XB.lt; generalize stAt (q - 60000 * o) o = qq at HS; obtain ⟨⟨y', mo', d', h', mi', s', ms', o'⟩, ok⟩ := qq; simp only [S8.v]))
      all_goals
        go_wp2_with fail
        refine bodyPost_ret (by simp [results, Tryd.results35, go_sem, cell_sp hsC]; try rfl) rfl ?_
        exact ⟨by rw [HS.out]; rfl, brow HC hsz _⟩

set_option maxRecDepth 100000 in
set_option maxHeartbeats 4000000 in
theorem impl_near (x : S8) (u : Int) (w : World) (hM : MD w) :
    Calls Tryd.prog 18 #[.agg x.v, .int .i64 u] w (RetS (rnd nrW x u) w) := by
  have hmf : ∀ (fn : Fn) (first cap : Array Value) (w : World), (Instr.makeFunc fn first cap).run Tryd.prog w = .ok (.func fn first cap) w := fun _ _ _ _ => rfl
  obtain ⟨y, mo, d, h, mi, s, ms, o⟩ := x
  have R0 := (Blk.newE (W := w.alloc (.cells #[.int .i64 y, .int .i64 mo, .int .i64 d, .int .i64 h, .int .i64 mi, .int .i64 s, .int .i64 ms, .int .i64 o] 31)) (g := w.heap.size + 1) (t := 31) (cs := #[.int .i64 0, .int .i64 0, .int .i64 0, .int .i64 0, .int .i64 0, .int .i64 0, .int .i64 0, .int .i64 0]) (by simp))
  have X0 := (Blk.new w 31 #[.int .i64 y, .int .i64 mo, .int .i64 d, .int .i64 h, .int .i64 mi, .int .i64 s, .int .i64 ms, .int .i64 o]).alloc (.cells #[.int .i64 0, .int .i64 0, .int .i64 0, .int .i64 0, .int .i64 0, .int .i64 0, .int .i64 0, .int .i64 0] 31)
  have B0 := bal (bal (Below.refl w.heap.size w) (.cells #[.int .i64 y, .int .i64 mo, .int .i64 d, .int .i64 h, .int .i64 mi, .int .i64 s, .int .i64 ms, .int .i64 o] 31)) (.cells #[.int .i64 0, .int .i64 0, .int .i64 0, .int .i64 0, .int .i64 0, .int .i64 0, .int .i64 0, .int .i64 0] 31)
  have M0 := (hM.alloc (.cells #[.int .i64 y, .int .i64 mo, .int .i64 d, .int .i64 h, .int .i64 mi, .int .i64 s, .int .i64 ms, .int .i64 o] 31)).alloc (.cells #[.int .i64 0, .int .i64 0, .int .i64 0, .int .i64 0, .int .i64 0, .int .i64 0, .int .i64 0, .int .i64 0] 31)
  simp only [S8.v]
  go_enter Tryd.func18, Tryd.ntmps18
  go_wp2_with fail
  refine (rounded_near ⟨y, mo, d, h, mi, s, ms, o⟩ u _ M0 _ rfl).mono ?_
  rintro e w1 ⟨rfl, hb1⟩
  have H1 : Below w.heap.size w w1 := bto B0 hb1
  have hsp := (R0.below hb1 R0.lt).sp rfl
  have hz := hsp.choose_spec.2.lt
  have hsz : w.heap.size ≤ w.heap.size + 1 := Nat.le_succ _
  clear R0 X0 B0 hb1
  obtain ⟨r, er⟩ : ∃ r, r = rnd nrW ⟨y, mo, d, h, mi, s, ms, o⟩ u := ⟨_, rfl⟩
  rw [← er]
  obtain ⟨⟨y', mo', d', h', mi', s', ms', o'⟩, ok⟩ := r
  have HS := hide er
  clear er
  simp only [S8.v]
  go_wp2_with fail
  refine bodyPost_ret (by simp [results, Tryd.results18, go_sem, cell_sp hsp]; try rfl) rfl ?_
  exact ⟨by first | rfl | (rw [← HS.out]; rfl), brow H1 hsz _⟩
end Go.Proofs.YtlhobebaobaoiaaDoor
