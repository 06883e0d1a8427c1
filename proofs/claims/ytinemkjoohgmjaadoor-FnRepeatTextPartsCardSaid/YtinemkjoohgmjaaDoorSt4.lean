/- A moment stored whole; the instant of a valid stamp (the program's). -/
import Derived.Test.YtinemkjoohgmjaaDoorSt3
namespace Go.Proofs.YtinemkjoohgmjaaDoor
open Go.RowKit

/-- Block g is a moment's. -/
def Mp (w : World) (g : Nat) : Prop := ∃ c : Array Value, c.size = 9 ∧ Blk w g 115 c
theorem Blk.mp {w : World} {g : Nat} {c : Array Value} (h : Blk w g 115 c) (hc : c.size = 9) : Mp w g := ⟨c, hc, h⟩
theorem mp_alloc {w : World} {g : Nat} (o : Obj) (h : Mp w g) : Mp (w.alloc o) g := by
  obtain ⟨c, hc, h⟩ := h
  exact ⟨c, hc, h.alloc o⟩
theorem mp_drew {w : World} {g : Nat} (h : Mp w g) : Mp w.drew g := h
theorem mp_below {w w' : World} {g : Nat} (h : Mp w g) (hb : Below w.heap.size w w') : Mp w' g := by
  obtain ⟨c, hc, h⟩ := h
  exact ⟨c, hc, h.below hb h.lt⟩
theorem mpI : (Tryd.prog.info? 115).map (·.size) = some 9 := by kernel_rfl
def storeM (a x : Value) : Sem Unit := Instr.storeAt 115 a x
theorem storeM_eq (a x : Value) : Instr.storeAt 115 a x = storeM a x := rfl
theorem storeM_mp {w : World} {g : Nat} (h : Mp w g) (v0 v1 v2 v3 v4 v5 v6 v7 v8 : Int) :
    (storeM (.pointer (some ⟨g, 0, none⟩)) (.agg #[.int .i64 v0, .int .i64 v1, .int .i64 v2, .int .i64 v3, .int .i64 v4, .int .i64 v5, .int .i64 v6, .int .i64 v7, .int .i64 v8])).run Tryd.prog w = .ok () (w.setRow g #[.int .i64 v0, .int .i64 v1, .int .i64 v2, .int .i64 v3, .int .i64 v4, .int .i64 v5, .int .i64 v6, .int .i64 v7, .int .i64 v8]) := by
  obtain ⟨c, hc, h⟩ := h
  have hr := run_storeVar_row (P := Tryd.prog) w g 115 115 c #[.int .i64 v0, .int .i64 v1, .int .i64 v2, .int .i64 v3, .int .i64 v4, .int .i64 v5, .int .i64 v6, .int .i64 v7, .int .i64 v8] h mpI (by simpa using hc) (by simp [Value.oneCell'])
  simp only [storeM, Instr.storeAt, Instr.sureAddr, Sem.run_bind, Sem.run_pure, Result.andThen]
  exact hr
theorem cell_mp {w : World} {g : Nat} (h : Mp w g) (cs : Array Value) (j : Nat) : (w.setRow g cs).cell? ⟨g, j, none⟩ = cs[j]? := by
  obtain ⟨c, hc, h⟩ := h
  exact cell_setRow_same w g j c cs _ (0, 0) h

theorem st8 {w : World} {g : Nat} {y mo d h mi s ms o : Int} (H : Blk w g 28 #[.int .i64 y, .int .i64 mo, .int .i64 d, .int .i64 h, .int .i64 mi, .int .i64 s, .int .i64 ms, .int .i64 o]) : w.cell? ⟨g, 0, none⟩ = some (.int .i64 y) ∧ w.cell? ⟨g, 1, none⟩ = some (.int .i64 mo) ∧ w.cell? ⟨g, 2, none⟩ = some (.int .i64 d) ∧ w.cell? ⟨g, 3, none⟩ = some (.int .i64 h) ∧ w.cell? ⟨g, 4, none⟩ = some (.int .i64 mi) ∧ w.cell? ⟨g, 5, none⟩ = some (.int .i64 s) ∧ w.cell? ⟨g, 6, none⟩ = some (.int .i64 ms) ∧ w.cell? ⟨g, 7, none⟩ = some (.int .i64 o) := ⟨H.cell 0, H.cell 1, H.cell 2, H.cell 3, H.cell 4, H.cell 5, H.cell 6, H.cell 7⟩
section
attribute [local go_sem] cell_mp mp_alloc mp_drew storeM_mp
attribute [local go_sem ↓] storeM_eq
set_option maxRecDepth 100000 in
set_option maxHeartbeats 2000000 in
theorem momentOf_any (y mo d h mi s ms o : Int) (w : World) (hM : MD w) (hv : vld y mo d = true) :
    Calls Tryd.prog 70 #[.agg #[.int .i64 y, .int .i64 mo, .int .i64 d, .int .i64 h, .int .i64 mi, .int .i64 s, .int .i64 ms, .int .i64 o]] w fun e w' =>
      e = .returned (.agg #[.int .i64 y, .int .i64 mo, .int .i64 d, .int .i64 (num y mo d), .int .i64 h, .int .i64 mi, .int .i64 s, .int .i64 ms, .int .i64 o]) ∧ Below w.heap.size w w' := by
  have X0 := (Blk.new w 28 #[.int .i64 y, .int .i64 mo, .int .i64 d, .int .i64 h, .int .i64 mi, .int .i64 s, .int .i64 ms, .int .i64 o])
  go_enter Tryd.func70, Tryd.ntmps70
  go_wp2_with fail
  have X1 := hide (X0.alloc (.cells #[.int .i64 0, .int .i64 0, .int .i64 0, .int .i64 0, .int .i64 0, .int .i64 0, .int .i64 0, .int .i64 0, .int .i64 0] 115))
  have hmp := (Blk.newE (W := w.alloc (.cells #[.int .i64 y, .int .i64 mo, .int .i64 d, .int .i64 h, .int .i64 mi, .int .i64 s, .int .i64 ms, .int .i64 o] 28)) (g := w.heap.size + 1) (t := 115) (cs := #[.int .i64 0, .int .i64 0, .int .i64 0, .int .i64 0, .int .i64 0, .int .i64 0, .int .i64 0, .int .i64 0, .int .i64 0]) (by simp)).mp rfl
  have B0 := bal (bal (Below.refl w.heap.size w) (.cells #[.int .i64 y, .int .i64 mo, .int .i64 d, .int .i64 h, .int .i64 mi, .int .i64 s, .int .i64 ms, .int .i64 o] 28)) (.cells #[.int .i64 0, .int .i64 0, .int .i64 0, .int .i64 0, .int .i64 0, .int .i64 0, .int .i64 0, .int .i64 0, .int .i64 0] 115)
  have MM := (hM.alloc (.cells #[.int .i64 y, .int .i64 mo, .int .i64 d, .int .i64 h, .int .i64 mi, .int .i64 s, .int .i64 ms, .int .i64 o] 28)).alloc (.cells #[.int .i64 0, .int .i64 0, .int .i64 0, .int .i64 0, .int .i64 0, .int .i64 0, .int .i64 0, .int .i64 0, .int .i64 0] 115)
  go_region_held3 (fun w' => w'.cell? ⟨w.heap.size, 0, none⟩ = some (.int .i64 y) ∧ w'.cell? ⟨w.heap.size, 1, none⟩ = some (.int .i64 mo) ∧ w'.cell? ⟨w.heap.size, 2, none⟩ = some (.int .i64 d) ∧ w'.cell? ⟨w.heap.size, 3, none⟩ = some (.int .i64 h) ∧ w'.cell? ⟨w.heap.size, 4, none⟩ = some (.int .i64 mi) ∧ w'.cell? ⟨w.heap.size, 5, none⟩ = some (.int .i64 s) ∧ w'.cell? ⟨w.heap.size, 6, none⟩ = some (.int .i64 ms) ∧ w'.cell? ⟨w.heap.size, 7, none⟩ = some (.int .i64 o)) (first | exact st8 (X1.out.drew) | exact st8 X2 | exact st8 (X2.setRow_far (by omega) _)) (first | (go_at_call 88; refine (impl_number y mo d _ (by exact MM.drew) hv).mono ?_; rintro e w2 ⟨rfl, hb2⟩; have X2 := X1.out.drew.below hb2 X1.out.lt; have hm2 := mp_below (mp_drew hmp) hb2))
  all_goals
    go_wp2_with fail
    refine bodyPost_ret (by simp [results, Tryd.results70, go_sem, cell_mp hm2]; try rfl) rfl ?_
    exact ⟨rfl, brow (bto (bdrew B0) hb2) (Nat.le_succ _) _⟩
end
theorem mm5 {w : World} {g : Nat} {y mo d n h mi s ms o : Int} (H : Blk w g 115 #[.int .i64 y, .int .i64 mo, .int .i64 d, .int .i64 n, .int .i64 h, .int .i64 mi, .int .i64 s, .int .i64 ms, .int .i64 o]) : w.cell? ⟨g, 3, none⟩ = some (.int .i64 n) ∧ w.cell? ⟨g, 4, none⟩ = some (.int .i64 h) ∧ w.cell? ⟨g, 5, none⟩ = some (.int .i64 mi) ∧ w.cell? ⟨g, 6, none⟩ = some (.int .i64 s) ∧ w.cell? ⟨g, 7, none⟩ = some (.int .i64 ms) := ⟨H.cell 3, H.cell 4, H.cell 5, H.cell 6, H.cell 7⟩
theorem local_any (y mo d n h mi s ms o : Int) (w : World) (hc : cvB h mi s ms = true) (hn : 0 ≤ n) (hn2 : n ≤ 3652058) :
    Calls Tryd.prog 89 #[.agg #[.int .i64 y, .int .i64 mo, .int .i64 d, .int .i64 n, .int .i64 h, .int .i64 mi, .int .i64 s, .int .i64 ms, .int .i64 o]] w fun e w' => e = .returned (.int .i64 (n * 86400000 + cms h mi s ms)) ∧ Below w.heap.size w w' := by
  have hb := cvB_bd hc
  have X1 := hide (Blk.new w 115 #[.int .i64 y, .int .i64 mo, .int .i64 d, .int .i64 n, .int .i64 h, .int .i64 mi, .int .i64 s, .int .i64 ms, .int .i64 o])
  have B0 := bal (Below.refl w.heap.size w) (.cells #[.int .i64 y, .int .i64 mo, .int .i64 d, .int .i64 n, .int .i64 h, .int .i64 mi, .int .i64 s, .int .i64 ms, .int .i64 o] 115)
  obtain ⟨c, hcc⟩ : ∃ c, c = cms h mi s ms := ⟨_, rfl⟩
  have HC := hide hcc
  rw [← hcc] at hb ⊢
  clear hcc
  go_enter Tryd.func89, Tryd.ntmps89
  go_wp2_with fail
  go_region_held3 (fun w' => w'.cell? ⟨w.heap.size, 3, none⟩ = some (.int .i64 n) ∧ w'.cell? ⟨w.heap.size, 4, none⟩ = some (.int .i64 h) ∧ w'.cell? ⟨w.heap.size, 5, none⟩ = some (.int .i64 mi) ∧ w'.cell? ⟨w.heap.size, 6, none⟩ = some (.int .i64 s) ∧ w'.cell? ⟨w.heap.size, 7, none⟩ = some (.int .i64 ms)) (first | exact mm5 X1.out.drew | exact mm5 X2) (first | (go_at_call 104; refine (millis_any _ _ _ _ _ hc).mono ?_; rintro e w2 ⟨rfl, hb2⟩; have X2 := X1.out.drew.below hb2 X1.out.lt; rw [← HC.out]))
  all_goals
    go_wp2_with fail
    go_ret
    exact ⟨ret_int (by (try rw [IntWalk.i64_in (86400000 * n) (by omega)]); (try rw [IntWalk.i64_in (86400000 * n + c) (by omega)]); omega), bto (bdrew B0) hb2⟩
theorem mm9 {w : World} {g : Nat} {y mo d n h mi s ms o : Int} (H : Blk w g 115 #[.int .i64 y, .int .i64 mo, .int .i64 d, .int .i64 n, .int .i64 h, .int .i64 mi, .int .i64 s, .int .i64 ms, .int .i64 o]) : w.cell? ⟨g, 0, none⟩ = some (.int .i64 y) ∧ w.cell? ⟨g, 1, none⟩ = some (.int .i64 mo) ∧ w.cell? ⟨g, 2, none⟩ = some (.int .i64 d) ∧ w.cell? ⟨g, 3, none⟩ = some (.int .i64 n) ∧ w.cell? ⟨g, 4, none⟩ = some (.int .i64 h) ∧ w.cell? ⟨g, 5, none⟩ = some (.int .i64 mi) ∧ w.cell? ⟨g, 6, none⟩ = some (.int .i64 s) ∧ w.cell? ⟨g, 7, none⟩ = some (.int .i64 ms) ∧ w.cell? ⟨g, 8, none⟩ = some (.int .i64 o) := ⟨H.cell 0, H.cell 1, H.cell 2, H.cell 3, H.cell 4, H.cell 5, H.cell 6, H.cell 7, H.cell 8⟩
theorem instant_any (y mo d n h mi s ms o : Int) (w : World) (hc : cvB h mi s ms = true) (hn : 0 ≤ n) (hn2 : n ≤ 3652058) (ho : offB o = true) :
    Calls Tryd.prog 71 #[.agg #[.int .i64 y, .int .i64 mo, .int .i64 d, .int .i64 n, .int .i64 h, .int .i64 mi, .int .i64 s, .int .i64 ms, .int .i64 o]] w fun e w' => e = .returned (.int .i64 (n * 86400000 + cms h mi s ms - 60000 * o)) ∧ Below w.heap.size w w' := by
  have hb := cvB_bd hc
  have hob := offB_iff.1 ho
  have X1 := hide (Blk.new w 115 #[.int .i64 y, .int .i64 mo, .int .i64 d, .int .i64 n, .int .i64 h, .int .i64 mi, .int .i64 s, .int .i64 ms, .int .i64 o])
  have B0 := bal (Below.refl w.heap.size w) (.cells #[.int .i64 y, .int .i64 mo, .int .i64 d, .int .i64 n, .int .i64 h, .int .i64 mi, .int .i64 s, .int .i64 ms, .int .i64 o] 115)
  obtain ⟨c, hcc⟩ : ∃ c, c = n * 86400000 + cms h mi s ms := ⟨_, rfl⟩
  have HC := hide hcc
  have hcb : 0 ≤ c ∧ c ≤ 315537984000000 := by omega
  rw [← hcc]
  clear hcc
  go_enter Tryd.func71, Tryd.ntmps71
  go_wp2_with fail
  go_region_held3 (fun w' => w'.cell? ⟨w.heap.size, 0, none⟩ = some (.int .i64 y) ∧ w'.cell? ⟨w.heap.size, 1, none⟩ = some (.int .i64 mo) ∧ w'.cell? ⟨w.heap.size, 2, none⟩ = some (.int .i64 d) ∧ w'.cell? ⟨w.heap.size, 3, none⟩ = some (.int .i64 n) ∧ w'.cell? ⟨w.heap.size, 4, none⟩ = some (.int .i64 h) ∧ w'.cell? ⟨w.heap.size, 5, none⟩ = some (.int .i64 mi) ∧ w'.cell? ⟨w.heap.size, 6, none⟩ = some (.int .i64 s) ∧ w'.cell? ⟨w.heap.size, 7, none⟩ = some (.int .i64 ms) ∧ w'.cell? ⟨w.heap.size, 8, none⟩ = some (.int .i64 o)) (first | exact mm9 X1.out.drew | exact mm9 X2) (first | (go_at_call 89; refine (local_any _ _ _ _ _ _ _ _ _ _ hc hn hn2).mono ?_; rintro e w2 ⟨rfl, hb2⟩; have X2 := X1.out.drew.below hb2 X1.out.lt; rw [← HC.out]))
  all_goals
    go_wp2_with fail
    go_ret
    exact ⟨ret_int (by (try rw [IntWalk.i64_in (60000 * o) (by omega)]); (try rw [IntWalk.i64_in (c - 60000 * o) (by omega)])), bto (bdrew B0) hb2⟩
theorem instantOf_any (x : S8) (w : World) (hM : MD w) (hok : x.ok = true) :
    Calls Tryd.prog 44 #[.agg x.v] w fun e w' => e = .returned (.int .i64 x.ins) ∧ Below w.heap.size w w' := by
  obtain ⟨h1, h2, h3⟩ := x.ok_in hok
  obtain ⟨y, mo, d, h, mi, s, ms, o⟩ := x
  have hn := num_bd h1
  have B0 := bal (Below.refl w.heap.size w) (.cells #[.int .i64 y, .int .i64 mo, .int .i64 d, .int .i64 h, .int .i64 mi, .int .i64 s, .int .i64 ms, .int .i64 o] 28)
  have HI := hide (show num y mo d * 86400000 + cms h mi s ms - 60000 * o = S8.ins ⟨y, mo, d, h, mi, s, ms, o⟩ from rfl)
  simp only [S8.v]
  go_enter Tryd.func44, Tryd.ntmps44
  go_wp2_with fail
  refine (momentOf_any _ _ _ _ _ _ _ _ _ (hM.alloc _) h1).mono ?_
  rintro e w1 ⟨rfl, hb1⟩
  go_wp2_with fail
  refine (instant_any _ _ _ _ _ _ _ _ _ _ h2 hn.1 hn.2 h3).mono ?_
  rintro e w2 ⟨rfl, hb2⟩
  rw [HI.out]
  go_wp2_with fail
  go_ret
  exact ⟨rfl, bto (bto B0 hb1) hb2⟩
end Go.Proofs.YtinemkjoohgmjaaDoor
