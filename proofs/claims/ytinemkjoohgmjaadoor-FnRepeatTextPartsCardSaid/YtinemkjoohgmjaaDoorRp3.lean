/- Contracts: the statements' own copies of periods and repeats. -/
import Derived.Test.YtinemkjoohgmjaaDoorSt8
import Derived.Deep.MidRow
namespace Go.Proofs.YtinemkjoohgmjaaDoor
open Go.RowKit

theorem toPeriod_any (p1 p2 p3 p4 p5 p6 : Int) (w : World) :
    Calls Tryd.prog 29 #[.agg #[.int .i64 p1, .int .i64 p2, .int .i64 p3, .int .i64 p4, .int .i64 p5, .int .i64 p6]] w fun e w' => e = .returned (.agg #[.int .i64 p1, .int .i64 p2, .int .i64 p3, .int .i64 p4, .int .i64 p5, .int .i64 p6]) ∧ Below w.heap.size w w' := by
  go_enter Tryd.func29, Tryd.ntmps29
  go_wp2
  go_returns
  exact ⟨rfl, by go_grown⟩
theorem perI : (Tryd.prog.info? 44).map (·.size) = some 6 := by kernel_rfl
theorem repI : (Tryd.prog.info? 46).map (·.size) = some 15 := by kernel_rfl
theorem Blk.there {w : World} {g : Nat} {t : TypeId} {c : Array Value} (h : Blk w g t c) (o n : Nat) (hn : o + n ≤ c.size) : w.there g o n := fun j hj => by
  refine ⟨?_, h.frozen _⟩
  rw [h.cell]
  simp
  omega
/-- Stores of a stamp, a period, a repeat into blocks that are known, kept shut from the walk's own steps. -/
def storeD (a x : Value) : Sem Unit := Instr.storeAt 44 a x
theorem storeD_eq (a x : Value) : Instr.storeAt 44 a x = storeD a x := rfl
def storeR (a x : Value) : Sem Unit := Instr.storeAt 46 a x
def loadR (a : Value) : Sem Value := Instr.loadAt 46 a
theorem loadR_eq (a : Value) : Instr.loadAt 46 a = loadR a := rfl
theorem storeR_eq (a x : Value) : Instr.storeAt 46 a x = storeR a x := rfl
def putS (w : World) (g : Nat) (v0 v1 v2 v3 v4 v5 v6 v7 : Int) : World := w.setCells g 0 [.int .i64 v0, .int .i64 v1, .int .i64 v2, .int .i64 v3, .int .i64 v4, .int .i64 v5, .int .i64 v6, .int .i64 v7]
def putD (w : World) (g : Nat) (v0 v1 v2 v3 v4 v5 : Int) : World := w.setCells g 8 [.int .i64 v0, .int .i64 v1, .int .i64 v2, .int .i64 v3, .int .i64 v4, .int .i64 v5]
theorem storeP_mid {w : World} {g : Nat} (h : w.there g 0 8) (v0 v1 v2 v3 v4 v5 v6 v7 : Int) : (storeP (.pointer (some ⟨g, 0, none⟩)) (.agg #[.int .i64 v0, .int .i64 v1, .int .i64 v2, .int .i64 v3, .int .i64 v4, .int .i64 v5, .int .i64 v6, .int .i64 v7])).run Tryd.prog w = .ok () (putS w g v0 v1 v2 v3 v4 v5 v6 v7) :=
  run_storeAt_mid w g 0 28 #[.int .i64 v0, .int .i64 v1, .int .i64 v2, .int .i64 v3, .int .i64 v4, .int .i64 v5, .int .i64 v6, .int .i64 v7] h stI (by simp [Value.oneCell'])
theorem storeD_mid {w : World} {g : Nat} (h : w.there g 8 6) (v0 v1 v2 v3 v4 v5 : Int) : (storeD (.pointer (some ⟨g, 8, none⟩)) (.agg #[.int .i64 v0, .int .i64 v1, .int .i64 v2, .int .i64 v3, .int .i64 v4, .int .i64 v5])).run Tryd.prog w = .ok () (putD w g v0 v1 v2 v3 v4 v5) :=
  run_storeAt_mid w g 8 44 #[.int .i64 v0, .int .i64 v1, .int .i64 v2, .int .i64 v3, .int .i64 v4, .int .i64 v5] h perI (by simp [Value.oneCell'])
/-- Block g is a repeat's. -/
def Rq (w : World) (g : Nat) : Prop := ∃ c : Array Value, c.size = 15 ∧ Blk w g 46 c
theorem storeR_rq {w : World} {g : Nat} (h : Rq w g) (v0 v1 v2 v3 v4 v5 v6 v7 v8 v9 v10 v11 v12 v13 v14 : Int) : (storeR (.pointer (some ⟨g, 0, none⟩)) (.agg #[.int .i64 v0, .int .i64 v1, .int .i64 v2, .int .i64 v3, .int .i64 v4, .int .i64 v5, .int .i64 v6, .int .i64 v7, .int .i64 v8, .int .i64 v9, .int .i64 v10, .int .i64 v11, .int .i64 v12, .int .i64 v13, .int .i64 v14])).run Tryd.prog w = .ok () (w.setRow g #[.int .i64 v0, .int .i64 v1, .int .i64 v2, .int .i64 v3, .int .i64 v4, .int .i64 v5, .int .i64 v6, .int .i64 v7, .int .i64 v8, .int .i64 v9, .int .i64 v10, .int .i64 v11, .int .i64 v12, .int .i64 v13, .int .i64 v14]) := by
  obtain ⟨c, hc, h⟩ := h
  have hr := run_storeVar_row (P := Tryd.prog) w g 46 46 c #[.int .i64 v0, .int .i64 v1, .int .i64 v2, .int .i64 v3, .int .i64 v4, .int .i64 v5, .int .i64 v6, .int .i64 v7, .int .i64 v8, .int .i64 v9, .int .i64 v10, .int .i64 v11, .int .i64 v12, .int .i64 v13, .int .i64 v14] h repI (by simpa using hc) (by simp [Value.oneCell'])
  simp only [storeR, Instr.storeAt, Instr.sureAddr, Sem.run_bind, Sem.run_pure, Result.andThen]
  exact hr
theorem cell_rq {w : World} {g : Nat} (h : Rq w g) (cs : Array Value) (j : Nat) : (w.setRow g cs).cell? ⟨g, j, none⟩ = cs[j]? := by
  obtain ⟨c, hc, h⟩ := h
  exact cell_setRow_same w g j c cs _ (0, 0) h
section
attribute [local go_sem ↓] storeP_eq storeD_eq storeR_eq loadR_eq
set_option maxRecDepth 100000 in
set_option maxHeartbeats 4000000 in
theorem toRepeat_any (y mo d h mi s ms o p1 p2 p3 p4 p5 p6 n : Int) (w : World) :
    Calls Tryd.prog 12 #[.agg #[.int .i64 y, .int .i64 mo, .int .i64 d, .int .i64 h, .int .i64 mi, .int .i64 s, .int .i64 ms, .int .i64 o, .int .i64 p1, .int .i64 p2, .int .i64 p3, .int .i64 p4, .int .i64 p5, .int .i64 p6, .int .i64 n]] w fun e w' => e = .returned (.agg #[.int .i64 y, .int .i64 mo, .int .i64 d, .int .i64 h, .int .i64 mi, .int .i64 s, .int .i64 ms, .int .i64 o, .int .i64 p1, .int .i64 p2, .int .i64 p3, .int .i64 p4, .int .i64 p5, .int .i64 p6, .int .i64 n]) ∧ Below w.heap.size w w' := by
  have X0 := ((Blk.new w 42 #[.int .i64 y, .int .i64 mo, .int .i64 d, .int .i64 h, .int .i64 mi, .int .i64 s, .int .i64 ms, .int .i64 o, .int .i64 p1, .int .i64 p2, .int .i64 p3, .int .i64 p4, .int .i64 p5, .int .i64 p6, .int .i64 n]).alloc (.cells #[.int .i64 0, .int .i64 0, .int .i64 0, .int .i64 0, .int .i64 0, .int .i64 0, .int .i64 0, .int .i64 0, .int .i64 0, .int .i64 0, .int .i64 0, .int .i64 0, .int .i64 0, .int .i64 0, .int .i64 0] 46)).alloc (.cells #[.int .i64 0, .int .i64 0, .int .i64 0, .int .i64 0, .int .i64 0, .int .i64 0, .int .i64 0, .int .i64 0, .int .i64 0, .int .i64 0, .int .i64 0, .int .i64 0, .int .i64 0, .int .i64 0, .int .i64 0] 46)
  have R0 := (Blk.newE (W := w.alloc (.cells #[.int .i64 y, .int .i64 mo, .int .i64 d, .int .i64 h, .int .i64 mi, .int .i64 s, .int .i64 ms, .int .i64 o, .int .i64 p1, .int .i64 p2, .int .i64 p3, .int .i64 p4, .int .i64 p5, .int .i64 p6, .int .i64 n] 42)) (g := w.heap.size + 1) (t := 46) (cs := #[.int .i64 0, .int .i64 0, .int .i64 0, .int .i64 0, .int .i64 0, .int .i64 0, .int .i64 0, .int .i64 0, .int .i64 0, .int .i64 0, .int .i64 0, .int .i64 0, .int .i64 0, .int .i64 0, .int .i64 0]) (by simp)).alloc (.cells #[.int .i64 0, .int .i64 0, .int .i64 0, .int .i64 0, .int .i64 0, .int .i64 0, .int .i64 0, .int .i64 0, .int .i64 0, .int .i64 0, .int .i64 0, .int .i64 0, .int .i64 0, .int .i64 0, .int .i64 0] 46)
  have O0 := (Blk.newE (W := (w.alloc (.cells #[.int .i64 y, .int .i64 mo, .int .i64 d, .int .i64 h, .int .i64 mi, .int .i64 s, .int .i64 ms, .int .i64 o, .int .i64 p1, .int .i64 p2, .int .i64 p3, .int .i64 p4, .int .i64 p5, .int .i64 p6, .int .i64 n] 42)).alloc (.cells #[.int .i64 0, .int .i64 0, .int .i64 0, .int .i64 0, .int .i64 0, .int .i64 0, .int .i64 0, .int .i64 0, .int .i64 0, .int .i64 0, .int .i64 0, .int .i64 0, .int .i64 0, .int .i64 0, .int .i64 0] 46)) (g := w.heap.size + 1 + 1) (t := 46) (cs := #[.int .i64 0, .int .i64 0, .int .i64 0, .int .i64 0, .int .i64 0, .int .i64 0, .int .i64 0, .int .i64 0, .int .i64 0, .int .i64 0, .int .i64 0, .int .i64 0, .int .i64 0, .int .i64 0, .int .i64 0]) (by simp))
  have B0 := bal (bal (bal (Below.refl w.heap.size w) (.cells #[.int .i64 y, .int .i64 mo, .int .i64 d, .int .i64 h, .int .i64 mi, .int .i64 s, .int .i64 ms, .int .i64 o, .int .i64 p1, .int .i64 p2, .int .i64 p3, .int .i64 p4, .int .i64 p5, .int .i64 p6, .int .i64 n] 42)) (.cells #[.int .i64 0, .int .i64 0, .int .i64 0, .int .i64 0, .int .i64 0, .int .i64 0, .int .i64 0, .int .i64 0, .int .i64 0, .int .i64 0, .int .i64 0, .int .i64 0, .int .i64 0, .int .i64 0, .int .i64 0] 46)) (.cells #[.int .i64 0, .int .i64 0, .int .i64 0, .int .i64 0, .int .i64 0, .int .i64 0, .int .i64 0, .int .i64 0, .int .i64 0, .int .i64 0, .int .i64 0, .int .i64 0, .int .i64 0, .int .i64 0, .int .i64 0] 46)
  have nn : w.heap.size ≠ (w.heap.size + 1 + 1 : Nat) := by omega
  have nn' : w.heap.size + 1 ≠ (w.heap.size + 1 + 1 : Nat) := by omega
  have nb : w.heap.size ≤ (w.heap.size + 1 + 1 : Nat) := by omega
  have NN := hide nn
  have NN' := hide nn'
  have NB := hide nb
  clear nn nn' nb
  go_enter Tryd.func12, Tryd.ntmps12
  go_wp2_with fail
  refine (toStamp_any ⟨y, mo, d, h, mi, s, ms, o⟩ _).mono ?_
  rintro e w1 ⟨rfl, hb1⟩
  simp only [S8.v]
  have nn := NN.out
  have nn' := NN'.out
  have nb := NB.out
  have B1 := bto B0 hb1
  have X1 := hide (X0.below hb1 X0.lt)
  have R1 := hide (R0.below hb1 R0.lt)
  have O1 := hide (O0.below hb1 O0.lt)
  have ht1 := O1.out.there 0 8 (by simp)
  have X2 := hide (show Blk (putS w1 (w.heap.size + 1 + 1) y mo d h mi s ms o) w.heap.size 42 #[.int .i64 y, .int .i64 mo, .int .i64 d, .int .i64 h, .int .i64 mi, .int .i64 s, .int .i64 ms, .int .i64 o, .int .i64 p1, .int .i64 p2, .int .i64 p3, .int .i64 p4, .int .i64 p5, .int .i64 p6, .int .i64 n] by
    unfold putS
    exact ((((((((X1.out).far (p := ⟨w.heap.size + 1 + 1, 0, none⟩) nn (.int .i64 y)).far (p := ⟨w.heap.size + 1 + 1, 1, none⟩) nn (.int .i64 mo)).far (p := ⟨w.heap.size + 1 + 1, 2, none⟩) nn (.int .i64 d)).far (p := ⟨w.heap.size + 1 + 1, 3, none⟩) nn (.int .i64 h)).far (p := ⟨w.heap.size + 1 + 1, 4, none⟩) nn (.int .i64 mi)).far (p := ⟨w.heap.size + 1 + 1, 5, none⟩) nn (.int .i64 s)).far (p := ⟨w.heap.size + 1 + 1, 6, none⟩) nn (.int .i64 ms)).far (p := ⟨w.heap.size + 1 + 1, 7, none⟩) nn (.int .i64 o))
  have R2 := hide (show Blk (putS w1 (w.heap.size + 1 + 1) y mo d h mi s ms o) (w.heap.size + 1) 46 #[.int .i64 0, .int .i64 0, .int .i64 0, .int .i64 0, .int .i64 0, .int .i64 0, .int .i64 0, .int .i64 0, .int .i64 0, .int .i64 0, .int .i64 0, .int .i64 0, .int .i64 0, .int .i64 0, .int .i64 0] by
    unfold putS
    exact ((((((((R1.out).far (p := ⟨w.heap.size + 1 + 1, 0, none⟩) nn' (.int .i64 y)).far (p := ⟨w.heap.size + 1 + 1, 1, none⟩) nn' (.int .i64 mo)).far (p := ⟨w.heap.size + 1 + 1, 2, none⟩) nn' (.int .i64 d)).far (p := ⟨w.heap.size + 1 + 1, 3, none⟩) nn' (.int .i64 h)).far (p := ⟨w.heap.size + 1 + 1, 4, none⟩) nn' (.int .i64 mi)).far (p := ⟨w.heap.size + 1 + 1, 5, none⟩) nn' (.int .i64 s)).far (p := ⟨w.heap.size + 1 + 1, 6, none⟩) nn' (.int .i64 ms)).far (p := ⟨w.heap.size + 1 + 1, 7, none⟩) nn' (.int .i64 o))
  have O2 := hide (show Blk (putS w1 (w.heap.size + 1 + 1) y mo d h mi s ms o) (w.heap.size + 1 + 1) 46 #[.int .i64 y, .int .i64 mo, .int .i64 d, .int .i64 h, .int .i64 mi, .int .i64 s, .int .i64 ms, .int .i64 o, .int .i64 0, .int .i64 0, .int .i64 0, .int .i64 0, .int .i64 0, .int .i64 0, .int .i64 0] by
    unfold putS
    have q := ((((((((O1.out).set_ 0 (.int .i64 y)).set_ 1 (.int .i64 mo)).set_ 2 (.int .i64 d)).set_ 3 (.int .i64 h)).set_ 4 (.int .i64 mi)).set_ 5 (.int .i64 s)).set_ 6 (.int .i64 ms)).set_ 7 (.int .i64 o)
    simp only [List.setIfInBounds_toArray, List.set_cons_zero, List.set_cons_succ] at q
    exact q)
  have B2 := hide (show Below w.heap.size w (putS w1 (w.heap.size + 1 + 1) y mo d h mi s ms o) by
    unfold putS
    exact bset (bset (bset (bset (bset (bset (bset (bset (B1) (p := ⟨w.heap.size + 1 + 1, 0, none⟩) nb (.int .i64 y)) (p := ⟨w.heap.size + 1 + 1, 1, none⟩) nb (.int .i64 mo)) (p := ⟨w.heap.size + 1 + 1, 2, none⟩) nb (.int .i64 d)) (p := ⟨w.heap.size + 1 + 1, 3, none⟩) nb (.int .i64 h)) (p := ⟨w.heap.size + 1 + 1, 4, none⟩) nb (.int .i64 mi)) (p := ⟨w.heap.size + 1 + 1, 5, none⟩) nb (.int .i64 s)) (p := ⟨w.heap.size + 1 + 1, 6, none⟩) nb (.int .i64 ms)) (p := ⟨w.heap.size + 1 + 1, 7, none⟩) nb (.int .i64 o))
  obtain ⟨w2, st2, X2, R2, O2, B2⟩ : ∃ w2, (storeP (.pointer (some ⟨w.heap.size + 1 + 1, 0, none⟩)) (.agg #[.int .i64 y, .int .i64 mo, .int .i64 d, .int .i64 h, .int .i64 mi, .int .i64 s, .int .i64 ms, .int .i64 o])).run Tryd.prog w1 = .ok () w2 ∧ Hid (Blk w2 w.heap.size 42 #[.int .i64 y, .int .i64 mo, .int .i64 d, .int .i64 h, .int .i64 mi, .int .i64 s, .int .i64 ms, .int .i64 o, .int .i64 p1, .int .i64 p2, .int .i64 p3, .int .i64 p4, .int .i64 p5, .int .i64 p6, .int .i64 n]) ∧ Hid (Blk w2 (w.heap.size + 1) 46 #[.int .i64 0, .int .i64 0, .int .i64 0, .int .i64 0, .int .i64 0, .int .i64 0, .int .i64 0, .int .i64 0, .int .i64 0, .int .i64 0, .int .i64 0, .int .i64 0, .int .i64 0, .int .i64 0, .int .i64 0]) ∧ Hid (Blk w2 (w.heap.size + 1 + 1) 46 #[.int .i64 y, .int .i64 mo, .int .i64 d, .int .i64 h, .int .i64 mi, .int .i64 s, .int .i64 ms, .int .i64 o, .int .i64 0, .int .i64 0, .int .i64 0, .int .i64 0, .int .i64 0, .int .i64 0, .int .i64 0]) ∧ Hid (Below w.heap.size w w2) := ⟨_, storeP_mid ht1 _ _ _ _ _ _ _ _, X2, R2, O2, B2⟩
  have c8 := X2.out.cell 8
  have c9 := X2.out.cell 9
  have c10 := X2.out.cell 10
  have c11 := X2.out.cell 11
  have c12 := X2.out.cell 12
  have c13 := X2.out.cell 13
  simp at c8 c9 c10 c11 c12 c13
  clear X0 R0 O0 B0 hb1 B1 X1 R1 O1 nn nn' nb ht1
  go_wp2_with fail
  refine (toPeriod_any _ _ _ _ _ _ _).mono ?_
  rintro e w3 ⟨rfl, hb3⟩
  have nn := NN.out
  have nn' := NN'.out
  have nb := NB.out
  have B3 := bto B2.out hb3
  have X3 := hide (X2.out.below hb3 X2.out.lt)
  have R3 := hide (R2.out.below hb3 R2.out.lt)
  have O3 := hide (O2.out.below hb3 O2.out.lt)
  have ht3 := O3.out.there 8 6 (by simp)
  have X4 := hide (show Blk (putD w3 (w.heap.size + 1 + 1) p1 p2 p3 p4 p5 p6) w.heap.size 42 #[.int .i64 y, .int .i64 mo, .int .i64 d, .int .i64 h, .int .i64 mi, .int .i64 s, .int .i64 ms, .int .i64 o, .int .i64 p1, .int .i64 p2, .int .i64 p3, .int .i64 p4, .int .i64 p5, .int .i64 p6, .int .i64 n] by
    unfold putD
    exact ((((((X3.out).far (p := ⟨w.heap.size + 1 + 1, 8, none⟩) nn (.int .i64 p1)).far (p := ⟨w.heap.size + 1 + 1, 9, none⟩) nn (.int .i64 p2)).far (p := ⟨w.heap.size + 1 + 1, 10, none⟩) nn (.int .i64 p3)).far (p := ⟨w.heap.size + 1 + 1, 11, none⟩) nn (.int .i64 p4)).far (p := ⟨w.heap.size + 1 + 1, 12, none⟩) nn (.int .i64 p5)).far (p := ⟨w.heap.size + 1 + 1, 13, none⟩) nn (.int .i64 p6))
  have R4 := hide (show Blk (putD w3 (w.heap.size + 1 + 1) p1 p2 p3 p4 p5 p6) (w.heap.size + 1) 46 #[.int .i64 0, .int .i64 0, .int .i64 0, .int .i64 0, .int .i64 0, .int .i64 0, .int .i64 0, .int .i64 0, .int .i64 0, .int .i64 0, .int .i64 0, .int .i64 0, .int .i64 0, .int .i64 0, .int .i64 0] by
    unfold putD
    exact ((((((R3.out).far (p := ⟨w.heap.size + 1 + 1, 8, none⟩) nn' (.int .i64 p1)).far (p := ⟨w.heap.size + 1 + 1, 9, none⟩) nn' (.int .i64 p2)).far (p := ⟨w.heap.size + 1 + 1, 10, none⟩) nn' (.int .i64 p3)).far (p := ⟨w.heap.size + 1 + 1, 11, none⟩) nn' (.int .i64 p4)).far (p := ⟨w.heap.size + 1 + 1, 12, none⟩) nn' (.int .i64 p5)).far (p := ⟨w.heap.size + 1 + 1, 13, none⟩) nn' (.int .i64 p6))
  have O4 := hide (show Blk (putD w3 (w.heap.size + 1 + 1) p1 p2 p3 p4 p5 p6) (w.heap.size + 1 + 1) 46 #[.int .i64 y, .int .i64 mo, .int .i64 d, .int .i64 h, .int .i64 mi, .int .i64 s, .int .i64 ms, .int .i64 o, .int .i64 p1, .int .i64 p2, .int .i64 p3, .int .i64 p4, .int .i64 p5, .int .i64 p6, .int .i64 0] by
    unfold putD
    have q := ((((((O3.out).set_ 8 (.int .i64 p1)).set_ 9 (.int .i64 p2)).set_ 10 (.int .i64 p3)).set_ 11 (.int .i64 p4)).set_ 12 (.int .i64 p5)).set_ 13 (.int .i64 p6)
    simp only [List.setIfInBounds_toArray, List.set_cons_zero, List.set_cons_succ] at q
    exact q)
  have B4 := hide (show Below w.heap.size w (putD w3 (w.heap.size + 1 + 1) p1 p2 p3 p4 p5 p6) by
    unfold putD
    exact bset (bset (bset (bset (bset (bset (B3) (p := ⟨w.heap.size + 1 + 1, 8, none⟩) nb (.int .i64 p1)) (p := ⟨w.heap.size + 1 + 1, 9, none⟩) nb (.int .i64 p2)) (p := ⟨w.heap.size + 1 + 1, 10, none⟩) nb (.int .i64 p3)) (p := ⟨w.heap.size + 1 + 1, 11, none⟩) nb (.int .i64 p4)) (p := ⟨w.heap.size + 1 + 1, 12, none⟩) nb (.int .i64 p5)) (p := ⟨w.heap.size + 1 + 1, 13, none⟩) nb (.int .i64 p6))
  obtain ⟨w4, st4, X4, R4, O4, B4⟩ : ∃ w4, (storeD (.pointer (some ⟨w.heap.size + 1 + 1, 8, none⟩)) (.agg #[.int .i64 p1, .int .i64 p2, .int .i64 p3, .int .i64 p4, .int .i64 p5, .int .i64 p6])).run Tryd.prog w3 = .ok () w4 ∧ Hid (Blk w4 w.heap.size 42 #[.int .i64 y, .int .i64 mo, .int .i64 d, .int .i64 h, .int .i64 mi, .int .i64 s, .int .i64 ms, .int .i64 o, .int .i64 p1, .int .i64 p2, .int .i64 p3, .int .i64 p4, .int .i64 p5, .int .i64 p6, .int .i64 n]) ∧ Hid (Blk w4 (w.heap.size + 1) 46 #[.int .i64 0, .int .i64 0, .int .i64 0, .int .i64 0, .int .i64 0, .int .i64 0, .int .i64 0, .int .i64 0, .int .i64 0, .int .i64 0, .int .i64 0, .int .i64 0, .int .i64 0, .int .i64 0, .int .i64 0]) ∧ Hid (Blk w4 (w.heap.size + 1 + 1) 46 #[.int .i64 y, .int .i64 mo, .int .i64 d, .int .i64 h, .int .i64 mi, .int .i64 s, .int .i64 ms, .int .i64 o, .int .i64 p1, .int .i64 p2, .int .i64 p3, .int .i64 p4, .int .i64 p5, .int .i64 p6, .int .i64 0]) ∧ Hid (Below w.heap.size w w4) := ⟨_, storeD_mid ht3 _ _ _ _ _ _, X4, R4, O4, B4⟩
  clear c8 c9 c10 c11 c12 c13 hb3 X2 R2 O2 B2 ht3 st2
  have c14 := X4.out.cell 14
  have o14 := O4.out.cell 14
  have f14 := O4.out.frozen 14
  simp at c14 o14
  have O5 := hide (show Blk (w4.setCell ⟨w.heap.size + 1 + 1, 14, none⟩ (.int .i64 n)) (w.heap.size + 1 + 1) 46 #[.int .i64 y, .int .i64 mo, .int .i64 d, .int .i64 h, .int .i64 mi, .int .i64 s, .int .i64 ms, .int .i64 o, .int .i64 p1, .int .i64 p2, .int .i64 p3, .int .i64 p4, .int .i64 p5, .int .i64 p6, .int .i64 n] by
    have q := O4.out.set_ 14 (.int .i64 n)
    simp only [List.setIfInBounds_toArray, List.set_cons_zero, List.set_cons_succ] at q
    exact q)
  have hld : (loadR (.pointer (some ⟨w.heap.size + 1 + 1, 0, none⟩))).run Tryd.prog (w4.setCell ⟨w.heap.size + 1 + 1, 14, none⟩ (.int .i64 n)) = .ok (.agg #[.int .i64 y, .int .i64 mo, .int .i64 d, .int .i64 h, .int .i64 mi, .int .i64 s, .int .i64 ms, .int .i64 o, .int .i64 p1, .int .i64 p2, .int .i64 p3, .int .i64 p4, .int .i64 p5, .int .i64 p6, .int .i64 n]) (w4.setCell ⟨w.heap.size + 1 + 1, 14, none⟩ (.int .i64 n)) :=
    run_loadAt_mid _ _ 0 46 [.int .i64 y, .int .i64 mo, .int .i64 d, .int .i64 h, .int .i64 mi, .int .i64 s, .int .i64 ms, .int .i64 o, .int .i64 p1, .int .i64 p2, .int .i64 p3, .int .i64 p4, .int .i64 p5, .int .i64 p6, .int .i64 n] _ (fun j v hv => by rw [Nat.zero_add, O5.out.cell]; simpa using hv) Tryd.underlying46 rfl repI
  have R5 : Rq (w4.setCell ⟨w.heap.size + 1 + 1, 14, none⟩ (.int .i64 n)) (w.heap.size + 1) := ⟨_, rfl, R4.out.far (p := ⟨w.heap.size + 1 + 1, 14, none⟩) nn' _⟩
  have B5 := bset B4.out (p := ⟨w.heap.size + 1 + 1, 14, none⟩) nb (.int .i64 n)
  obtain ⟨w5, hw5⟩ : ∃ w5, w5 = w4.setCell ⟨w.heap.size + 1 + 1, 14, none⟩ (.int .i64 n) := ⟨_, rfl⟩
  rw [← hw5] at hld R5 B5
  obtain ⟨w6, st6, k6, B6⟩ : ∃ w6, (storeR (.pointer (some ⟨w.heap.size + 1, 0, none⟩)) (.agg #[.int .i64 y, .int .i64 mo, .int .i64 d, .int .i64 h, .int .i64 mi, .int .i64 s, .int .i64 ms, .int .i64 o, .int .i64 p1, .int .i64 p2, .int .i64 p3, .int .i64 p4, .int .i64 p5, .int .i64 p6, .int .i64 n])).run Tryd.prog w5 = .ok () w6 ∧ (∀ j, w6.cell? ⟨w.heap.size + 1, j, none⟩ = (#[.int .i64 y, .int .i64 mo, .int .i64 d, .int .i64 h, .int .i64 mi, .int .i64 s, .int .i64 ms, .int .i64 o, .int .i64 p1, .int .i64 p2, .int .i64 p3, .int .i64 p4, .int .i64 p5, .int .i64 p6, .int .i64 n] : Array Value)[j]?) ∧ Hid (Below w.heap.size w w6) := ⟨_, storeR_rq R5 _ _ _ _ _ _ _ _ _ _ _ _ _ _ _, cell_rq R5 _, hide (brow B5 (by omega) _)⟩
  rw [hw5] at hld st6
  clear X3 R3 O3 B3 X4 R4 O4 B4 O5 R5 B5 hw5 nn nn' nb
  go_wp2_with fail
  refine bodyPost_ret (by simp [results, Tryd.results12, go_sem, k6]; try rfl) rfl ?_
  exact ⟨rfl, B6.out⟩
end
end Go.Proofs.YtinemkjoohgmjaaDoor
