/- What a step of the reader keeps; made rows of dates and the reader. -/
import Derived.Test.YtdflacnegkgljaaDoorDp
import Derived.Test.YtdflacnegkgljaaDoorWd1
import Derived.Test.YtdflacnegkgljaaDoorDrD
namespace Go.Proofs.YtdflacnegkgljaaDoor
open Go.RowKit

/-- What is owned from base on is kept by a step of a reader that lies below base. -/
theorem own_rd {base : Nat} {e : TypeId} {k : Nat} {v : Value} {n : Nat} {xs : List Value} {w w' : World} {g : Nat} (h : w.ownsRow base e k v n xs) (hg : w.grownBy w' (some g)) (hlt : g < base) : w'.ownsRow base e k v n xs :=
  h.kept hg (by
    by_cases e : v.ownBlock = none
    · exact .inl e
    · refine .inr fun e' => ?_
      have := (h.lt g e').1
      omega)
/-- A drawn slice of dates: made by the call, the reader goes on. -/
def DrawnDs (E : TypeId) (base : Nat) (most : Nat) (B g m k : Nat) (w : World) (e : Ending) (w' : World) : Prop :=
  ∃ (b cap : Nat) (l : List D3), e = .returned (.slice (some ⟨b, 0, none⟩) l.length cap) ∧ w'.ownsRow base E 3 (.slice (some ⟨b, 0, none⟩) l.length cap) l.length (flatD l) ∧ l.length ≤ most ∧ Rd B w' g (m + k) ∧ w.grownBy w' (some g)
theorem news3 (w : World) (x y z : Value) (T : TypeId) : ∀ j u, [x, y, z][j]? = some u → (w.alloc (.cells #[x, y, z] T)).cell? ((⟨w.heap.size, 0, none⟩ : Addr).add j) = some u := by
  intro j u hj
  rcases j with _ | _ | _ | j
  · simp at hj; subst hj; exact World.cell?_alloc_new w #[x, y, z] T 0
  · simp at hj; subst hj; exact World.cell?_alloc_new w #[x, y, z] T 1
  · simp at hj; subst hj; exact World.cell?_alloc_new w #[x, y, z] T 2
  · simp at hj
theorem three_one (a b c : Int) : ∀ u ∈ [Value.int .i64 a, Value.int .i64 b, Value.int .i64 c], u.oneCell' = true := by
  intro u hu
  simp at hu
  rcases hu with rfl | rfl | rfl <;> rfl
/-- A date that exists, by a reader. -/
def DrawnG (B g m k : Nat) (w : World) (e : Ending) (w' : World) : Prop :=
  ∃ y mo d : Int, vld y mo d = true ∧ e = .returned (.agg #[.int .i64 y, .int .i64 mo, .int .i64 d]) ∧ Rd B w' g (m + k) ∧ w.grownBy w' (some g)
theorem l91Good_any {B g m : Nat} {w : World} (hr : Rd B w g m) (hm : m ≤ 80000) :
    Calls Tryd.prog 55 #[.pointer (some ⟨g, 0, none⟩)] w (DrawnG B g m 9 w) := by
  have hgl := hr.lt
  have R0 := Blk.new w 25 #[.int .i64 0, .int .i64 0, .int .i64 0]
  have G0 := only_alloc (only_refl w (some g)) (.cells #[.int .i64 0, .int .i64 0, .int .i64 0] 25)
  go_enter Tryd.func55, Tryd.ntmps55
  go_wp2_with fail
  refine (l91Date_any (hr.alloc _) (by omega)).mono ?_
  rintro e w1 ⟨y, mo, d, rfl, hr1, hg1⟩
  have R1 := R0.grown' hg1 (by omega)
  have G1 := only_trans G0 hg1
  have X1 := Blk.new w1 25 #[.int .i64 y, .int .i64 mo, .int .i64 d]
  have R1' := R1.alloc (.cells #[.int .i64 y, .int .i64 mo, .int .i64 d] 25)
  have G1' := only_alloc G1 (.cells #[.int .i64 y, .int .i64 mo, .int .i64 d] 25)
  have hr1' := hr1.alloc (.cells #[.int .i64 y, .int .i64 mo, .int .i64 d] 25)
  go_wp2_with fail
  refine (spec_dateValid _ _ _ _).mono ?_
  rintro e w2 ⟨rfl, hb2⟩
  have X2 := X1.below hb2 X1.lt
  have R2 := hide (R1'.below hb2 R1'.lt)
  have G2 := hide (only_below G1' hb2)
  have hr2 := hide (hr1'.below hb2 hr1'.lt)
  have x0 := X2.cell 0
  have x1 := X2.cell 1
  have x2 := X2.cell 2
  have c0 := R2.out.cell 0
  have c1 := R2.out.cell 1
  have c2 := R2.out.cell 2
  have f0 := R2.out.frozen 0
  have f1 := R2.out.frozen 1
  have f2 := R2.out.frozen 2
  simp at x0 x1 x2 c0 c1 c2
  clear R0 G0 R1 G1 X1 R1' G1' hr1 hr1' hg1 hb2 X2
  have fin : ∀ (Y M D : Int) (e : Ending), vld Y M D = true → e = .returned (.agg #[.int .i64 Y, .int .i64 M, .int .i64 D]) → DrawnG B g m 9 w e (((w2.setCell ⟨w.heap.size, 0, none⟩ (.int .i64 Y)).setCell ⟨w.heap.size, 1, none⟩ (.int .i64 M)).setCell ⟨w.heap.size, 2, none⟩ (.int .i64 D)) := fun Y M D e hv he =>
    ⟨Y, M, D, hv, he, (((hr2.out).setCell (a := ⟨w.heap.size, 0, none⟩) hgl _).setCell (a := ⟨w.heap.size, 1, none⟩) hgl _).setCell (a := ⟨w.heap.size, 2, none⟩) hgl _,
      only_setCell (only_setCell (only_setCell G2.out (.inr (Nat.le_refl _)) _) (.inr (Nat.le_refl _)) _) (.inr (Nat.le_refl _)) _⟩
  cases hv : vld y mo d with
  | true =>
    have Hv := hide hv
    clear hv
    go_wp2_with fail
    have RR := ((R2.out.set_ 0 (.int .i64 y)).set_ 1 (.int .i64 mo)).set_ 2 (.int .i64 d)
    have q0 := RR.cell 0
    have q1 := RR.cell 1
    have q2 := RR.cell 2
    simp at q0 q1 q2
    refine bodyPost_ret (by simp [results, Tryd.results55, go_sem, q0, q1, q2]; try rfl) rfl ?_
    exact fin _ _ _ _ Hv.out rfl
  | false =>
    clear hv
    go_wp2_with fail
    have RR := ((R2.out.set_ 0 (.int .i64 2000)).set_ 1 (.int .i64 2)).set_ 2 (.int .i64 29)
    have q0 := RR.cell 0
    have q1 := RR.cell 1
    have q2 := RR.cell 2
    simp at q0 q1 q2
    refine bodyPost_ret (by simp [results, Tryd.results55, go_sem, q0, q1, q2]; try rfl) rfl ?_
    exact fin _ _ _ _ (by decide) rfl
end Go.Proofs.YtdflacnegkgljaaDoor
