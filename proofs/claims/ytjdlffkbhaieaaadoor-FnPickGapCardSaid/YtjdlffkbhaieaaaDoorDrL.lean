/- Draws: a zone, a date and a time. -/
import Derived.Test.YtjdlffkbhaieaaaDoorDrZ
import Derived.Test.YtjdlffkbhaieaaaDoorDrC
namespace Go.Proofs.YtjdlffkbhaieaaaDoor
open Go.RowKit

theorem l5Of_some (n : Int) (w : World) :
    Calls Tryd.prog 71 #[.int .i64 n] w fun e w' => (∃ a b c d : Int, e = .returned (.agg #[.int .i64 a, .int .i64 b, .int .i64 c, .int .i64 d])) ∧ Below w.heap.size w w' := by
  go_enter Tryd.func71, Tryd.ntmps71
  go_wp2
  go_returns
  exact ⟨⟨_, _, _, _, rfl⟩, (by repeat' (first | (with_reducible exact Below.refl _ _) | (with_reducible assumption) | (with_reducible refine bal ?_ _) | (with_reducible refine bdrewN ?_ _) | (with_reducible refine bdrew ?_) | (with_reducible refine bset ?_ ?_ _) | (with_reducible refine brow ?_ ?_ _) | omega | (simp; done) | (simp; omega)))⟩
theorem dateOf_some (n : Int) (w : World) :
    Calls Tryd.prog 70 #[.int .i64 n] w fun e w' => (∃ (y mo d : Int) (ok : Bool), e = .returned (.tuple #[.agg #[.int .i64 y, .int .i64 mo, .int .i64 d], .bool ok])) ∧ Below w.heap.size w w' := by
  by_cases h : 0 ≤ n ∧ n ≤ 3652058
  · exact (spec_dateOf_yes n w h.1 h.2).mono fun e w' ⟨h1, h2⟩ => ⟨⟨_, _, _, _, h1⟩, h2⟩
  · exact (spec_dateOf_no n w (by omega)).mono fun e w' ⟨h1, h2⟩ => ⟨⟨_, _, _, _, h1⟩, h2⟩
section
variable {w0 w w' : World} {B g m base zr : Nat} {b k cap : Nat} {l : List R2}
theorem Zo.pick (h : Zo w0 w B g m base zr b k cap l) {m' : Nat} (hr : Rd B w' g m') (hg : w.grownBy w' (some g)) : Zo w0 w' B g m' base zr b k cap l :=
  have a0 := h.h0; have a2 := h.h2
  ⟨own_rd h.O hg (by omega), hr, only_trans h.G hg, h.h0, h.h1, h.h2⟩
theorem Zo.below (h : Zo w0 w B g m base zr b k cap l) (hb : Below w.heap.size w w') : Zo w0 w' B g m base zr b k cap l := ⟨own_below h.O hb, h.T.below hb h.T.lt, only_below h.G hb, h.h0, h.h1, h.h2⟩
theorem Zo.alloc (h : Zo w0 w B g m base zr b k cap l) (x : Obj) : Zo w0 (w.alloc x) B g m base zr b k cap l := ⟨h.O.alloc x, h.T.alloc x, only_alloc h.G x, h.h0, h.h1, h.h2⟩
theorem Zo.more (h : Zo w0 w B g m base zr b k cap l) {m' : Nat} (hm : m ≤ m') : Zo w0 w B g m' base zr b k cap l := ⟨h.O, h.T.more hm, h.G, h.h0, h.h1, h.h2⟩
end
/-- A drawn zone, a date and a time. -/
def DrawnZDC (B g m : Nat) (w : World) (e : Ending) (w' : World) : Prop :=
  ∃ (o : Int) (b cap : Nat) (l : List R2) (y mo d h mi s ms : Int), e = .returned (.tuple #[.agg #[.int .i64 o, .slice (some ⟨b, 0, none⟩) l.length cap], .agg #[.int .i64 y, .int .i64 mo, .int .i64 d], .agg #[.int .i64 h, .int .i64 mi, .int .i64 s, .int .i64 ms]]) ∧
    w'.ownsRow w.heap.size 68 2 (.slice (some ⟨b, 0, none⟩) l.length cap) l.length (flatP l) ∧ l.length ≤ 5 ∧ Rd B w' g (m + 60) ∧ w.grownBy w' (some g)

/-- What stands while the date and the time are drawn. -/
structure Lc (w0 w : World) (B g m base zb nb : Nat) (o : Int) (b cap : Nat) (l : List R2) (y mo d : Int) : Prop where
  Z : Blk w zb 36 #[.int .i64 o, .slice (some ⟨b, 0, none⟩) l.length cap]
  N : Blk w nb 27 #[.int .i64 y, .int .i64 mo, .int .i64 d]
  V0 : Blk w w0.heap.size 36 #[.int .i64 0, .slice none 0 0]
  V1 : Blk w (w0.heap.size + 1) 27 #[.int .i64 0, .int .i64 0, .int .i64 0]
  V2 : Blk w (w0.heap.size + 1 + 1) 29 #[.int .i64 0, .int .i64 0, .int .i64 0, .int .i64 0]
  Q : Zo w0 w B g m base w0.heap.size b l.length cap l
  h1 : w0.heap.size + 1 + 1 < base
  h2 : base < zb
  h3 : base < nb
section
variable {w0 w w' : World} {B g m base zb nb : Nat} {o : Int} {b cap : Nat} {l : List R2} {y mo d : Int}
theorem Lc.alloc (h : Lc w0 w B g m base zb nb o b cap l y mo d) (x : Obj) : Lc w0 (w.alloc x) B g m base zb nb o b cap l y mo d := ⟨h.Z.alloc x, h.N.alloc x, h.V0.alloc x, h.V1.alloc x, h.V2.alloc x, h.Q.alloc x, h.h1, h.h2, h.h3⟩
theorem Lc.drew (h : Lc w0 w B g m base zb nb o b cap l y mo d) : Lc w0 w.drew B g m base zb nb o b cap l y mo d := ⟨h.Z, h.N, h.V0, h.V1, h.V2, h.Q.drew, h.h1, h.h2, h.h3⟩
theorem Lc.pick (h : Lc w0 w B g m base zb nb o b cap l y mo d) {m' : Nat} (hr : Rd B w' g m') (hg : w.grownBy w' (some g)) : Lc w0 w' B g m' base zb nb o b cap l y mo d :=
  have a0 := h.Q.h0; have a1 := h.h1; have a2 := h.h2; have a3 := h.h3
  ⟨h.Z.grown' hg (by omega), h.N.grown' hg (by omega), h.V0.grown' hg (by omega), h.V1.grown' hg (by omega), h.V2.grown' hg (by omega), h.Q.pick hr hg, h.h1, h.h2, h.h3⟩
theorem Lc.below (h : Lc w0 w B g m base zb nb o b cap l y mo d) (hb : Below w.heap.size w w') : Lc w0 w' B g m base zb nb o b cap l y mo d :=
  ⟨h.Z.below hb h.Z.lt, h.N.below hb h.N.lt, h.V0.below hb h.V0.lt, h.V1.below hb h.V1.lt, h.V2.below hb h.V2.lt, h.Q.below hb, h.h1, h.h2, h.h3⟩
theorem Lc.more (h : Lc w0 w B g m base zb nb o b cap l y mo d) {m' : Nat} (hm : m ≤ m') : Lc w0 w B g m' base zb nb o b cap l y mo d := ⟨h.Z, h.N, h.V0, h.V1, h.V2, h.Q.more hm, h.h1, h.h2, h.h3⟩
theorem Lc.zc (h : Lc w0 w B g m base zb nb o b cap l y mo d) : w.cell? ⟨zb, 0, none⟩ = some (.int .i64 o) ∧ w.cell? ⟨zb, 1, none⟩ = some (.slice (some ⟨b, 0, none⟩) l.length cap) := ⟨h.Z.cell 0, h.Z.cell 1⟩
theorem Lc.tc (h : Lc w0 w B g m base zb nb o b cap l y mo d) {k : Nat} (hk : k < l.length) : w.cell? ⟨b, k * 2, none⟩ = some (.int .i64 (l.getD k (0, 0)).1) ∧ w.cell? ⟨b, k * 2 + 1, none⟩ = some (.int .i64 (l.getD k (0, 0)).2) := by
  have h1 := h.Q.O.cellAt (k * 2) (by omega)
  have h2 := h.Q.O.cellAt (k * 2 + 1) (by omega)
  rw [(flatP_get l k hk).1] at h1
  rw [(flatP_get l k hk).2] at h2
  exact ⟨h1, h2⟩
theorem Lc.blt (h : Lc w0 w B g m base zb nb o b cap l y mo d) : b < w.heap.size := (h.Q.O.lt b rfl).2
/-- Both structs' cells. -/
theorem c5 {W : World} {a c : Nat} {t1 t2 : TypeId} {v0 v1 v2 v3 v4 : Value} (X : Blk W a t1 #[v0, v1]) (Y : Blk W c t2 #[v2, v3, v4]) :
    W.cell? ⟨a, 0, none⟩ = some v0 ∧ W.cell? ⟨a, 1, none⟩ = some v1 ∧ W.cell? ⟨c, 0, none⟩ = some v2 ∧ W.cell? ⟨c, 1, none⟩ = some v3 ∧ W.cell? ⟨c, 2, none⟩ = some v4 := ⟨X.cell 0, X.cell 1, Y.cell 0, Y.cell 1, Y.cell 2⟩
/-- What is left when the results are laid in whatever order: the three blocks, and the rest. -/
structure Le (w0 w : World) (B g m base zb nb : Nat) (o : Int) (b cap : Nat) (l : List R2) (y mo d : Int) (r0 r1 r2 : Array Value) : Prop where
  Z : Blk w zb 36 #[.int .i64 o, .slice (some ⟨b, 0, none⟩) l.length cap]
  N : Blk w nb 27 #[.int .i64 y, .int .i64 mo, .int .i64 d]
  V0 : Blk w w0.heap.size 36 r0
  V1 : Blk w (w0.heap.size + 1) 27 r1
  V2 : Blk w (w0.heap.size + 1 + 1) 29 r2
  Q : Zo w0 w B g m base w0.heap.size b l.length cap l
  h1 : w0.heap.size + 1 + 1 < base
  h2 : base < zb
  h3 : base < nb
variable {r0 r1 r2 : Array Value}
theorem Lc.le (h : Lc w0 w B g m base zb nb o b cap l y mo d) : Le w0 w B g m base zb nb o b cap l y mo d #[.int .i64 0, .slice none 0 0] #[.int .i64 0, .int .i64 0, .int .i64 0] #[.int .i64 0, .int .i64 0, .int .i64 0, .int .i64 0] := ⟨h.Z, h.N, h.V0, h.V1, h.V2, h.Q, h.h1, h.h2, h.h3⟩
theorem Le.drew (h : Le w0 w B g m base zb nb o b cap l y mo d r0 r1 r2) : Le w0 w.drew B g m base zb nb o b cap l y mo d r0 r1 r2 := ⟨h.Z, h.N, h.V0, h.V1, h.V2, h.Q.drew, h.h1, h.h2, h.h3⟩
theorem Le.pick (h : Le w0 w B g m base zb nb o b cap l y mo d r0 r1 r2) {m' : Nat} (hr : Rd B w' g m') (hg : w.grownBy w' (some g)) : Le w0 w' B g m' base zb nb o b cap l y mo d r0 r1 r2 :=
  have a0 := h.Q.h0; have a1 := h.h1; have a2 := h.h2; have a3 := h.h3
  ⟨h.Z.grown' hg (by omega), h.N.grown' hg (by omega), h.V0.grown' hg (by omega), h.V1.grown' hg (by omega), h.V2.grown' hg (by omega), h.Q.pick hr hg, h.h1, h.h2, h.h3⟩
theorem Le.below (h : Le w0 w B g m base zb nb o b cap l y mo d r0 r1 r2) (hb : Below w.heap.size w w') : Le w0 w' B g m base zb nb o b cap l y mo d r0 r1 r2 :=
  ⟨h.Z.below hb h.Z.lt, h.N.below hb h.N.lt, h.V0.below hb h.V0.lt, h.V1.below hb h.V1.lt, h.V2.below hb h.V2.lt, h.Q.below hb, h.h1, h.h2, h.h3⟩
theorem Le.set0 (h : Le w0 w B g m base zb nb o b cap l y mo d r0 r1 r2) (u v : Value) : Le w0 ((w.setCell ⟨w0.heap.size, 0, none⟩ u).setCell ⟨w0.heap.size, 1, none⟩ v) B g m base zb nb o b cap l y mo d ((r0.setIfInBounds 0 u).setIfInBounds 1 v) r1 r2 := by
  have a1 := h.h1; have a2 := h.h2; have a3 := h.h3
  have n1 : zb ≠ w0.heap.size := by omega
  have n2 : nb ≠ w0.heap.size := by omega
  have n3 : w0.heap.size + 1 ≠ w0.heap.size := by omega
  have n4 : w0.heap.size + 1 + 1 ≠ w0.heap.size := by omega
  exact ⟨(h.Z.far (p := ⟨w0.heap.size, 0, none⟩) n1 _).far (p := ⟨w0.heap.size, 1, none⟩) n1 _, (h.N.far (p := ⟨w0.heap.size, 0, none⟩) n2 _).far (p := ⟨w0.heap.size, 1, none⟩) n2 _, (h.V0.set_ 0 _).set_ 1 _, (h.V1.far (p := ⟨w0.heap.size, 0, none⟩) n3 _).far (p := ⟨w0.heap.size, 1, none⟩) n3 _, (h.V2.far (p := ⟨w0.heap.size, 0, none⟩) n4 _).far (p := ⟨w0.heap.size, 1, none⟩) n4 _,
    (h.Q.set (p := ⟨w0.heap.size, 0, none⟩) (Nat.le_refl _) h.Q.h2 _).set (p := ⟨w0.heap.size, 1, none⟩) (Nat.le_refl _) h.Q.h2 _, h.h1, h.h2, h.h3⟩
theorem Le.set1 (h : Le w0 w B g m base zb nb o b cap l y mo d r0 r1 r2) (u v x : Value) : Le w0 (((w.setCell ⟨w0.heap.size + 1, 0, none⟩ u).setCell ⟨w0.heap.size + 1, 1, none⟩ v).setCell ⟨w0.heap.size + 1, 2, none⟩ x) B g m base zb nb o b cap l y mo d r0 (((r1.setIfInBounds 0 u).setIfInBounds 1 v).setIfInBounds 2 x) r2 := by
  have a1 := h.h1; have a2 := h.h2; have a3 := h.h3
  have n1 : zb ≠ w0.heap.size + 1 := by omega
  have n2 : nb ≠ w0.heap.size + 1 := by omega
  have n3 : w0.heap.size ≠ w0.heap.size + 1 := by omega
  have n4 : w0.heap.size + 1 + 1 ≠ w0.heap.size + 1 := by omega
  have q1 : w0.heap.size ≤ w0.heap.size + 1 := Nat.le_succ _
  have q2 : w0.heap.size + 1 < base := by omega
  exact ⟨((h.Z.far (p := ⟨w0.heap.size + 1, 0, none⟩) n1 _).far (p := ⟨w0.heap.size + 1, 1, none⟩) n1 _).far (p := ⟨w0.heap.size + 1, 2, none⟩) n1 _, ((h.N.far (p := ⟨w0.heap.size + 1, 0, none⟩) n2 _).far (p := ⟨w0.heap.size + 1, 1, none⟩) n2 _).far (p := ⟨w0.heap.size + 1, 2, none⟩) n2 _, ((h.V0.far (p := ⟨w0.heap.size + 1, 0, none⟩) n3 _).far (p := ⟨w0.heap.size + 1, 1, none⟩) n3 _).far (p := ⟨w0.heap.size + 1, 2, none⟩) n3 _, ((h.V1.set_ 0 _).set_ 1 _).set_ 2 _, ((h.V2.far (p := ⟨w0.heap.size + 1, 0, none⟩) n4 _).far (p := ⟨w0.heap.size + 1, 1, none⟩) n4 _).far (p := ⟨w0.heap.size + 1, 2, none⟩) n4 _,
    ((h.Q.set (p := ⟨w0.heap.size + 1, 0, none⟩) q1 q2 _).set (p := ⟨w0.heap.size + 1, 1, none⟩) q1 q2 _).set (p := ⟨w0.heap.size + 1, 2, none⟩) q1 q2 _, h.h1, h.h2, h.h3⟩
theorem Le.set2 (h : Le w0 w B g m base zb nb o b cap l y mo d r0 r1 r2) (u v x z : Value) : Le w0 ((((w.setCell ⟨w0.heap.size + 1 + 1, 0, none⟩ u).setCell ⟨w0.heap.size + 1 + 1, 1, none⟩ v).setCell ⟨w0.heap.size + 1 + 1, 2, none⟩ x).setCell ⟨w0.heap.size + 1 + 1, 3, none⟩ z) B g m base zb nb o b cap l y mo d r0 r1 ((((r2.setIfInBounds 0 u).setIfInBounds 1 v).setIfInBounds 2 x).setIfInBounds 3 z) := by
  have a1 := h.h1; have a2 := h.h2; have a3 := h.h3
  have n1 : zb ≠ w0.heap.size + 1 + 1 := by omega
  have n2 : nb ≠ w0.heap.size + 1 + 1 := by omega
  have n3 : w0.heap.size ≠ w0.heap.size + 1 + 1 := by omega
  have n4 : w0.heap.size + 1 ≠ w0.heap.size + 1 + 1 := by omega
  have q1 : w0.heap.size ≤ w0.heap.size + 1 + 1 := by omega
  have q2 : w0.heap.size + 1 + 1 < base := by omega
  exact ⟨(((h.Z.far (p := ⟨w0.heap.size + 1 + 1, 0, none⟩) n1 _).far (p := ⟨w0.heap.size + 1 + 1, 1, none⟩) n1 _).far (p := ⟨w0.heap.size + 1 + 1, 2, none⟩) n1 _).far (p := ⟨w0.heap.size + 1 + 1, 3, none⟩) n1 _, (((h.N.far (p := ⟨w0.heap.size + 1 + 1, 0, none⟩) n2 _).far (p := ⟨w0.heap.size + 1 + 1, 1, none⟩) n2 _).far (p := ⟨w0.heap.size + 1 + 1, 2, none⟩) n2 _).far (p := ⟨w0.heap.size + 1 + 1, 3, none⟩) n2 _, (((h.V0.far (p := ⟨w0.heap.size + 1 + 1, 0, none⟩) n3 _).far (p := ⟨w0.heap.size + 1 + 1, 1, none⟩) n3 _).far (p := ⟨w0.heap.size + 1 + 1, 2, none⟩) n3 _).far (p := ⟨w0.heap.size + 1 + 1, 3, none⟩) n3 _, (((h.V1.far (p := ⟨w0.heap.size + 1 + 1, 0, none⟩) n4 _).far (p := ⟨w0.heap.size + 1 + 1, 1, none⟩) n4 _).far (p := ⟨w0.heap.size + 1 + 1, 2, none⟩) n4 _).far (p := ⟨w0.heap.size + 1 + 1, 3, none⟩) n4 _, (((h.V2.set_ 0 _).set_ 1 _).set_ 2 _).set_ 3 _,
    (((h.Q.set (p := ⟨w0.heap.size + 1 + 1, 0, none⟩) q1 q2 _).set (p := ⟨w0.heap.size + 1 + 1, 1, none⟩) q1 q2 _).set (p := ⟨w0.heap.size + 1 + 1, 2, none⟩) q1 q2 _).set (p := ⟨w0.heap.size + 1 + 1, 3, none⟩) q1 q2 _, h.h1, h.h2, h.h3⟩
/-- Every cell of the three blocks can be written. -/
theorem Le.fz (h : Le w0 w B g m base zb nb o b cap l y mo d r0 r1 r2) : (∀ i, w.frozen? ⟨w0.heap.size, i, none⟩ = false) ∧ (∀ i, w.frozen? ⟨w0.heap.size + 1, i, none⟩ = false) ∧ (∀ i, w.frozen? ⟨w0.heap.size + 1 + 1, i, none⟩ = false) := ⟨h.V0.frozen, h.V1.frozen, h.V2.frozen⟩
end
end Go.Proofs.YtjdlffkbhaieaaaDoor
