/- Draws of zones. -/
import Derived.Test.YtjdlffkbhaieaaaDoorGz
import Derived.Test.YtjdlffkbhaieaaaDoorDt5
import Derived.Deep.AppendLies
import Derived.Deep.RegionLaw
import Derived.OneCell
namespace Go.Proofs.YtjdlffkbhaieaaaDoor
open Go.RowKit

/-- A drawn zone and a date. -/
def DrawnZ (B g m : Nat) (w : World) (e : Ending) (w' : World) : Prop :=
  ∃ (o : Int) (b cap : Nat) (l : List R2) (y mo d : Int), e = .returned (.tuple #[.agg #[.int .i64 o, .slice (some ⟨b, 0, none⟩) l.length cap], .agg #[.int .i64 y, .int .i64 mo, .int .i64 d]]) ∧
    w'.ownsRow w.heap.size 68 2 (.slice (some ⟨b, 0, none⟩) l.length cap) l.length (flatP l) ∧ l.length ≤ 5 ∧ Bd 1000000000000000 l ∧ Rd B w' g (m + 40) ∧ w.grownBy w' (some g)

theorem list5 {w : World} {H : Nat} {t : TypeId} (hB : Blk w H t #[.int .i64 60, .int .i64 (-60), .int .i64 30, .int .i64 (-120), .int .i64 60]) {v : Nat} (hv : v < 5) : ∃ z : Int, -120 ≤ z ∧ z ≤ 60 ∧ w.cell? ⟨H, v, none⟩ = some (.int .i64 z) := by
  have := hB.cell v
  rcases (show v = 0 ∨ v = 1 ∨ v = 2 ∨ v = 3 ∨ v = 4 by omega) with rfl | rfl | rfl | rfl | rfl
  · exact ⟨_, by decide, by decide, this⟩
  · exact ⟨_, by decide, by decide, this⟩
  · exact ⟨_, by decide, by decide, this⟩
  · exact ⟨_, by decide, by decide, this⟩
  · exact ⟨_, by decide, by decide, this⟩
theorem list2 {w : World} {H : Nat} {t : TypeId} {p q : Int} (hB : Blk w H t #[.int .i64 p, .int .i64 q]) {v : Nat} (hv : v < 2) : ∃ z : Int, (z = p ∨ z = q) ∧ w.cell? ⟨H, v, none⟩ = some (.int .i64 z) := by
  have := hB.cell v
  rcases (show v = 0 ∨ v = 1 by omega) with rfl | rfl
  · exact ⟨_, .inl rfl, this⟩
  · exact ⟨_, .inr rfl, this⟩

/-- What stands while a zone is drawn. -/
structure Zs (w0 w : World) (B g m base zr dr zb nb : Nat) (o : Int) (b k cap : Nat) (l : List R2) (y mo d : Int) : Prop where
  Z : Blk w zb 36 #[.int .i64 o, .slice (some ⟨b, 0, none⟩) k cap]
  O : w.ownsRow base 68 2 (.slice (some ⟨b, 0, none⟩) k cap) k (flatP l)
  N : Blk w nb 27 #[.int .i64 y, .int .i64 mo, .int .i64 d]
  R : Blk w zr 36 #[.int .i64 0, .slice none 0 0]
  S : Blk w dr 27 #[.int .i64 0, .int .i64 0, .int .i64 0]
  T : Rd B w g m
  G : w0.grownBy w (some g)
  h0 : g < zr
  h1 : zr < dr
  h2 : dr < base
  h3 : base < zb
  h4 : zb < nb
  h5 : b ≠ zb
  h6 : b ≠ nb
  h7 : w0.heap.size ≤ zr
section
variable {w0 w w' : World} {B g m base zr dr zb nb : Nat} {o : Int} {b k cap : Nat} {l : List R2} {y mo d : Int}
theorem Zs.alloc (h : Zs w0 w B g m base zr dr zb nb o b k cap l y mo d) (x : Obj) : Zs w0 (w.alloc x) B g m base zr dr zb nb o b k cap l y mo d :=
  ⟨h.Z.alloc x, h.O.alloc x, h.N.alloc x, h.R.alloc x, h.S.alloc x, h.T.alloc x, only_alloc h.G x, h.h0, h.h1, h.h2, h.h3, h.h4, h.h5, h.h6, h.h7⟩
theorem Zs.drew (h : Zs w0 w B g m base zr dr zb nb o b k cap l y mo d) : Zs w0 w.drew B g m base zr dr zb nb o b k cap l y mo d :=
  ⟨h.Z, h.O, h.N, h.R, h.S, h.T, only_drew h.G, h.h0, h.h1, h.h2, h.h3, h.h4, h.h5, h.h6, h.h7⟩
theorem Zs.pick (h : Zs w0 w B g m base zr dr zb nb o b k cap l y mo d) {m' : Nat} (hr : Rd B w' g m') (hg : w.grownBy w' (some g)) : Zs w0 w' B g m' base zr dr zb nb o b k cap l y mo d :=
  have a0 := h.h0; have a1 := h.h1; have a2 := h.h2; have a3 := h.h3; have a4 := h.h4
  ⟨h.Z.grown' hg (by omega), own_rd h.O hg (by omega), h.N.grown' hg (by omega), h.R.grown' hg (by omega), h.S.grown' hg (by omega), hr, only_trans h.G hg, h.h0, h.h1, h.h2, h.h3, h.h4, h.h5, h.h6, h.h7⟩
theorem Zs.below (h : Zs w0 w B g m base zr dr zb nb o b k cap l y mo d) (hb : Below w.heap.size w w') : Zs w0 w' B g m base zr dr zb nb o b k cap l y mo d :=
  ⟨h.Z.below hb h.Z.lt, own_below h.O hb, h.N.below hb h.N.lt, h.R.below hb h.R.lt, h.S.below hb h.S.lt, h.T.below hb h.T.lt, only_below h.G hb, h.h0, h.h1, h.h2, h.h3, h.h4, h.h5, h.h6, h.h7⟩
theorem Zs.more (h : Zs w0 w B g m base zr dr zb nb o b k cap l y mo d) {m' : Nat} (hm : m ≤ m') : Zs w0 w B g m' base zr dr zb nb o b k cap l y mo d :=
  ⟨h.Z, h.O, h.N, h.R, h.S, h.T.more hm, h.G, h.h0, h.h1, h.h2, h.h3, h.h4, h.h5, h.h6, h.h7⟩
/-- Behind an append, and the store of the new slice. -/
theorem Zs.app (h : Zs w0 w B g m base zr dr zb nb o b k cap l y mo d) {b' cap' : Nat} {x z : Int} (ho : w'.ownsRow base 68 2 (.slice (some ⟨b', 0, none⟩) (k + 1) cap') (k + 1) (flatP l ++ [.int .i64 x, .int .i64 z]))
    (hg : w.grownBy w' (some b)) (hat : some b = some b' ∨ b' = w.heap.size) : Zs w0 (w'.setCell ⟨zb, 1, none⟩ (.slice (some ⟨b', 0, none⟩) (k + 1) cap')) B g m base zr dr zb nb o b' (k + 1) cap' (l ++ [(x, z)]) y mo d := by
  have a0 := h.h0; have a1 := h.h1; have a2 := h.h2; have a3 := h.h3; have a4 := h.h4
  have hb := (h.O.lt b rfl).1
  have hzl := h.Z.lt
  have hnl := h.N.lt
  have hg0 := h.G.size
  have hw0 := h.h7
  have hb5 : b' ≠ zb := by
    rcases hat with e | e
    · injection e with e; rw [← e]; exact h.h5
    · omega
  have hb6 : b' ≠ nb := by
    rcases hat with e | e
    · injection e with e; rw [← e]; exact h.h6
    · omega
  refine ⟨(h.Z.grown' hg (Ne.symm h.h5)).set_ 1 _, ?_, (h.N.grown' hg (Ne.symm h.h6)).far (by show nb ≠ zb; omega) _, (h.R.grown' hg (by omega)).far (by show zr ≠ zb; omega) _, (h.S.grown' hg (by omega)).far (by show dr ≠ zb; omega) _,
    (h.T.grown hg (fun j hj => by injection hj with hj; omega)).setCell (by show g < zb; omega) _, only_setCell (only_widen hg (by omega) h.G) (.inr (by show w0.heap.size ≤ zb; omega)) _, h.h0, h.h1, h.h2, h.h3, h.h4, hb5, hb6, h.h7⟩
  have ho' : w'.ownsRow base 68 2 (.slice (some ⟨b', 0, none⟩) (k + 1) cap') (k + 1) (flatP (l ++ [(x, z)])) := by rw [flatP_app, flatP_one]; exact ho
  exact ownsRow_setCell_other ho' (a := ⟨zb, 1, none⟩) (fun e => hb5 (by injection e)) _
/-- Behind a store of a date. -/
theorem Zs.near (h : Zs w0 w B g m base zr dr zb nb o b k cap l y mo d) (y' mo' d' : Int) : Zs w0 (((w.setCell ⟨nb, 0, none⟩ (.int .i64 y')).setCell ⟨nb, 1, none⟩ (.int .i64 mo')).setCell ⟨nb, 2, none⟩ (.int .i64 d')) B g m base zr dr zb nb o b k cap l y' mo' d' := by
  have a0 := h.h0; have a1 := h.h1; have a2 := h.h2; have a3 := h.h3; have a4 := h.h4; have a7 := h.h7
  have hne : (Value.slice (some ⟨b, 0, none⟩) k cap).ownBlock ≠ some nb := fun e => h.h6 (by injection e)
  have f : ∀ {W : World} {i : Nat} {u : Value}, W.ownsRow base 68 2 (.slice (some ⟨b, 0, none⟩) k cap) k (flatP l) → (W.setCell ⟨nb, i, none⟩ u).ownsRow base 68 2 (.slice (some ⟨b, 0, none⟩) k cap) k (flatP l) := fun {W} {i} {u} hW => ownsRow_setCell_other hW (a := ⟨nb, i, none⟩) hne _
  have q : ∀ {W : World} {i : Nat} {u : Value}, w0.grownBy W (some g) → w0.grownBy (W.setCell ⟨nb, i, none⟩ u) (some g) := fun {W} {i} {u} hW => only_setCell hW (.inr (by show w0.heap.size ≤ nb; omega)) _
  have z1 : zb ≠ nb := by omega
  have z2 : zr ≠ nb := by omega
  have z3 : dr ≠ nb := by omega
  have z4 : g < nb := by omega
  exact ⟨((h.Z.far (p := ⟨nb, 0, none⟩) z1 _).far (p := ⟨nb, 1, none⟩) z1 _).far (p := ⟨nb, 2, none⟩) z1 _, f (f (f h.O)), ((h.N.set_ 0 _).set_ 1 _).set_ 2 _,
    ((h.R.far (p := ⟨nb, 0, none⟩) z2 _).far (p := ⟨nb, 1, none⟩) z2 _).far (p := ⟨nb, 2, none⟩) z2 _, ((h.S.far (p := ⟨nb, 0, none⟩) z3 _).far (p := ⟨nb, 1, none⟩) z3 _).far (p := ⟨nb, 2, none⟩) z3 _,
    ((h.T.setCell (a := ⟨nb, 0, none⟩) z4 _).setCell (a := ⟨nb, 1, none⟩) z4 _).setCell (a := ⟨nb, 2, none⟩) z4 _, q (q (q h.G)), h.h0, h.h1, h.h2, h.h3, h.h4, h.h5, h.h6, h.h7⟩
/-- Behind a store of an offset. -/
theorem Zs.off (h : Zs w0 w B g m base zr dr zb nb o b k cap l y mo d) (o' : Int) : Zs w0 (w.setCell ⟨zb, 0, none⟩ (.int .i64 o')) B g m base zr dr zb nb o' b k cap l y mo d := by
  have a0 := h.h0; have a1 := h.h1; have a2 := h.h2; have a3 := h.h3; have a4 := h.h4; have a7 := h.h7
  have z1 : nb ≠ zb := by omega
  have z2 : zr ≠ zb := by omega
  have z3 : dr ≠ zb := by omega
  have z4 : g < zb := by omega
  exact ⟨h.Z.set_ 0 _, ownsRow_setCell_other h.O (a := ⟨zb, 0, none⟩) (fun e => h.h5 (by injection e)) _, h.N.far (p := ⟨zb, 0, none⟩) z1 _, h.R.far (p := ⟨zb, 0, none⟩) z2 _, h.S.far (p := ⟨zb, 0, none⟩) z3 _,
    h.T.setCell (a := ⟨zb, 0, none⟩) z4 _, only_setCell h.G (.inr (by show w0.heap.size ≤ zb; omega)) _, h.h0, h.h1, h.h2, h.h3, h.h4, h.h5, h.h6, h.h7⟩
/-- What is left when the results are laid. -/
structure Zo (w0 w : World) (B g m base zr : Nat) (b k cap : Nat) (l : List R2) : Prop where
  O : w.ownsRow base 68 2 (.slice (some ⟨b, 0, none⟩) k cap) k (flatP l)
  T : Rd B w g m
  G : w0.grownBy w (some g)
  h0 : g < zr
  h1 : w0.heap.size ≤ zr
  h2 : zr < base
theorem Zs.zo (h : Zs w0 w B g m base zr dr zb nb o b k cap l y mo d) : Zo w0 w B g m base zr b k cap l := ⟨h.O, h.T, h.G, h.h0, h.h7, Nat.lt_trans h.h1 h.h2⟩
theorem Zo.drew (h : Zo w0 w B g m base zr b k cap l) : Zo w0 w.drew B g m base zr b k cap l := ⟨h.O, h.T, only_drew h.G, h.h0, h.h1, h.h2⟩
theorem Zo.set (h : Zo w0 w B g m base zr b k cap l) {p : Addr} (h1 : zr ≤ p.block) (h2 : p.block < base) (u : Value) : Zo w0 (w.setCell p u) B g m base zr b k cap l :=
  ⟨ownsRow_setCell_below h.O h2 _, h.T.setCell (Nat.lt_of_lt_of_le h.h0 h1) _, only_setCell h.G (.inr (Nat.le_trans h.h1 h1)) _, h.h0, h.h1, h.h2⟩
theorem Zo.drawn {m' : Nat} {e : Ending} (h : Zo w0 w B g m' base zr b k cap l) (hk : l.length = k) (h5 : k ≤ 5) (hb : Bd 1000000000000000 l) (hm : m' ≤ m + 40)
    (he : e = .returned (.tuple #[.agg #[.int .i64 o, .slice (some ⟨b, 0, none⟩) k cap], .agg #[.int .i64 y, .int .i64 mo, .int .i64 d]])) : DrawnZ B g m w0 e w := by
  subst hk
  exact ⟨o, b, cap, l, y, mo, d, he, own_more h.O (Nat.le_trans h.h1 (Nat.le_of_lt h.h2)), h5, hb, h.T.more hm, h.G⟩
end

set_option maxRecDepth 100000 in
set_option maxHeartbeats 4000000 in
theorem l92Zone_any {B g m : Nat} {w : World} (hr : Rd B w g m) (hm : m ≤ 50000) :
    Calls Tryd.prog 76 #[.pointer (some ⟨g, 0, none⟩)] w (DrawnZ B g m w) := by
  obtain ⟨i0, hi, hz0, hz1, hz2⟩ := info_parts info_impl
  have hgl := hr.lt
  have R0 := (Blk.new w 36 #[.int .i64 0, .slice none 0 0]).alloc (.cells #[.int .i64 0, .int .i64 0, .int .i64 0] 27)
  have S0 : Blk ((w.alloc (.cells #[.int .i64 0, .slice none 0 0] 36)).alloc (.cells #[.int .i64 0, .int .i64 0, .int .i64 0] 27)) (w.heap.size + 1) 27 #[.int .i64 0, .int .i64 0, .int .i64 0] := Blk.newE (by simp)
  have G0 := only_alloc (only_alloc (only_refl w (some g)) (.cells #[.int .i64 0, .slice none 0 0] 36)) (.cells #[.int .i64 0, .int .i64 0, .int .i64 0] 27)
  go_enter Tryd.func76, Tryd.ntmps76
  go_wp2_with fail
  refine (pick_any ((hr.alloc _).alloc _) (by omega) (by omega)).mono ?_
  rintro e w1 ⟨v1, a1, b1, rfl, hr1, hg1⟩
  have R1 := R0.grown' hg1 (by omega)
  have S1 := S0.grown' hg1 (by omega)
  have G1 := only_trans G0 hg1
  clear R0 S0 G0
  go_wp2_with fail
  refine (pick_any hr1 (by omega) (by omega)).mono ?_
  rintro e w2 ⟨v2, a2, b2, rfl, hr2, hg2⟩
  have R2 := R1.grown' hg2 (by omega)
  have S2 := S1.grown' hg2 (by omega)
  have G2 := only_trans G1 hg2
  clear R1 S1 G1 hg1 hr1 hg2
  have hs2 := G2.size
  have hgl2 := hr2.lt
  go_wp2_with fail
  refine (pick_any (hr2.alloc _) (by omega) (by omega)).mono ?_
  rintro e w3 ⟨v3, a3, b3, rfl, hr3, hg3⟩
  have R3 := (R2.alloc (.cells #[.int .i64 (1990 + v1), .int .i64 3, .int .i64 (1 + v2)] 27)).grown' hg3 (by omega)
  have S3 := (S2.alloc (.cells #[.int .i64 (1990 + v1), .int .i64 3, .int .i64 (1 + v2)] 27)).grown' hg3 (by omega)
  have D3 := (Blk.new w2 27 #[.int .i64 (1990 + v1), .int .i64 3, .int .i64 (1 + v2)]).grown' hg3 (by omega)
  have G3 := only_trans (only_alloc G2 (.cells #[.int .i64 (1990 + v1), .int .i64 3, .int .i64 (1 + v2)] 27)) hg3
  clear R2 S2 G2 hr2 hg3
  have hs3 := G3.size
  have hgl3 := hr3.lt
  have hd3 := D3.lt
  have hsd3 := S3.lt
  have E3 : (w3.alloc (.cells #[] 68)).ownsRow w3.heap.size 68 2 (.slice (some ⟨w3.heap.size, 0, none⟩) 0 0) 0 (flatP []) := World.ownsRow_lit (base := w3.heap.size) (size := 2) (e := 68) w3 #[] 0 (Nat.le_refl _) (by simp [maxLen]) (by simp)
  obtain ⟨o, ho⟩ : ∃ o, o = 60 * (v3 - 10) := ⟨_, rfl⟩
  go_wp2_with fail
  rw [← ho]
  have hob : -600 ≤ o ∧ o ≤ 600 := by omega
  clear ho
  have Z3 : Blk ((w3.alloc (.cells #[] 68)).alloc (.cells #[.int .i64 o, .slice (some ⟨w3.heap.size, 0, none⟩) 0 0] 36)) (w3.heap.size + 1) 36 #[.int .i64 o, .slice (some ⟨w3.heap.size, 0, none⟩) 0 0] := Blk.newE (by simp)
  refine (pick_any ((hr3.alloc _).alloc _) (by omega) (by omega)).mono ?_
  rintro e w4 ⟨v4, a4, b4, rfl, hr4, hg4⟩
  have R4 := ((R3.alloc _).alloc _).grown' hg4 (by omega)
  have S4 := ((S3.alloc _).alloc _).grown' hg4 (by omega)
  have D4 := ((D3.alloc _).alloc _).grown' hg4 (by omega)
  have Z4 := Z3.grown' hg4 (by omega)
  have E4 := own_rd (E3.alloc _) hg4 (by omega)
  have G4 := only_trans (only_alloc (only_alloc G3 _) _) hg4
  clear R3 S3 D3 Z3 E3 G3 hr3 hg4
  have d0 := D4.cell 0
  have d1 := D4.cell 1
  have d2 := D4.cell 2
  have hs4 := G4.size
  have hgl4 := hr4.lt
  have hd4 := D4.lt
  simp at d0 d1 d2
  go_wp2_with fail
  refine (spec_dayNumber _ _ _ _).mono ?_
  rintro e w5 ⟨rfl, hb5⟩
  have hv : vld (1990 + v1) 3 (1 + v2) = true := vld_iff.2 ⟨by omega, by omega, by decide, by decide, by omega, by unfold dim; simp; omega⟩
  obtain ⟨day, hday⟩ : ∃ day, day = dnum (1990 + v1) 3 (1 + v2) := ⟨_, rfl⟩
  rw [← hday]
  have hday1 : 0 ≤ day ∧ day ≤ 800000 := by
    rw [hday, dnum_yes hv]
    have h1 := num_bd hv
    have h2 := num_year hv
    have h3 := nyr_bd (1990 + v1 + 1) (by omega)
    omega
  clear hday
  have R5 := R4.below hb5 R4.lt
  have S5 := S4.below hb5 S4.lt
  have D5 := D4.below hb5 D4.lt
  have Z5 := Z4.below hb5 Z4.lt
  have E5 := own_below E4 hb5
  have G5 := only_below G4 hb5
  have hr5 := hr4.below hb5 hgl4
  clear R4 S4 D4 Z4 E4 G4 hr4 hb5 d0 d1 d2
  have d0 := D5.cell 0
  have d1 := D5.cell 1
  have d2 := D5.cell 2
  have hs5 := G5.size
  have hgl5 := hr5.lt
  have hd5 := D5.lt
  simp at d0 d1 d2
  obtain ⟨n, rfl⟩ := Int.eq_ofNat_of_zero_le a4
  go_wp2_with fail
  obtain ⟨zb, hzb⟩ : ∃ zb, zb = w3.heap.size + 1 := ⟨_, rfl⟩
  rw [← hzb] at Z5 ⊢
  have hzl := Z5.lt
  have V6 : Hid (Zs w (w5.alloc (.cells #[.int .i64 (1990 + v1), .int .i64 3, .int .i64 (1 + v2)] 27)) B g (m + 4 + 0 * 4) w3.heap.size w.heap.size (w.heap.size + 1) zb w5.heap.size o w3.heap.size 0 0 [] (1990 + v1) 3 (1 + v2)) :=
    hide ⟨Z5.alloc _, E5.alloc _, Blk.new _ _ _, R5.alloc _, S5.alloc _, (hr5.alloc _).more (by omega), only_alloc G5 _, hgl, Nat.lt_succ_self _, by omega, by omega, by omega, by omega, by omega, Nat.le_refl _⟩
  clear R5 S5 Z5 E5 G5 hr5 D5 d0 d1 d2 hv hzb
  go_loopw [6, 8, 10, 11] (fun u v i _x wr => ∃ (k : Nat) (la dy : Int) (l : List R2) (b cap : Nat) (y mo d : Int), k ≤ n ∧ i = .int .i64 k ∧ u = .int .i64 la ∧ v = .int .i64 dy ∧ Hid (l.length = k) ∧ Hid (Bd 1000000000000000 l) ∧ Hid (Zs w wr B g (m + 4 + k * 4) w3.heap.size w.heap.size (w.heap.size + 1) zb w5.heap.size o b k cap l y mo d) ∧ -1439 ≤ la ∧ la ≤ 1439 ∧ 0 ≤ dy ∧ dy ≤ 800000 + 300 * k) (fun _ _ i _ _ => n - (intOf i).toNat)
  case atStart => exact ⟨0, o, day, [], _, _, _, _, _, by omega, rfl, rfl, rfl, hide rfl, hide (by intro r hr; simp at hr), V6, by omega, by omega, by omega, by omega⟩
  case round =>
    obtain ⟨k, la, dy, l, b, cap, y, mo, d, hk, rfl, rfl, rfl, hlk, hBd, hV, hl1, hl2, hd1, hd2⟩ := hrel
    by_cases hlt : k < n
    · have hV1 := hV.out
      have hT1 := hV1.T
      have hgw := hT1.lt
      have hg0 := hV1.h0
      go_wp2_with fail
      refine (pick_any (hT1.alloc _) (by omega) (by omega)).mono ?_
      rintro e w6 ⟨v6, a6, b6, rfl, hr6, hg6⟩
      obtain ⟨z, z1, z2, cz⟩ := list5 ((Blk.new wr _ _).grown' hg6 (by omega)) (v := v6.toNat) (by omega)
      have V6 := hide ((hV1.alloc _).pick hr6 hg6)
      obtain ⟨vn, rfl⟩ := Int.eq_ofNat_of_zero_le a6
      have q1 : (vn : Int) < 5 := b6
      clear hV hV1 hT1 hgw hr6 hg6
      simp at cz
      have e1 : IntKind.i64.wrap (la + z) = la + z := IntWalk.i64_in _ (by omega)
      cases hin : inB (la + z) (-1439) 1439 with
      | true =>
        go_wp2_with (go_at_call 63; refine (l6In_any _ _ _ _).mono ?_; rintro e w' ⟨rfl, rfl⟩)
        have hof := inB_iff.1 hin
        have zc0 := V6.out.Z.cell 0
        have zc1 := V6.out.Z.cell 1
        have zf1 := V6.out.Z.frozen 1
        have hzl6 := V6.out.Z.lt
        have T6 : Rd B w6.drew g (m + 4 + k * 4 + 1) := V6.out.T
        have e2 : IntKind.i64.wrap (dy * 86400000) = dy * 86400000 := IntWalk.i64_in _ (by omega)
        simp at zc0 zc1
        go_region_law (first | (refine step_append_lies _ (by rfl) (.tmp 48) (.tmp 57) _ (by rfl) w3.heap.size 68 i0 (.agg #[.int .i64 0, .int .i64 0]) 2 16 Tryd.underlying34 hi hz0 hz1 hz2 rfl (by omega) _ k (flatP l) (by rfl) hO7 ⟨w7.heap.size, 0, none⟩ 1 1 [.int .i64 (dy * 86400000 + 3600000 * v7), .int .i64 (la + z)] (by rfl) (by rfl) (news2e _ _ _ _ _ (by rfl)) (pair_one _ _) (by omega) (by unfold maxLen; omega) (by omega) hs7 _ rfl ?_; intro b' cap' w8 hown' hgrow' hat' hlt'; have Z8 := (V7.alloc _).Z.grown' (show World.grownBy _ w8 (some b) from hgrow') (Ne.symm V7.h5); have zf8 := Z8.frozen 1; have zc8 := Z8.cell 1; simp at zc8) | (go_simp; go_at_call 66; refine (pick_any T6 (by omega) (by omega)).mono ?_; rintro e w7 ⟨v7, a7, b7, rfl, hr7, hg7⟩; have V7 := V6.out.drew.pick hr7 hg7; have e3 : IntKind.i64.wrap (3600000 * v7) = 3600000 * v7 := IntWalk.i64_in _ (by omega); have e4 : IntKind.i64.wrap (dy * 86400000 + 3600000 * v7) = dy * 86400000 + 3600000 * v7 := IntWalk.i64_in _ (by omega); have hO7 := V7.O.alloc (.cells #[.int .i64 (dy * 86400000 + 3600000 * v7), .int .i64 (la + z)] 68); have zc7 := V7.Z.cell 1; have hs7 : w3.heap.size ≤ (w7.alloc (.cells #[.int .i64 (dy * 86400000 + 3600000 * v7), .int .i64 (la + z)] 68)).heap.size := Nat.le_of_lt (Nat.lt_trans V7.h3 (V7.Z.alloc _).lt); have hzl7 := V7.Z.lt; simp at zc7))
        all_goals
          have V8 := hide ((V7.alloc (.cells #[.int .i64 (dy * 86400000 + 3600000 * v7), .int .i64 (la + z)] 68)).app hown' (show World.grownBy _ w8 (some b) from hgrow') hat')
          have hbx := hide (show Bd 1000000000000000 (l ++ [(dy * 86400000 + 3600000 * v7, (la + z))]) from hBd.out.snoc ⟨by omega, by omega, by omega, by omega⟩)
          clear hown' hgrow' hat' hlt' V7 hr7 hg7 Z8 zf8 zc8 hO7 zc7 zc0 zc1 zf1 T6 e2 e3 e4
          by_cases hk0 : k = 0
          · subst hk0
            have V9 := V8
            go_wp2_with fail
            refine (spec_dateOf_yes dy _ hd1 (by omega)).mono ?_
            rintro e w10 ⟨rfl, hb10⟩
            have V10 := hide (V9.out.below hb10)
            have n0 := V10.out.N.frozen 0
            have n1 := V10.out.N.frozen 1
            have n2 := V10.out.N.frozen 2
            have nc0 := V10.out.N.cell 0
            have nc1 := V10.out.N.cell 1
            have nc2 := V10.out.N.cell 2
            simp at nc0 nc1 nc2
            clear hb10
            go_wp2_with fail
            have V12 := hide (V10.out.near (yOf dy) (mOf dy) (dOf dy))
            refine (pick_any V12.out.T (by omega) (by omega)).mono ?_
            rintro e w11 ⟨v11, a11, b11, rfl, hr11, hg11⟩
            have V11 := hide (V12.out.pick hr11 hg11)
            clear hr11 hg11 n0 n1 n2 nc0 nc1 nc2
            go_wp2_with fail
            go_roundw
            case rel => exact ⟨0 + 1, (la + z), dy + 4 + v11, l ++ [(dy * 86400000 + 3600000 * v7, (la + z))], b', cap', _, _, _, by omega, by go_num, rfl, rfl, hide (by rw [List.length_append, hlk.out]; rfl), hbx, hide (V11.out.more (by omega)), by omega, by omega, by omega, by omega⟩
            case measure => simp [intOf]; omega
          · have g0 : ((k : Int) == 0) = false := beq_eq_false_iff_ne.2 (by omega)
            go_wp2_with fail
            refine (pick_any V8.out.T (by omega) (by omega)).mono ?_
            rintro e w9 ⟨v9, a9, b9, rfl, hr9, hg9⟩
            have V9 := hide (V8.out.pick hr9 hg9)
            clear hr9 hg9
            by_cases h9 : v9 = 0
            · subst h9
              go_wp2_with fail
              refine (spec_dateOf_yes dy _ hd1 (by omega)).mono ?_
              rintro e w10 ⟨rfl, hb10⟩
              have V10 := hide (V9.out.below hb10)
              have n0 := V10.out.N.frozen 0
              have n1 := V10.out.N.frozen 1
              have n2 := V10.out.N.frozen 2
              have nc0 := V10.out.N.cell 0
              have nc1 := V10.out.N.cell 1
              have nc2 := V10.out.N.cell 2
              simp at nc0 nc1 nc2
              clear hb10
              go_wp2_with fail
              have V12 := hide (V10.out.near (yOf dy) (mOf dy) (dOf dy))
              refine (pick_any V12.out.T (by omega) (by omega)).mono ?_
              rintro e w11 ⟨v11, a11, b11, rfl, hr11, hg11⟩
              have V11 := hide (V12.out.pick hr11 hg11)
              clear hr11 hg11 n0 n1 n2 nc0 nc1 nc2
              go_wp2_with fail
              go_roundw
              case rel => exact ⟨k + 1, (la + z), dy + 4 + v11, l ++ [(dy * 86400000 + 3600000 * v7, (la + z))], b', cap', _, _, _, by omega, by go_num, rfl, rfl, hide (by rw [List.length_append, hlk.out]; rfl), hbx, hide (V11.out.more (by omega)), by omega, by omega, by omega, by omega⟩
              case measure => simp [intOf]; omega
            · have g9 : (v9 == 0) = false := beq_eq_false_iff_ne.2 h9
              go_wp2_with fail
              refine (pick_any V9.out.T (by omega) (by omega)).mono ?_
              rintro e w11 ⟨v11, a11, b11, rfl, hr11, hg11⟩
              have V11 := hide (V9.out.pick hr11 hg11)
              clear hr11 hg11
              go_wp2_with fail
              go_roundw
              case rel => exact ⟨k + 1, (la + z), dy + 4 + v11, l ++ [(dy * 86400000 + 3600000 * v7, (la + z))], b', cap', _, _, _, by omega, by go_num, rfl, rfl, hide (by rw [List.length_append, hlk.out]; rfl), hbx, hide (V11.out.more (by omega)), by omega, by omega, by omega, by omega⟩
              case measure => simp [intOf]; omega
      | false =>
        go_wp2_with (go_at_call 63; refine (l6In_any _ _ _ _).mono ?_; rintro e w' ⟨rfl, rfl⟩)
        have zc0 := V6.out.Z.cell 0
        have zc1 := V6.out.Z.cell 1
        have zf1 := V6.out.Z.frozen 1
        have hzl6 := V6.out.Z.lt
        have T6 : Rd B w6.drew g (m + 4 + k * 4 + 1) := V6.out.T
        have e2 : IntKind.i64.wrap (dy * 86400000) = dy * 86400000 := IntWalk.i64_in _ (by omega)
        simp at zc0 zc1
        go_region_law (first | (refine step_append_lies _ (by rfl) (.tmp 48) (.tmp 57) _ (by rfl) w3.heap.size 68 i0 (.agg #[.int .i64 0, .int .i64 0]) 2 16 Tryd.underlying34 hi hz0 hz1 hz2 rfl (by omega) _ k (flatP l) (by rfl) hO7 ⟨w7.heap.size, 0, none⟩ 1 1 [.int .i64 (dy * 86400000 + 3600000 * v7), .int .i64 0] (by rfl) (by rfl) (news2e _ _ _ _ _ (by rfl)) (pair_one _ _) (by omega) (by unfold maxLen; omega) (by omega) hs7 _ rfl ?_; intro b' cap' w8 hown' hgrow' hat' hlt'; have Z8 := (V7.alloc _).Z.grown' (show World.grownBy _ w8 (some b) from hgrow') (Ne.symm V7.h5); have zf8 := Z8.frozen 1; have zc8 := Z8.cell 1; simp at zc8) | (go_simp; go_at_call 66; refine (pick_any T6 (by omega) (by omega)).mono ?_; rintro e w7 ⟨v7, a7, b7, rfl, hr7, hg7⟩; have V7 := V6.out.drew.pick hr7 hg7; have e3 : IntKind.i64.wrap (3600000 * v7) = 3600000 * v7 := IntWalk.i64_in _ (by omega); have e4 : IntKind.i64.wrap (dy * 86400000 + 3600000 * v7) = dy * 86400000 + 3600000 * v7 := IntWalk.i64_in _ (by omega); have hO7 := V7.O.alloc (.cells #[.int .i64 (dy * 86400000 + 3600000 * v7), .int .i64 0] 68); have zc7 := V7.Z.cell 1; have hs7 : w3.heap.size ≤ (w7.alloc (.cells #[.int .i64 (dy * 86400000 + 3600000 * v7), .int .i64 0] 68)).heap.size := Nat.le_of_lt (Nat.lt_trans V7.h3 (V7.Z.alloc _).lt); have hzl7 := V7.Z.lt; simp at zc7))
        all_goals
          have V8 := hide ((V7.alloc (.cells #[.int .i64 (dy * 86400000 + 3600000 * v7), .int .i64 0] 68)).app hown' (show World.grownBy _ w8 (some b) from hgrow') hat')
          have hbx := hide (show Bd 1000000000000000 (l ++ [(dy * 86400000 + 3600000 * v7, 0)]) from hBd.out.snoc ⟨by omega, by omega, by omega, by omega⟩)
          clear hown' hgrow' hat' hlt' V7 hr7 hg7 Z8 zf8 zc8 hO7 zc7 zc0 zc1 zf1 T6 e2 e3 e4
          by_cases hk0 : k = 0
          · subst hk0
            have V9 := V8
            go_wp2_with fail
            refine (spec_dateOf_yes dy _ hd1 (by omega)).mono ?_
            rintro e w10 ⟨rfl, hb10⟩
            have V10 := hide (V9.out.below hb10)
            have n0 := V10.out.N.frozen 0
            have n1 := V10.out.N.frozen 1
            have n2 := V10.out.N.frozen 2
            have nc0 := V10.out.N.cell 0
            have nc1 := V10.out.N.cell 1
            have nc2 := V10.out.N.cell 2
            simp at nc0 nc1 nc2
            clear hb10
            go_wp2_with fail
            have V12 := hide (V10.out.near (yOf dy) (mOf dy) (dOf dy))
            refine (pick_any V12.out.T (by omega) (by omega)).mono ?_
            rintro e w11 ⟨v11, a11, b11, rfl, hr11, hg11⟩
            have V11 := hide (V12.out.pick hr11 hg11)
            clear hr11 hg11 n0 n1 n2 nc0 nc1 nc2
            go_wp2_with fail
            go_roundw
            case rel => exact ⟨0 + 1, 0, dy + 4 + v11, l ++ [(dy * 86400000 + 3600000 * v7, 0)], b', cap', _, _, _, by omega, by go_num, rfl, rfl, hide (by rw [List.length_append, hlk.out]; rfl), hbx, hide (V11.out.more (by omega)), by omega, by omega, by omega, by omega⟩
            case measure => simp [intOf]; omega
          · have g0 : ((k : Int) == 0) = false := beq_eq_false_iff_ne.2 (by omega)
            go_wp2_with fail
            refine (pick_any V8.out.T (by omega) (by omega)).mono ?_
            rintro e w9 ⟨v9, a9, b9, rfl, hr9, hg9⟩
            have V9 := hide (V8.out.pick hr9 hg9)
            clear hr9 hg9
            by_cases h9 : v9 = 0
            · subst h9
              go_wp2_with fail
              refine (spec_dateOf_yes dy _ hd1 (by omega)).mono ?_
              rintro e w10 ⟨rfl, hb10⟩
              have V10 := hide (V9.out.below hb10)
              have n0 := V10.out.N.frozen 0
              have n1 := V10.out.N.frozen 1
              have n2 := V10.out.N.frozen 2
              have nc0 := V10.out.N.cell 0
              have nc1 := V10.out.N.cell 1
              have nc2 := V10.out.N.cell 2
              simp at nc0 nc1 nc2
              clear hb10
              go_wp2_with fail
              have V12 := hide (V10.out.near (yOf dy) (mOf dy) (dOf dy))
              refine (pick_any V12.out.T (by omega) (by omega)).mono ?_
              rintro e w11 ⟨v11, a11, b11, rfl, hr11, hg11⟩
              have V11 := hide (V12.out.pick hr11 hg11)
              clear hr11 hg11 n0 n1 n2 nc0 nc1 nc2
              go_wp2_with fail
              go_roundw
              case rel => exact ⟨k + 1, 0, dy + 4 + v11, l ++ [(dy * 86400000 + 3600000 * v7, 0)], b', cap', _, _, _, by omega, by go_num, rfl, rfl, hide (by rw [List.length_append, hlk.out]; rfl), hbx, hide (V11.out.more (by omega)), by omega, by omega, by omega, by omega⟩
              case measure => simp [intOf]; omega
            · have g9 : (v9 == 0) = false := beq_eq_false_iff_ne.2 h9
              go_wp2_with fail
              refine (pick_any V9.out.T (by omega) (by omega)).mono ?_
              rintro e w11 ⟨v11, a11, b11, rfl, hr11, hg11⟩
              have V11 := hide (V9.out.pick hr11 hg11)
              clear hr11 hg11
              go_wp2_with fail
              go_roundw
              case rel => exact ⟨k + 1, 0, dy + 4 + v11, l ++ [(dy * 86400000 + 3600000 * v7, 0)], b', cap', _, _, _, by omega, by go_num, rfl, rfl, hide (by rw [List.length_append, hlk.out]; rfl), hbx, hide (V11.out.more (by omega)), by omega, by omega, by omega, by omega⟩
              case measure => simp [intOf]; omega
    · obtain rfl : k = n := by omega
      have T1 := hV.out.T
      go_wp2_with fail
      refine (pick_any T1 (by omega) (by omega)).mono ?_
      rintro e w6 ⟨v6, a6, b6, rfl, hr6, hg6⟩
      have V6 := hide (hV.out.pick hr6 hg6)
      clear hV T1 hr6 hg6
      by_cases h60 : v6 = 0
      · subst h60
        have hgl6 := V6.out.T.lt
        go_wp2_with fail
        refine (pick_any (V6.out.T.alloc _) (by omega) (by omega)).mono ?_
        rintro e w7 ⟨v7, a7, b7, rfl, hr7, hg7⟩
        obtain ⟨z, _, cz⟩ := list2 ((Blk.new w6 _ _).grown' hg7 (by omega)) (v := v7.toNat) (by omega)
        have V7 := hide ((V6.out.alloc _).pick hr7 hg7)
        obtain ⟨vn, rfl⟩ := Int.eq_ofNat_of_zero_le a7
        have q1 : (vn : Int) < 2 := b7
        have of0 := V7.out.Z.frozen 0
        have oc0 := V7.out.Z.cell 0
        simp at cz oc0
        clear hr7 hg7
        go_wp2_with fail
        have V8 := hide (V7.out.off z)
        clear of0 oc0 cz
        have zc0 := V8.out.Z.cell 0
        have zc1 := V8.out.Z.cell 1
        have nc0 := V8.out.N.cell 0
        have nc1 := V8.out.N.cell 1
        have nc2 := V8.out.N.cell 2
        have rc0 := V8.out.R.cell 0
        have rc1 := V8.out.R.cell 1
        have rf0 := V8.out.R.frozen 0
        have rf1 := V8.out.R.frozen 1
        have sc0 := V8.out.S.cell 0
        have sc1 := V8.out.S.cell 1
        have sc2 := V8.out.S.cell 2
        have sf0 := V8.out.S.frozen 0
        have sf1 := V8.out.S.frozen 1
        have sf2 := V8.out.S.frozen 2
        have y1 := V8.out.h1
        have y2 := V8.out.h2
        have y3 := V8.out.h3
        have y4 := V8.out.h4
        have x1 : ¬ zb = w.heap.size := by omega
        have x2 : ¬ zb = w.heap.size + 1 := by omega
        have x3 : ¬ w5.heap.size = w.heap.size := by omega
        have x4 : ¬ w5.heap.size = w.heap.size + 1 := by omega
        have Q := (V8.out.more (show _ ≤ m + 40 by omega)).zo
        have y5 := Nat.lt_trans y1 y2
        simp at zc0 zc1 nc0 nc1 nc2 rc0 rc1 sc0 sc1 sc2
        first | go_region | fail
        all_goals
          go_wp2_with fail
          refine bodyPost_ret (by simp [results, Tryd.results76, go_sem, rc0, rc1, sc0, sc1, sc2, World.cell?_setCell_other]; try rfl) rfl ?_
          refine Zo.drawn (base := w3.heap.size) (zr := w.heap.size) (m' := m + 40) ?_ hlk.out (by omega) hBd.out (by omega) rfl
          repeat' first | (with_reducible exact Q) | (with_reducible refine Zo.drew ?_) | (with_reducible refine Zo.set ?_ ?_ ?_ _) | exact Nat.le_refl _ | exact Nat.le_succ _ | exact y2 | exact y5
      · have g0 : (v6 == 0) = false := beq_eq_false_iff_ne.2 h60
        by_cases h61 : v6 = 1
        · subst h61
          have e2 : IntKind.i64.wrap (dy * 86400000) = dy * 86400000 := IntWalk.i64_in _ (by omega)
          clear h60
          have hO6 := V6.out.O.alloc (.cells #[.int .i64 (dy * 86400000), .int .i64 la] 68)
          have zc1 := V6.out.Z.cell 1
          have zl := V6.out.Z.lt
          have zf := V6.out.Z.frozen 1
          have hs6 : w3.heap.size ≤ (w6.alloc (.cells #[.int .i64 (dy * 86400000), .int .i64 la] 68)).heap.size := Nat.le_of_lt (Nat.lt_trans V6.out.h3 (V6.out.Z.alloc _).lt)
          simp at zc1
          go_wp2_with (at_builtin; refine wpList_append_lies _ rfl (.tmp 91) (.tmp 96) _ rfl w3.heap.size 68 i0 (.agg #[.int .i64 0, .int .i64 0]) 2 16 Tryd.underlying34 hi hz0 hz1 hz2 rfl (by omega) _ k (flatP l) rfl hO6 ⟨w6.heap.size, 0, none⟩ 1 1 [.int .i64 (dy * 86400000), .int .i64 la] rfl rfl (news2e _ _ _ _ _ rfl) (pair_one _ _) (by omega) (by unfold maxLen; omega) (by omega) hs6 _ rfl ?_; intro b' cap' w8 hown' hgrow' hat' hlt'; have Z8 := (V6.out.alloc (.cells #[.int .i64 (dy * 86400000), .int .i64 la] 68)).Z.grown' (show World.grownBy _ w8 (some b) from hgrow') (Ne.symm V6.out.h5); have zf8 := Z8.frozen 1; have zc8 := Z8.cell 1; simp at zc8)
          have V8 := hide ((V6.out.alloc (.cells #[.int .i64 (dy * 86400000), .int .i64 la] 68)).app hown' (show World.grownBy _ w8 (some b) from hgrow') hat')
          have hbx := hide (show Bd 1000000000000000 (l ++ [((dy * 86400000), la)]) from hBd.out.snoc ⟨by omega, by omega, by omega, by omega⟩)
          have hlx := hide (show (l ++ [((dy * 86400000), la)]).length = k + 1 by rw [List.length_append, hlk.out]; rfl)
          clear hown' hgrow' hat' hlt' hO6 zc1 zf zl Z8 zf8 zc8 hs6
          clear e2
          go_wp2_with fail
          have zc0 := V8.out.Z.cell 0
          have zc1 := V8.out.Z.cell 1
          have nc0 := V8.out.N.cell 0
          have nc1 := V8.out.N.cell 1
          have nc2 := V8.out.N.cell 2
          have rc0 := V8.out.R.cell 0
          have rc1 := V8.out.R.cell 1
          have rf0 := V8.out.R.frozen 0
          have rf1 := V8.out.R.frozen 1
          have sc0 := V8.out.S.cell 0
          have sc1 := V8.out.S.cell 1
          have sc2 := V8.out.S.cell 2
          have sf0 := V8.out.S.frozen 0
          have sf1 := V8.out.S.frozen 1
          have sf2 := V8.out.S.frozen 2
          have y1 := V8.out.h1
          have y2 := V8.out.h2
          have y3 := V8.out.h3
          have y4 := V8.out.h4
          have x1 : ¬ zb = w.heap.size := by omega
          have x2 : ¬ zb = w.heap.size + 1 := by omega
          have x3 : ¬ w5.heap.size = w.heap.size := by omega
          have x4 : ¬ w5.heap.size = w.heap.size + 1 := by omega
          have Q := (V8.out.more (show _ ≤ m + 40 by omega)).zo
          have y5 := Nat.lt_trans y1 y2
          simp at zc0 zc1 nc0 nc1 nc2 rc0 rc1 sc0 sc1 sc2
          first | go_region | fail
          all_goals
            go_wp2_with fail
            refine bodyPost_ret (by simp [results, Tryd.results76, go_sem, rc0, rc1, sc0, sc1, sc2, World.cell?_setCell_other]; try rfl) rfl ?_
            refine Zo.drawn (base := w3.heap.size) (zr := w.heap.size) (m' := m + 40) ?_ hlx.out (by omega) hbx.out (by omega) rfl
            repeat' first | (with_reducible exact Q) | (with_reducible refine Zo.drew ?_) | (with_reducible refine Zo.set ?_ ?_ ?_ _) | exact Nat.le_refl _ | exact Nat.le_succ _ | exact y2 | exact y5
        · have g1 : (v6 == 1) = false := beq_eq_false_iff_ne.2 h61
          by_cases h62 : v6 = 2
          · subst h62
            clear h60 h61
            have hO6 := V6.out.O.alloc (.cells #[.int .i64 5, .int .i64 7] 68)
            have zc1 := V6.out.Z.cell 1
            have zl := V6.out.Z.lt
            have zf := V6.out.Z.frozen 1
            have hs6 : w3.heap.size ≤ (w6.alloc (.cells #[.int .i64 5, .int .i64 7] 68)).heap.size := Nat.le_of_lt (Nat.lt_trans V6.out.h3 (V6.out.Z.alloc _).lt)
            simp at zc1
            go_wp2_with (at_builtin; refine wpList_append_lies _ rfl (.tmp 102) (.tmp 104) _ rfl w3.heap.size 68 i0 (.agg #[.int .i64 0, .int .i64 0]) 2 16 Tryd.underlying34 hi hz0 hz1 hz2 rfl (by omega) _ k (flatP l) rfl hO6 ⟨w6.heap.size, 0, none⟩ 1 1 [.int .i64 5, .int .i64 7] rfl rfl (news2e _ _ _ _ _ rfl) (pair_one _ _) (by omega) (by unfold maxLen; omega) (by omega) hs6 _ rfl ?_; intro b' cap' w8 hown' hgrow' hat' hlt'; have Z8 := (V6.out.alloc (.cells #[.int .i64 5, .int .i64 7] 68)).Z.grown' (show World.grownBy _ w8 (some b) from hgrow') (Ne.symm V6.out.h5); have zf8 := Z8.frozen 1; have zc8 := Z8.cell 1; simp at zc8)
            have V8 := hide ((V6.out.alloc (.cells #[.int .i64 5, .int .i64 7] 68)).app hown' (show World.grownBy _ w8 (some b) from hgrow') hat')
            have hbx := hide (show Bd 1000000000000000 (l ++ [(5, 7)]) from hBd.out.snoc ⟨by omega, by omega, by omega, by omega⟩)
            have hlx := hide (show (l ++ [(5, 7)]).length = k + 1 by rw [List.length_append, hlk.out]; rfl)
            clear hown' hgrow' hat' hlt' hO6 zc1 zf zl Z8 zf8 zc8 hs6
            go_wp2_with fail
            have zc0 := V8.out.Z.cell 0
            have zc1 := V8.out.Z.cell 1
            have nc0 := V8.out.N.cell 0
            have nc1 := V8.out.N.cell 1
            have nc2 := V8.out.N.cell 2
            have rc0 := V8.out.R.cell 0
            have rc1 := V8.out.R.cell 1
            have rf0 := V8.out.R.frozen 0
            have rf1 := V8.out.R.frozen 1
            have sc0 := V8.out.S.cell 0
            have sc1 := V8.out.S.cell 1
            have sc2 := V8.out.S.cell 2
            have sf0 := V8.out.S.frozen 0
            have sf1 := V8.out.S.frozen 1
            have sf2 := V8.out.S.frozen 2
            have y1 := V8.out.h1
            have y2 := V8.out.h2
            have y3 := V8.out.h3
            have y4 := V8.out.h4
            have x1 : ¬ zb = w.heap.size := by omega
            have x2 : ¬ zb = w.heap.size + 1 := by omega
            have x3 : ¬ w5.heap.size = w.heap.size := by omega
            have x4 : ¬ w5.heap.size = w.heap.size + 1 := by omega
            have Q := (V8.out.more (show _ ≤ m + 40 by omega)).zo
            have y5 := Nat.lt_trans y1 y2
            simp at zc0 zc1 nc0 nc1 nc2 rc0 rc1 sc0 sc1 sc2
            first | go_region | fail
            all_goals
              go_wp2_with fail
              refine bodyPost_ret (by simp [results, Tryd.results76, go_sem, rc0, rc1, sc0, sc1, sc2, World.cell?_setCell_other]; try rfl) rfl ?_
              refine Zo.drawn (base := w3.heap.size) (zr := w.heap.size) (m' := m + 40) ?_ hlx.out (by omega) hbx.out (by omega) rfl
              repeat' first | (with_reducible exact Q) | (with_reducible refine Zo.drew ?_) | (with_reducible refine Zo.set ?_ ?_ ?_ _) | exact Nat.le_refl _ | exact Nat.le_succ _ | exact y2 | exact y5
          · have g2 : (v6 == 2) = false := beq_eq_false_iff_ne.2 h62
            go_wp2_with fail
            have zc0 := V6.out.Z.cell 0
            have zc1 := V6.out.Z.cell 1
            have nc0 := V6.out.N.cell 0
            have nc1 := V6.out.N.cell 1
            have nc2 := V6.out.N.cell 2
            have rc0 := V6.out.R.cell 0
            have rc1 := V6.out.R.cell 1
            have rf0 := V6.out.R.frozen 0
            have rf1 := V6.out.R.frozen 1
            have sc0 := V6.out.S.cell 0
            have sc1 := V6.out.S.cell 1
            have sc2 := V6.out.S.cell 2
            have sf0 := V6.out.S.frozen 0
            have sf1 := V6.out.S.frozen 1
            have sf2 := V6.out.S.frozen 2
            have y1 := V6.out.h1
            have y2 := V6.out.h2
            have y3 := V6.out.h3
            have y4 := V6.out.h4
            have x1 : ¬ zb = w.heap.size := by omega
            have x2 : ¬ zb = w.heap.size + 1 := by omega
            have x3 : ¬ w5.heap.size = w.heap.size := by omega
            have x4 : ¬ w5.heap.size = w.heap.size + 1 := by omega
            have Q := (V6.out.more (show _ ≤ m + 40 by omega)).zo
            have y5 := Nat.lt_trans y1 y2
            simp at zc0 zc1 nc0 nc1 nc2 rc0 rc1 sc0 sc1 sc2
            first | go_region | fail
            all_goals
              go_wp2_with fail
              refine bodyPost_ret (by simp [results, Tryd.results76, go_sem, rc0, rc1, sc0, sc1, sc2, World.cell?_setCell_other]; try rfl) rfl ?_
              refine Zo.drawn (base := w3.heap.size) (zr := w.heap.size) (m' := m + 40) ?_ hlk.out (by omega) hBd.out (by omega) rfl
              repeat' first | (with_reducible exact Q) | (with_reducible refine Zo.drew ?_) | (with_reducible refine Zo.set ?_ ?_ ?_ _) | exact Nat.le_refl _ | exact Nat.le_succ _ | exact y2 | exact y5
end Go.Proofs.YtjdlffkbhaieaaaDoor
