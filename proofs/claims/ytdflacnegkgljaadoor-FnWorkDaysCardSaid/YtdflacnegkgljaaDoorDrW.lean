/- Draws: a date, a number and holidays. -/
import Derived.Test.YtdflacnegkgljaaDoorDrHo
namespace Go.Proofs.YtdflacnegkgljaaDoor
open Go.RowKit

/-- What stands while the parts of a draw are drawn: the date's box, the result's box, the reader. -/
structure Hw (w0 w : World) (B g m rb db : Nat) (y mo d : Int) : Prop where
  X : Blk w db 25 #[.int .i64 y, .int .i64 mo, .int .i64 d]
  R : Blk w rb 25 #[.int .i64 0, .int .i64 0, .int .i64 0]
  T : Rd B w g m
  Bl : Below w0.heap.size w0 w
  h0 : rb < g
  h1 : g < db
  h2 : w0.heap.size ≤ rb
section
variable {w0 w w' : World} {B g m rb db : Nat} {y mo d : Int}
theorem Hw.drew (h : Hw w0 w B g m rb db y mo d) : Hw w0 w.drew B g m rb db y mo d := ⟨h.X, h.R, h.T, bdrew h.Bl, h.h0, h.h1, h.h2⟩
theorem Hw.alloc (h : Hw w0 w B g m rb db y mo d) (o : Obj) : Hw w0 (w.alloc o) B g m rb db y mo d := ⟨h.X.alloc o, h.R.alloc o, h.T.alloc o, bal h.Bl o, h.h0, h.h1, h.h2⟩
theorem Hw.step (h : Hw w0 w B g m rb db y mo d) {m' : Nat} (hr : Rd B w' g m') (hg : w.grownBy w' (some g)) : Hw w0 w' B g m' rb db y mo d :=
  have a0 := h.h0
  have a1 := h.h1
  have a2 := h.h2
  ⟨h.X.grown' hg (by omega), h.R.grown' hg (by omega), hr, bonly h.Bl hg (by omega), h.h0, h.h1, h.h2⟩
theorem Hw.pickC (h : Hw w0 w B g m rb db y mo d) {n : Int} (hm : m ≤ 60000) (hn : 1 ≤ n) (_ : n ≤ 1000) :
    Calls Tryd.prog 36 #[.pointer (some ⟨g, 0, none⟩), .int .i64 n] w fun e w' => ∃ v : Int, 0 ≤ v ∧ v < n ∧ e = .returned (.int .i64 v) ∧ Hw w0 w' B g (m + 1) rb db y mo d ∧ w.grownBy w' (some g) :=
  (pick_any h.T (by omega) (by omega)).mono fun _ _ ⟨v, a, b, e', hr, hg⟩ => ⟨v, a, b, e', h.step hr hg, hg⟩
theorem Hw.holC (h : Hw w0 w B g m rb db y mo d) (hm : m ≤ 50000) :
    Calls Tryd.prog 58 #[.pointer (some ⟨g, 0, none⟩), .agg #[.int .i64 y, .int .i64 mo, .int .i64 d]] w fun e w' => ∃ (b cap : Nat) (l : List D3), e = .returned (.slice (some ⟨b, 0, none⟩) l.length cap) ∧ w'.ownsRow w.heap.size 25 3 (.slice (some ⟨b, 0, none⟩) l.length cap) l.length (flatD l) ∧ l.length ≤ 6 ∧ Hw w0 w' B g (m + 7) rb db y mo d ∧ w.grownBy w' (some g) :=
  (l92Holidays_any y mo d h.T hm).mono fun _ _ ⟨b, cap, l, e', ho, hl, hr, hg⟩ => ⟨b, cap, l, e', ho, hl, h.step hr hg, hg⟩
theorem Hw.cs (h : Hw w0 w B g m rb db y mo d) : w.cell? ⟨db, 0, none⟩ = some (.int .i64 y) ∧ w.cell? ⟨db, 1, none⟩ = some (.int .i64 mo) ∧ w.cell? ⟨db, 2, none⟩ = some (.int .i64 d) := ⟨h.X.cell 0, h.X.cell 1, h.X.cell 2⟩
theorem Hw.rs (h : Hw w0 w B g m rb db y mo d) : w.cell? ⟨rb, 0, none⟩ = some (.int .i64 0) ∧ w.cell? ⟨rb, 1, none⟩ = some (.int .i64 0) ∧ w.cell? ⟨rb, 2, none⟩ = some (.int .i64 0) ∧ w.frozen? ⟨rb, 0, none⟩ = false ∧ w.frozen? ⟨rb, 1, none⟩ = false ∧ w.frozen? ⟨rb, 2, none⟩ = false := ⟨h.R.cell 0, h.R.cell 1, h.R.cell 2, h.R.frozen 0, h.R.frozen 1, h.R.frozen 2⟩
end
section
variable {w0 w : World} {B g m rb db : Nat} {y mo d : Int}
theorem Hw.cs3 (h : Hw w0 w B g m rb db y mo d) (u0 u1 u2 : Value) : (((w.setCell ⟨rb, 0, none⟩ u0).setCell ⟨rb, 1, none⟩ u1).setCell ⟨rb, 2, none⟩ u2).cell? ⟨db, 0, none⟩ = some (.int .i64 y) ∧ (((w.setCell ⟨rb, 0, none⟩ u0).setCell ⟨rb, 1, none⟩ u1).setCell ⟨rb, 2, none⟩ u2).cell? ⟨db, 1, none⟩ = some (.int .i64 mo) ∧ (((w.setCell ⟨rb, 0, none⟩ u0).setCell ⟨rb, 1, none⟩ u1).setCell ⟨rb, 2, none⟩ u2).cell? ⟨db, 2, none⟩ = some (.int .i64 d) :=
  have a0 := h.h0
  have a1 := h.h1
  have k := h.X.far3 (k := rb) (by omega) u0 u1 u2
  ⟨k.cell 0, k.cell 1, k.cell 2⟩
theorem Hw.cs3A (h : Hw w0 w B g m rb db y mo d) (u0 u1 u2 : Value) (o : Obj) : ((((w.setCell ⟨rb, 0, none⟩ u0).setCell ⟨rb, 1, none⟩ u1).setCell ⟨rb, 2, none⟩ u2).alloc o).cell? ⟨db, 0, none⟩ = some (.int .i64 y) ∧ ((((w.setCell ⟨rb, 0, none⟩ u0).setCell ⟨rb, 1, none⟩ u1).setCell ⟨rb, 2, none⟩ u2).alloc o).cell? ⟨db, 1, none⟩ = some (.int .i64 mo) ∧ ((((w.setCell ⟨rb, 0, none⟩ u0).setCell ⟨rb, 1, none⟩ u1).setCell ⟨rb, 2, none⟩ u2).alloc o).cell? ⟨db, 2, none⟩ = some (.int .i64 d) :=
  have a1 := h.h1
  have a0 := h.h0
  have k := (h.X.far3 (k := rb) (by omega) u0 u1 u2).alloc o
  ⟨k.cell 0, k.cell 1, k.cell 2⟩
theorem own_set3D {base : Nat} {e : TypeId} {k : Nat} {v : Value} {n : Nat} {xs : List Value} {w : World} {rb : Nat} (h : w.ownsRow base e k v n xs) (hk : rb < base) (u0 u1 u2 : Value) : (((w.setCell ⟨rb, 0, none⟩ u0).setCell ⟨rb, 1, none⟩ u1).setCell ⟨rb, 2, none⟩ u2).ownsRow base e k v n xs :=
  have hn : ∀ {w : World}, w.ownsRow base e k v n xs → v.ownBlock ≠ some rb := fun h e' => by
    have := (h.lt rb e').1
    omega
  have h1 := own_setD (p := ⟨rb, 0, none⟩) h (hn h) u0
  have h2 := own_setD (p := ⟨rb, 1, none⟩) h1 (hn h1) u1
  own_setD (p := ⟨rb, 2, none⟩) h2 (hn h2) u2
theorem Hw.bl3 (h : Hw w0 w B g m rb db y mo d) (u0 u1 u2 : Value) : Below w0.heap.size w0 (((w.setCell ⟨rb, 0, none⟩ u0).setCell ⟨rb, 1, none⟩ u1).setCell ⟨rb, 2, none⟩ u2) :=
  bset (bset (bset h.Bl (p := ⟨rb, 0, none⟩) h.h2 _) (p := ⟨rb, 1, none⟩) h.h2 _) (p := ⟨rb, 2, none⟩) h.h2 _
end
/-- Drawn: a date, a number, holidays. -/
def DrawnWP (w : World) (e : Ending) (w' : World) : Prop :=
  ∃ (y mo d n : Int) (b cap : Nat) (l : List D3), e = .returned (.tuple #[.agg #[.int .i64 y, .int .i64 mo, .int .i64 d], .int .i64 n, .slice (some ⟨b, 0, none⟩) l.length cap]) ∧ w'.ownsRow w.heap.size 25 3 (.slice (some ⟨b, 0, none⟩) l.length cap) l.length (flatD l) ∧ l.length ≤ 6 ∧ -1 ≤ n ∧ n ≤ 501 ∧ Below w.heap.size w w'
/-- The list of three numbers lies in block b. -/
def L3 (w : World) (b g : Nat) : Prop := b < w.heap.size ∧ ¬ b = g ∧ ∀ v : Int, 0 ≤ v → v < 3 → w.cell? ⟨b, v.toNat, none⟩ = some (.int .i64 (([-1, 500, 501] : List Int).getD v.toNat 0))
theorem L3.on {W w' : World} {b g : Nat} (h : L3 W b g) (hg : W.grownBy w' (some g)) : L3 w' b g := by
  obtain ⟨h1, h2, h3⟩ := h
  obtain ⟨hc, _, hl⟩ := gcell hg
  exact ⟨hl _ h1, h2, fun v a c => (hc _ _ h1 h2).trans (h3 v a c)⟩
theorem L3.new {W : World} {b g : Nat} {T : TypeId} (e : W.heap.size = b) (hn : ¬ b = g) : L3 (W.alloc (.cells #[.int .i64 (-1), .int .i64 500, .int .i64 501] T)) b g := by
  subst e
  refine ⟨by simp, hn, fun v h1 h2 => ?_⟩
  have hb := Blk.new W T #[.int .i64 (-1), .int .i64 500, .int .i64 501]
  rcases (show v = 0 ∨ v = 1 ∨ v = 2 by omega) with rfl | rfl | rfl
  · exact hb.cell 0
  · exact hb.cell 1
  · exact hb.cell 2
theorem L3.fresh {W w' : World} {g : Nat} {T : TypeId} (hT : g < W.heap.size) (hg : (W.alloc (.cells #[.int .i64 (-1), .int .i64 500, .int .i64 501] T)).grownBy w' (some g)) : L3 w' W.heap.size g := (L3.new rfl (by omega)).on hg
theorem L3.freshD {W w' : World} {g : Nat} {T : TypeId} (hT : g < W.heap.size) (hg : (W.drew.alloc (.cells #[.int .i64 (-1), .int .i64 500, .int .i64 501] T)).grownBy w' (some g)) : L3 w' W.heap.size g := (L3.new (W := W.drew) (b := W.heap.size) rfl (by omega)).on hg
theorem L3.freshE {W w' : World} {g : Nat} {T : TypeId} (hT : g < W.heap.size) (hg : (W.alloc (.cells #[.int .i64 (-1), .int .i64 500, .int .i64 501] T)).drew.grownBy w' (some g)) : L3 w' W.heap.size g :=
  have h : L3 (W.alloc (.cells #[.int .i64 (-1), .int .i64 500, .int .i64 501] T)).drew W.heap.size g := L3.new (W := W) (b := W.heap.size) rfl (by omega)
  h.on hg
theorem l3_bd (v : Int) (h0 : 0 ≤ v) (h1 : v < 3) : -1 ≤ (([-1, 500, 501] : List Int).getD v.toNat 0) ∧ (([-1, 500, 501] : List Int).getD v.toNat 0) ≤ 501 := by
  rcases (show v = 0 ∨ v = 1 ∨ v = 2 by omega) with rfl | rfl | rfl <;> decide

theorem l3_el (v : Int) (h0 : 0 ≤ v) (h1 : v < 3) (h : v.toNat < [-1, 500, (501 : Int)].length) : -1 ≤ ([-1, 500, 501] : List Int)[v.toNat] ∧ ([-1, 500, 501] : List Int)[v.toNat] ≤ 501 := by
  have e : ([-1, 500, 501] : List Int)[v.toNat] = ([-1, 500, 501] : List Int).getD v.toNat 0 := by rw [List.getD_eq_getElem?_getD, List.getElem?_eq_getElem h]; rfl
  rw [e]
  exact l3_bd v h0 h1
set_option maxHeartbeats 2000000 in
theorem drawWP {B len cap : Nat} {A : Option Addr} {w : World} (hs : Src B w A len) (hB : B ≤ w.heap.size) (hc : len ≤ cap) (hm : cap ≤ maxLen) :
    Calls Tryd.prog 33 #[.slice A len cap] w (DrawnWP w) := by
  have R0 := Blk.new w 25 #[.int .i64 0, .int .i64 0, .int .i64 0]
  go_enter Tryd.func33, Tryd.ntmps33
  go_wp2_with fail
  refine (l6Open_any (Src.keep hs (w' := w.alloc (.cells #[.int .i64 0, .int .i64 0, .int .i64 0] 25)) fun p hp => World.cell?_alloc_lt w _ p (Nat.lt_of_lt_of_le hp hB)) (by simp; omega) hc hm).mono ?_
  rintro e w1 ⟨g, rfl, hg, hr1, hb1⟩
  have hg' : w.heap.size < g := Nat.lt_of_lt_of_le R0.lt hg
  have R1 := hide (R0.below hb1 R0.lt)
  have B1 := hide (bto (bal (Below.refl w.heap.size w) (.cells #[.int .i64 0, .int .i64 0, .int .i64 0] 25)) hb1)
  clear R0 hb1
  go_wp2_with fail
  refine (l91Date_any hr1 (by omega)).mono ?_
  rintro e w2 ⟨y, mo, d, rfl, hr2, hg2⟩
  have hgl2 := hr2.lt
  have H2 : Hw w (w2.alloc (.cells #[.int .i64 y, .int .i64 mo, .int .i64 d] 25)) B g (0 + 9) w.heap.size w2.heap.size y mo d :=
    ⟨Blk.new _ _ _, (R1.out.grown' hg2 (by omega)).alloc _, hr2.alloc _, bal (bonly B1.out hg2 (by omega)) _, hg', hgl2, Nat.le_refl _⟩
  clear R1 B1 hr1 hr2 hg2
  go_wp2_with fail
  refine (H2.pickC (by omega) (by omega) (by omega)).mono ?_
  rintro e w3 ⟨v3, a3, b3, rfl, H3, hg3⟩
  obtain ⟨db, hdb⟩ : ∃ db, db = w2.heap.size := ⟨_, rfl⟩
  rw [← hdb] at H3 ⊢
  clear H2 hg3 hdb
  have hdl := H3.X.lt
  have hgl3 := H3.T.lt
  have hrl := H3.R.lt
  have hgd := H3.h1
  by_cases h0 : v3 = 0
  · subst h0
    obtain ⟨x0, x1, x2⟩ := H3.cs
    obtain ⟨r0, r1, r2, f0, f1, f2⟩ := H3.rs
    have H4 := H3.drew
    have hnew : ∀ (W : World) (T : TypeId), g < W.heap.size → L3 (W.alloc (.cells #[.int .i64 (-1), .int .i64 500, .int .i64 501] T)) W.heap.size g := fun W T h => L3.new rfl (by omega)
    have hidx : ∀ v : Int, 0 ≤ v → v < 3 → ([Value.int .i64 (-1), .int .i64 500, .int .i64 501] : List Value)[v.toNat]? = some (.int .i64 (([-1, 500, 501] : List Int).getD v.toNat 0)) := by
      intro v h1 h2
      rcases (show v = 0 ∨ v = 1 ∨ v = 2 by omega) with rfl | rfl | rfl <;> rfl
    have hidx' : ∀ (v : Int) (h : v.toNat < [Value.int .i64 (-1), .int .i64 500, .int .i64 501].length), [Value.int .i64 (-1), .int .i64 500, .int .i64 501][v.toNat] = .int .i64 (([-1, 500, 501] : List Int).getD v.toNat 0) := by
      intro v h
      have h' : v.toNat < 3 := h
      generalize v.toNat = k at h h' ⊢
      rcases (show k = 0 ∨ k = 1 ∨ k = 2 by omega) with rfl | rfl | rfl <;> rfl
    go_wp2_with fail
    refine wp_region_noPanic ?_
    clear x0 x1 x2 r0 r1 r2 f0 f1 f2
    refine wp_region_held_drew (S := (fun w' => w'.cell? ⟨db, 0, none⟩ = some (.int .i64 y) ∧ w'.cell? ⟨db, 1, none⟩ = some (.int .i64 mo) ∧ w'.cell? ⟨db, 2, none⟩ = some (.int .i64 d))) (by kernel_rfl) ?hS0 (fun hHeld => ?go0)
    case hS0 => exact H4.cs
    case go0 =>
      refine wpAnyH_take (i := 0) (v := ?v1) rfl (by kernel_rfl) (by kernel_rfl) (by kernel_rfl) (fun _ _ _ h => h) (Or.inl ⟨by rfl, ?hy1⟩) (by assumption) ?rest1
      case hy1 =>
        intro w hSw; (try dsimp only at hSw); go_simp; (try with_reducible rfl)
      case rest1 =>
        (try simp only [Act.put, List.getElem_toArray, List.getElem_cons_zero, List.setIfInBounds_toArray, List.set_cons_zero, List.set_cons_succ])
        refine wpAnyH_take (i := 2) (v := ?v2) rfl (by kernel_rfl) (by kernel_rfl) (by kernel_rfl) (fun _ _ _ h => h) (Or.inl ⟨by rfl, ?hy2⟩) (by assumption) ?rest2
        case hy2 =>
          intro w hSw; (try dsimp only at hSw); go_simp; (try with_reducible rfl)
        case rest2 =>
          (try simp only [Act.put, List.getElem_toArray, List.getElem_cons_succ, List.getElem_cons_zero, List.setIfInBounds_toArray, List.set_cons_zero, List.set_cons_succ])
          refine wpAnyH_take (i := 6) (v := ?v3) rfl (by kernel_rfl) (by kernel_rfl) (by kernel_rfl) (fun _ _ _ h => h) (Or.inl ⟨by rfl, ?hy3⟩) (by assumption) ?rest3
          case hy3 =>
            intro w hSw; (try dsimp only at hSw); go_simp; (try with_reducible rfl)
          case rest3 =>
            (try simp only [Act.put, List.getElem_toArray, List.getElem_cons_succ, List.getElem_cons_zero, List.setIfInBounds_toArray, List.set_cons_zero, List.set_cons_succ])
            refine wpAnyH_take (i := 7) (v := ?v4) rfl (by kernel_rfl) (by kernel_rfl) (by kernel_rfl) (fun _ _ _ h => h) (Or.inl ⟨by rfl, ?hy4⟩) (by assumption) ?rest4
            case hy4 =>
              intro w hSw; (try dsimp only at hSw); go_simp; (try with_reducible rfl)
            case rest4 =>
              (try simp only [Act.put, List.getElem_toArray, List.getElem_cons_succ, List.getElem_cons_zero, List.setIfInBounds_toArray, List.set_cons_zero, List.set_cons_succ])
              refine wpAnyH_ready (rs := [1, 3]) (by kernel_rfl) (by simp) ?_
              refine AllReadyH.cons rfl (fun K hK => ?step5) ?more5
              case step5 =>
                go_simp
                refine hK.out _ _ ?hS5 (fun hHeld => ?go5)
                case hS5 =>
                  (try dsimp only); (first | (with_reducible exact H4.cs) | (with_reducible exact H6.cs) | (with_reducible exact H5.cs) | (with_reducible exact (H6.alloc _).cs) | (with_reducible exact (H5.alloc _).cs) | (with_reducible exact H6.cs3 _ _ _) | (with_reducible exact Hw.cs3A H6 _ _ _ _) | (with_reducible exact (H3.alloc _).drew.cs))
                case go5 =>
                  clear hK K
                  (try simp only [Act.put, List.getElem_toArray, List.getElem_cons_succ, List.getElem_cons_zero, List.setIfInBounds_toArray, List.set_cons_zero, List.set_cons_succ])
                  refine wpAnyH_ready (rs := [3]) (by kernel_rfl) (by simp) ?_
                  refine AllReadyH.cons rfl (fun K hK => ?step6) ?more6
                  case step6 =>
                    go_simp
                    go_at_call 36; refine (Hw.pickC (by first | assumption | (with_reducible exact (H3.alloc _).drew) | exact Hw.alloc (by assumption) _ | fail) (by omega) (by omega) (by omega)).mono ?_; rintro e w5 ⟨v5, a5, b5, rfl, H5, hg5⟩; obtain ⟨r0, r1, r2, f0, f1, f2⟩ := H5.rs; have hrl5 := H5.R.lt; have hdl5 := H5.X.lt; have hgl5 := H5.T.lt; (first | (have hL := L3.freshE (by assumption) hg5) | (have hL := L3.freshD (by assumption) hg5) | (have hL := L3.fresh (by assumption) hg5) | (have hL := L3.on (by assumption) hg5) | skip); (first | (have hLc := hL.2.2 v5 a5 b5) | skip)
                    go_wp2_with fail
                    refine hK.out _ _ ?hS6 (fun hHeld => ?go6)
                    case hS6 =>
                      (try dsimp only); (first | (with_reducible exact H4.cs) | (with_reducible exact H6.cs) | (with_reducible exact H5.cs) | (with_reducible exact (H6.alloc _).cs) | (with_reducible exact (H5.alloc _).cs) | (with_reducible exact H6.cs3 _ _ _) | (with_reducible exact Hw.cs3A H6 _ _ _ _) | (with_reducible exact (H3.alloc _).drew.cs))
                    case go6 =>
                      clear hK K
                      (try simp only [Act.put, List.getElem_toArray, List.getElem_cons_succ, List.getElem_cons_zero, List.setIfInBounds_toArray, List.set_cons_zero, List.set_cons_succ])
                      refine wpAnyH_take (i := 4) (v := ?v7) rfl (by kernel_rfl) (by kernel_rfl) (by kernel_rfl) (fun _ _ _ h => h) (Or.inl ⟨by rfl, ?hy7⟩) (by assumption) ?rest7
                      case hy7 =>
                        intro w hSw; (try dsimp only at hSw); go_simp; (try with_reducible rfl)
                      case rest7 =>
                        (try simp only [Act.put, List.getElem_toArray, List.getElem_cons_succ, List.getElem_cons_zero, List.setIfInBounds_toArray, List.set_cons_zero, List.set_cons_succ])
                        refine wpAnyH_ready (rs := [5, 8]) (by kernel_rfl) (by simp) ?_
                        refine AllReadyH.cons rfl (fun K hK => ?step8) ?more8
                        case step8 =>
                          go_simp
                          refine hK.out _ _ ?hS8 (fun hHeld => ?go8)
                          case hS8 =>
                            (try dsimp only); (first | (with_reducible exact H4.cs) | (with_reducible exact H6.cs) | (with_reducible exact H5.cs) | (with_reducible exact (H6.alloc _).cs) | (with_reducible exact (H5.alloc _).cs) | (with_reducible exact H6.cs3 _ _ _) | (with_reducible exact Hw.cs3A H6 _ _ _ _) | (with_reducible exact (H3.alloc _).drew.cs))
                          case go8 =>
                            clear hK K
                            (try simp only [Act.put, List.getElem_toArray, List.getElem_cons_succ, List.getElem_cons_zero, List.setIfInBounds_toArray, List.set_cons_zero, List.set_cons_succ])
                            refine wpAnyH_ready (rs := [8]) (by kernel_rfl) (by simp) ?_
                            refine AllReadyH.cons rfl (fun K hK => ?step9) ?more9
                            case step9 =>
                              go_simp
                              go_at_call 58; refine (Hw.holC (by first | assumption | (with_reducible exact (H3.alloc _).drew) | exact Hw.alloc (by assumption) _ | fail) (by omega)).mono ?_; rintro e w6 ⟨b6, cap6, l6, rfl, HO, hl6, H6, hg6⟩; obtain ⟨r0, r1, r2, f0, f1, f2⟩ := H6.rs; have hrl6 := H6.R.lt; have hdl6 := H6.X.lt; have hgl6 := H6.T.lt; (first | (have hL := L3.freshE (by assumption) hg6) | (have hL := L3.freshD (by assumption) hg6) | (have hL := L3.fresh (by assumption) hg6) | (have hL := L3.on (by assumption) hg6) | skip); (first | (have hLc := hL.2.2 v5 a5 b5) | skip)
                              go_wp2_with fail
                              refine hK.out _ _ ?hS9 (fun hHeld => ?go9)
                              case hS9 =>
                                (try dsimp only); (first | (with_reducible exact H4.cs) | (with_reducible exact H6.cs) | (with_reducible exact H5.cs) | (with_reducible exact (H6.alloc _).cs) | (with_reducible exact (H5.alloc _).cs) | (with_reducible exact H6.cs3 _ _ _) | (with_reducible exact Hw.cs3A H6 _ _ _ _) | (with_reducible exact (H3.alloc _).drew.cs))
                              case go9 =>
                                clear hK K
                                (try simp only [Act.put, List.getElem_toArray, List.getElem_cons_succ, List.getElem_cons_zero, List.setIfInBounds_toArray, List.set_cons_zero, List.set_cons_succ])
                                refine wpAnyH_ready (rs := [9]) (by kernel_rfl) (by simp) ?_
                                refine AllReadyH.cons rfl (fun K hK => ?step10) ?more10
                                case step10 =>
                                  go_simp
                                  refine hK.out _ _ ?hS10 (fun hHeld => ?go10)
                                  case hS10 =>
                                    (try dsimp only); (first | (with_reducible exact H4.cs) | (with_reducible exact H6.cs) | (with_reducible exact H5.cs) | (with_reducible exact (H6.alloc _).cs) | (with_reducible exact (H5.alloc _).cs) | (with_reducible exact H6.cs3 _ _ _) | (with_reducible exact Hw.cs3A H6 _ _ _ _) | (with_reducible exact (H3.alloc _).drew.cs))
                                  case go10 =>
                                    clear hK K
                                    (try simp only [Act.put, List.getElem_toArray, List.getElem_cons_succ, List.getElem_cons_zero, List.setIfInBounds_toArray, List.set_cons_zero, List.set_cons_succ])
                                    refine wpAnyH_take (i := 10) (v := ?v11) rfl (by kernel_rfl) (by kernel_rfl) (by kernel_rfl) (fun _ _ _ h => h) (Or.inl ⟨by rfl, ?hy11⟩) (by assumption) ?rest11
                                    case hy11 =>
                                      intro w hSw; (try dsimp only at hSw); go_simp; (try with_reducible rfl)
                                    case rest11 =>
                                      (try simp only [Act.put, List.getElem_toArray, List.getElem_cons_succ, List.getElem_cons_zero, List.setIfInBounds_toArray, List.set_cons_zero, List.set_cons_succ])
                                      refine wpAnyH_take (i := 11) (v := ?v12) rfl (by kernel_rfl) (by kernel_rfl) (by kernel_rfl) (fun _ _ _ h => h) (Or.inl ⟨by rfl, ?hy12⟩) (by assumption) ?rest12
                                      case hy12 =>
                                        intro w hSw; (try dsimp only at hSw); go_simp; (try with_reducible rfl)
                                      case rest12 =>
                                        (try simp only [Act.put, List.getElem_toArray, List.getElem_cons_succ, List.getElem_cons_zero, List.setIfInBounds_toArray, List.set_cons_zero, List.set_cons_succ])
                                        refine wpAnyH_done (by kernel_rfl) ?_ _
                                        refine NoPanic.normal ?_
                                        go_wp2_with fail
                                        refine bodyPost_ret (by simp [results, Tryd.results33, go_sem, r0, r1, r2, World.cell?_setCell_other]; try rfl) rfl ?_
                                        exact ⟨y, mo, d, _, b6, cap6, l6, rfl, own_moreD (own_set3D HO (by first | omega | (simp; omega) | fail) _ _ _) (by first | omega | (simp; omega) | fail), hl6, (by first | exact (l3_bd v5 a5 b5).1 | exact (l3_el v5 a5 b5 _).1 | fail), (by first | exact (l3_bd v5 a5 b5).2 | exact (l3_el v5 a5 b5 _).2 | fail), H6.bl3 _ _ _⟩
                                case more10 =>
                                  exact AllReadyH.nil
                            case more9 =>
                              exact AllReadyH.nil
                        case more8 =>
                          refine AllReadyH.cons rfl (fun K hK => ?step13) ?more13
                          case step13 =>
                            go_simp
                            go_at_call 58; refine (Hw.holC (by first | assumption | (with_reducible exact (H3.alloc _).drew) | exact Hw.alloc (by assumption) _ | fail) (by omega)).mono ?_; rintro e w6 ⟨b6, cap6, l6, rfl, HO, hl6, H6, hg6⟩; obtain ⟨r0, r1, r2, f0, f1, f2⟩ := H6.rs; have hrl6 := H6.R.lt; have hdl6 := H6.X.lt; have hgl6 := H6.T.lt; (first | (have hL := L3.freshE (by assumption) hg6) | (have hL := L3.freshD (by assumption) hg6) | (have hL := L3.fresh (by assumption) hg6) | (have hL := L3.on (by assumption) hg6) | skip); (first | (have hLc := hL.2.2 v5 a5 b5) | skip)
                            go_wp2_with fail
                            refine hK.out _ _ ?hS13 (fun hHeld => ?go13)
                            case hS13 =>
                              (try dsimp only); (first | (with_reducible exact H4.cs) | (with_reducible exact H6.cs) | (with_reducible exact H5.cs) | (with_reducible exact (H6.alloc _).cs) | (with_reducible exact (H5.alloc _).cs) | (with_reducible exact H6.cs3 _ _ _) | (with_reducible exact Hw.cs3A H6 _ _ _ _) | (with_reducible exact (H3.alloc _).drew.cs))
                            case go13 =>
                              clear hK K
                              (try simp only [Act.put, List.getElem_toArray, List.getElem_cons_succ, List.getElem_cons_zero, List.setIfInBounds_toArray, List.set_cons_zero, List.set_cons_succ])
                              refine wpAnyH_ready (rs := [5, 9]) (by kernel_rfl) (by simp) ?_
                              refine AllReadyH.cons rfl (fun K hK => ?step14) ?more14
                              case step14 =>
                                go_simp
                                refine hK.out _ _ ?hS14 (fun hHeld => ?go14)
                                case hS14 =>
                                  (try dsimp only); (first | (with_reducible exact H4.cs) | (with_reducible exact H6.cs) | (with_reducible exact H5.cs) | (with_reducible exact (H6.alloc _).cs) | (with_reducible exact (H5.alloc _).cs) | (with_reducible exact H6.cs3 _ _ _) | (with_reducible exact Hw.cs3A H6 _ _ _ _) | (with_reducible exact (H3.alloc _).drew.cs))
                                case go14 =>
                                  clear hK K
                                  (try simp only [Act.put, List.getElem_toArray, List.getElem_cons_succ, List.getElem_cons_zero, List.setIfInBounds_toArray, List.set_cons_zero, List.set_cons_succ])
                                  refine wpAnyH_ready (rs := [9]) (by kernel_rfl) (by simp) ?_
                                  refine AllReadyH.cons rfl (fun K hK => ?step15) ?more15
                                  case step15 =>
                                    go_simp
                                    refine hK.out _ _ ?hS15 (fun hHeld => ?go15)
                                    case hS15 =>
                                      (try dsimp only); (first | (with_reducible exact H4.cs) | (with_reducible exact H6.cs) | (with_reducible exact H5.cs) | (with_reducible exact (H6.alloc _).cs) | (with_reducible exact (H5.alloc _).cs) | (with_reducible exact H6.cs3 _ _ _) | (with_reducible exact Hw.cs3A H6 _ _ _ _) | (with_reducible exact (H3.alloc _).drew.cs))
                                    case go15 =>
                                      clear hK K
                                      (try simp only [Act.put, List.getElem_toArray, List.getElem_cons_succ, List.getElem_cons_zero, List.setIfInBounds_toArray, List.set_cons_zero, List.set_cons_succ])
                                      refine wpAnyH_take (i := 10) (v := ?v16) rfl (by kernel_rfl) (by kernel_rfl) (by kernel_rfl) (fun _ _ _ h => h) (Or.inl ⟨by rfl, ?hy16⟩) (by assumption) ?rest16
                                      case hy16 =>
                                        intro w hSw; (try dsimp only at hSw); go_simp; (try with_reducible rfl)
                                      case rest16 =>
                                        (try simp only [Act.put, List.getElem_toArray, List.getElem_cons_succ, List.getElem_cons_zero, List.setIfInBounds_toArray, List.set_cons_zero, List.set_cons_succ])
                                        refine wpAnyH_take (i := 11) (v := ?v17) rfl (by kernel_rfl) (by kernel_rfl) (by kernel_rfl) (fun _ _ _ h => h) (Or.inl ⟨by rfl, ?hy17⟩) (by assumption) ?rest17
                                        case hy17 =>
                                          intro w hSw; (try dsimp only at hSw); go_simp; (try with_reducible rfl)
                                        case rest17 =>
                                          (try simp only [Act.put, List.getElem_toArray, List.getElem_cons_succ, List.getElem_cons_zero, List.setIfInBounds_toArray, List.set_cons_zero, List.set_cons_succ])
                                          refine wpAnyH_done (by kernel_rfl) ?_ _
                                          refine NoPanic.normal ?_
                                          go_wp2_with fail
                                          refine bodyPost_ret (by simp [results, Tryd.results33, go_sem, r0, r1, r2, World.cell?_setCell_other]; try rfl) rfl ?_
                                          exact ⟨y, mo, d, _, b6, cap6, l6, rfl, own_moreD (own_set3D HO (by first | omega | (simp; omega) | fail) _ _ _) (by first | omega | (simp; omega) | fail), hl6, (by first | exact (l3_bd v5 a5 b5).1 | exact (l3_el v5 a5 b5 _).1 | fail), (by first | exact (l3_bd v5 a5 b5).2 | exact (l3_el v5 a5 b5 _).2 | fail), H6.bl3 _ _ _⟩
                                  case more15 =>
                                    exact AllReadyH.nil
                              case more14 =>
                                refine AllReadyH.cons rfl (fun K hK => ?step18) ?more18
                                case step18 =>
                                  go_simp
                                  refine hK.out _ _ ?hS18 (fun hHeld => ?go18)
                                  case hS18 =>
                                    (try dsimp only); (first | (with_reducible exact H4.cs) | (with_reducible exact H6.cs) | (with_reducible exact H5.cs) | (with_reducible exact (H6.alloc _).cs) | (with_reducible exact (H5.alloc _).cs) | (with_reducible exact H6.cs3 _ _ _) | (with_reducible exact Hw.cs3A H6 _ _ _ _) | (with_reducible exact (H3.alloc _).drew.cs))
                                  case go18 =>
                                    clear hK K
                                    (try simp only [Act.put, List.getElem_toArray, List.getElem_cons_succ, List.getElem_cons_zero, List.setIfInBounds_toArray, List.set_cons_zero, List.set_cons_succ])
                                    refine wpAnyH_ready (rs := [5]) (by kernel_rfl) (by simp) ?_
                                    refine AllReadyH.cons rfl (fun K hK => ?step19) ?more19
                                    case step19 =>
                                      go_simp
                                      refine hK.out _ _ ?hS19 (fun hHeld => ?go19)
                                      case hS19 =>
                                        (try dsimp only); (first | (with_reducible exact H4.cs) | (with_reducible exact H6.cs) | (with_reducible exact H5.cs) | (with_reducible exact (H6.alloc _).cs) | (with_reducible exact (H5.alloc _).cs) | (with_reducible exact H6.cs3 _ _ _) | (with_reducible exact Hw.cs3A H6 _ _ _ _) | (with_reducible exact (H3.alloc _).drew.cs))
                                      case go19 =>
                                        clear hK K
                                        (try simp only [Act.put, List.getElem_toArray, List.getElem_cons_succ, List.getElem_cons_zero, List.setIfInBounds_toArray, List.set_cons_zero, List.set_cons_succ])
                                        refine wpAnyH_take (i := 10) (v := ?v20) rfl (by kernel_rfl) (by kernel_rfl) (by kernel_rfl) (fun _ _ _ h => h) (Or.inl ⟨by rfl, ?hy20⟩) (by assumption) ?rest20
                                        case hy20 =>
                                          intro w hSw; (try dsimp only at hSw); go_simp; (try with_reducible rfl)
                                        case rest20 =>
                                          (try simp only [Act.put, List.getElem_toArray, List.getElem_cons_succ, List.getElem_cons_zero, List.setIfInBounds_toArray, List.set_cons_zero, List.set_cons_succ])
                                          refine wpAnyH_take (i := 11) (v := ?v21) rfl (by kernel_rfl) (by kernel_rfl) (by kernel_rfl) (fun _ _ _ h => h) (Or.inl ⟨by rfl, ?hy21⟩) (by assumption) ?rest21
                                          case hy21 =>
                                            intro w hSw; (try dsimp only at hSw); go_simp; (try with_reducible rfl)
                                          case rest21 =>
                                            (try simp only [Act.put, List.getElem_toArray, List.getElem_cons_succ, List.getElem_cons_zero, List.setIfInBounds_toArray, List.set_cons_zero, List.set_cons_succ])
                                            refine wpAnyH_done (by kernel_rfl) ?_ _
                                            refine NoPanic.normal ?_
                                            go_wp2_with fail
                                            refine bodyPost_ret (by simp [results, Tryd.results33, go_sem, r0, r1, r2, World.cell?_setCell_other]; try rfl) rfl ?_
                                            exact ⟨y, mo, d, _, b6, cap6, l6, rfl, own_moreD (own_set3D HO (by first | omega | (simp; omega) | fail) _ _ _) (by first | omega | (simp; omega) | fail), hl6, (by first | exact (l3_bd v5 a5 b5).1 | exact (l3_el v5 a5 b5 _).1 | fail), (by first | exact (l3_bd v5 a5 b5).2 | exact (l3_el v5 a5 b5 _).2 | fail), H6.bl3 _ _ _⟩
                                    case more19 =>
                                      exact AllReadyH.nil
                                case more18 =>
                                  exact AllReadyH.nil
                          case more13 =>
                            exact AllReadyH.nil
                  case more6 =>
                    exact AllReadyH.nil
              case more5 =>
                refine AllReadyH.cons rfl (fun K hK => ?step22) ?more22
                case step22 =>
                  go_simp
                  go_at_call 36; refine (Hw.pickC (by first | assumption | (with_reducible exact (H3.alloc _).drew) | exact Hw.alloc (by assumption) _ | fail) (by omega) (by omega) (by omega)).mono ?_; rintro e w5 ⟨v5, a5, b5, rfl, H5, hg5⟩; obtain ⟨r0, r1, r2, f0, f1, f2⟩ := H5.rs; have hrl5 := H5.R.lt; have hdl5 := H5.X.lt; have hgl5 := H5.T.lt; (first | (have hL := L3.freshE (by assumption) hg5) | (have hL := L3.freshD (by assumption) hg5) | (have hL := L3.fresh (by assumption) hg5) | (have hL := L3.on (by assumption) hg5) | skip); (first | (have hLc := hL.2.2 v5 a5 b5) | skip)
                  go_wp2_with fail
                  refine hK.out _ _ ?hS22 (fun hHeld => ?go22)
                  case hS22 =>
                    (try dsimp only); (first | (with_reducible exact H4.cs) | (with_reducible exact H6.cs) | (with_reducible exact H5.cs) | (with_reducible exact (H6.alloc _).cs) | (with_reducible exact (H5.alloc _).cs) | (with_reducible exact H6.cs3 _ _ _) | (with_reducible exact Hw.cs3A H6 _ _ _ _) | (with_reducible exact (H3.alloc _).drew.cs))
                  case go22 =>
                    clear hK K
                    (try simp only [Act.put, List.getElem_toArray, List.getElem_cons_succ, List.getElem_cons_zero, List.setIfInBounds_toArray, List.set_cons_zero, List.set_cons_succ])
                    refine wpAnyH_ready (rs := [1, 8]) (by kernel_rfl) (by simp) ?_
                    refine AllReadyH.cons rfl (fun K hK => ?step23) ?more23
                    case step23 =>
                      go_simp
                      refine hK.out _ _ ?hS23 (fun hHeld => ?go23)
                      case hS23 =>
                        (try dsimp only); (first | (with_reducible exact H4.cs) | (with_reducible exact H6.cs) | (with_reducible exact H5.cs) | (with_reducible exact (H6.alloc _).cs) | (with_reducible exact (H5.alloc _).cs) | (with_reducible exact H6.cs3 _ _ _) | (with_reducible exact Hw.cs3A H6 _ _ _ _) | (with_reducible exact (H3.alloc _).drew.cs))
                      case go23 =>
                        clear hK K
                        (try simp only [Act.put, List.getElem_toArray, List.getElem_cons_succ, List.getElem_cons_zero, List.setIfInBounds_toArray, List.set_cons_zero, List.set_cons_succ])
                        refine wpAnyH_take (i := 4) (v := ?v24) rfl (by kernel_rfl) (by kernel_rfl) (by kernel_rfl) (fun _ _ _ h => h) (Or.inl ⟨by rfl, ?hy24⟩) (by assumption) ?rest24
                        case hy24 =>
                          intro w hSw; (try dsimp only at hSw); go_simp; (try with_reducible rfl)
                        case rest24 =>
                          (try simp only [Act.put, List.getElem_toArray, List.getElem_cons_succ, List.getElem_cons_zero, List.setIfInBounds_toArray, List.set_cons_zero, List.set_cons_succ])
                          refine wpAnyH_ready (rs := [5, 8]) (by kernel_rfl) (by simp) ?_
                          refine AllReadyH.cons rfl (fun K hK => ?step25) ?more25
                          case step25 =>
                            go_simp
                            refine hK.out _ _ ?hS25 (fun hHeld => ?go25)
                            case hS25 =>
                              (try dsimp only); (first | (with_reducible exact H4.cs) | (with_reducible exact H6.cs) | (with_reducible exact H5.cs) | (with_reducible exact (H6.alloc _).cs) | (with_reducible exact (H5.alloc _).cs) | (with_reducible exact H6.cs3 _ _ _) | (with_reducible exact Hw.cs3A H6 _ _ _ _) | (with_reducible exact (H3.alloc _).drew.cs))
                            case go25 =>
                              clear hK K
                              (try simp only [Act.put, List.getElem_toArray, List.getElem_cons_succ, List.getElem_cons_zero, List.setIfInBounds_toArray, List.set_cons_zero, List.set_cons_succ])
                              refine wpAnyH_ready (rs := [8]) (by kernel_rfl) (by simp) ?_
                              refine AllReadyH.cons rfl (fun K hK => ?step26) ?more26
                              case step26 =>
                                go_simp
                                go_at_call 58; refine (Hw.holC (by first | assumption | (with_reducible exact (H3.alloc _).drew) | exact Hw.alloc (by assumption) _ | fail) (by omega)).mono ?_; rintro e w6 ⟨b6, cap6, l6, rfl, HO, hl6, H6, hg6⟩; obtain ⟨r0, r1, r2, f0, f1, f2⟩ := H6.rs; have hrl6 := H6.R.lt; have hdl6 := H6.X.lt; have hgl6 := H6.T.lt; (first | (have hL := L3.freshE (by assumption) hg6) | (have hL := L3.freshD (by assumption) hg6) | (have hL := L3.fresh (by assumption) hg6) | (have hL := L3.on (by assumption) hg6) | skip); (first | (have hLc := hL.2.2 v5 a5 b5) | skip)
                                go_wp2_with fail
                                refine hK.out _ _ ?hS26 (fun hHeld => ?go26)
                                case hS26 =>
                                  (try dsimp only); (first | (with_reducible exact H4.cs) | (with_reducible exact H6.cs) | (with_reducible exact H5.cs) | (with_reducible exact (H6.alloc _).cs) | (with_reducible exact (H5.alloc _).cs) | (with_reducible exact H6.cs3 _ _ _) | (with_reducible exact Hw.cs3A H6 _ _ _ _) | (with_reducible exact (H3.alloc _).drew.cs))
                                case go26 =>
                                  clear hK K
                                  (try simp only [Act.put, List.getElem_toArray, List.getElem_cons_succ, List.getElem_cons_zero, List.setIfInBounds_toArray, List.set_cons_zero, List.set_cons_succ])
                                  refine wpAnyH_ready (rs := [9]) (by kernel_rfl) (by simp) ?_
                                  refine AllReadyH.cons rfl (fun K hK => ?step27) ?more27
                                  case step27 =>
                                    go_simp
                                    refine hK.out _ _ ?hS27 (fun hHeld => ?go27)
                                    case hS27 =>
                                      (try dsimp only); (first | (with_reducible exact H4.cs) | (with_reducible exact H6.cs) | (with_reducible exact H5.cs) | (with_reducible exact (H6.alloc _).cs) | (with_reducible exact (H5.alloc _).cs) | (with_reducible exact H6.cs3 _ _ _) | (with_reducible exact Hw.cs3A H6 _ _ _ _) | (with_reducible exact (H3.alloc _).drew.cs))
                                    case go27 =>
                                      clear hK K
                                      (try simp only [Act.put, List.getElem_toArray, List.getElem_cons_succ, List.getElem_cons_zero, List.setIfInBounds_toArray, List.set_cons_zero, List.set_cons_succ])
                                      refine wpAnyH_take (i := 10) (v := ?v28) rfl (by kernel_rfl) (by kernel_rfl) (by kernel_rfl) (fun _ _ _ h => h) (Or.inl ⟨by rfl, ?hy28⟩) (by assumption) ?rest28
                                      case hy28 =>
                                        intro w hSw; (try dsimp only at hSw); go_simp; (try with_reducible rfl)
                                      case rest28 =>
                                        (try simp only [Act.put, List.getElem_toArray, List.getElem_cons_succ, List.getElem_cons_zero, List.setIfInBounds_toArray, List.set_cons_zero, List.set_cons_succ])
                                        refine wpAnyH_take (i := 11) (v := ?v29) rfl (by kernel_rfl) (by kernel_rfl) (by kernel_rfl) (fun _ _ _ h => h) (Or.inl ⟨by rfl, ?hy29⟩) (by assumption) ?rest29
                                        case hy29 =>
                                          intro w hSw; (try dsimp only at hSw); go_simp; (try with_reducible rfl)
                                        case rest29 =>
                                          (try simp only [Act.put, List.getElem_toArray, List.getElem_cons_succ, List.getElem_cons_zero, List.setIfInBounds_toArray, List.set_cons_zero, List.set_cons_succ])
                                          refine wpAnyH_done (by kernel_rfl) ?_ _
                                          refine NoPanic.normal ?_
                                          go_wp2_with fail
                                          refine bodyPost_ret (by simp [results, Tryd.results33, go_sem, r0, r1, r2, World.cell?_setCell_other]; try rfl) rfl ?_
                                          exact ⟨y, mo, d, _, b6, cap6, l6, rfl, own_moreD (own_set3D HO (by first | omega | (simp; omega) | fail) _ _ _) (by first | omega | (simp; omega) | fail), hl6, (by first | exact (l3_bd v5 a5 b5).1 | exact (l3_el v5 a5 b5 _).1 | fail), (by first | exact (l3_bd v5 a5 b5).2 | exact (l3_el v5 a5 b5 _).2 | fail), H6.bl3 _ _ _⟩
                                  case more27 =>
                                    exact AllReadyH.nil
                              case more26 =>
                                exact AllReadyH.nil
                          case more25 =>
                            refine AllReadyH.cons rfl (fun K hK => ?step30) ?more30
                            case step30 =>
                              go_simp
                              go_at_call 58; refine (Hw.holC (by first | assumption | (with_reducible exact (H3.alloc _).drew) | exact Hw.alloc (by assumption) _ | fail) (by omega)).mono ?_; rintro e w6 ⟨b6, cap6, l6, rfl, HO, hl6, H6, hg6⟩; obtain ⟨r0, r1, r2, f0, f1, f2⟩ := H6.rs; have hrl6 := H6.R.lt; have hdl6 := H6.X.lt; have hgl6 := H6.T.lt; (first | (have hL := L3.freshE (by assumption) hg6) | (have hL := L3.freshD (by assumption) hg6) | (have hL := L3.fresh (by assumption) hg6) | (have hL := L3.on (by assumption) hg6) | skip); (first | (have hLc := hL.2.2 v5 a5 b5) | skip)
                              go_wp2_with fail
                              refine hK.out _ _ ?hS30 (fun hHeld => ?go30)
                              case hS30 =>
                                (try dsimp only); (first | (with_reducible exact H4.cs) | (with_reducible exact H6.cs) | (with_reducible exact H5.cs) | (with_reducible exact (H6.alloc _).cs) | (with_reducible exact (H5.alloc _).cs) | (with_reducible exact H6.cs3 _ _ _) | (with_reducible exact Hw.cs3A H6 _ _ _ _) | (with_reducible exact (H3.alloc _).drew.cs))
                              case go30 =>
                                clear hK K
                                (try simp only [Act.put, List.getElem_toArray, List.getElem_cons_succ, List.getElem_cons_zero, List.setIfInBounds_toArray, List.set_cons_zero, List.set_cons_succ])
                                refine wpAnyH_ready (rs := [5, 9]) (by kernel_rfl) (by simp) ?_
                                refine AllReadyH.cons rfl (fun K hK => ?step31) ?more31
                                case step31 =>
                                  go_simp
                                  refine hK.out _ _ ?hS31 (fun hHeld => ?go31)
                                  case hS31 =>
                                    (try dsimp only); (first | (with_reducible exact H4.cs) | (with_reducible exact H6.cs) | (with_reducible exact H5.cs) | (with_reducible exact (H6.alloc _).cs) | (with_reducible exact (H5.alloc _).cs) | (with_reducible exact H6.cs3 _ _ _) | (with_reducible exact Hw.cs3A H6 _ _ _ _) | (with_reducible exact (H3.alloc _).drew.cs))
                                  case go31 =>
                                    clear hK K
                                    (try simp only [Act.put, List.getElem_toArray, List.getElem_cons_succ, List.getElem_cons_zero, List.setIfInBounds_toArray, List.set_cons_zero, List.set_cons_succ])
                                    refine wpAnyH_ready (rs := [9]) (by kernel_rfl) (by simp) ?_
                                    refine AllReadyH.cons rfl (fun K hK => ?step32) ?more32
                                    case step32 =>
                                      go_simp
                                      refine hK.out _ _ ?hS32 (fun hHeld => ?go32)
                                      case hS32 =>
                                        (try dsimp only); (first | (with_reducible exact H4.cs) | (with_reducible exact H6.cs) | (with_reducible exact H5.cs) | (with_reducible exact (H6.alloc _).cs) | (with_reducible exact (H5.alloc _).cs) | (with_reducible exact H6.cs3 _ _ _) | (with_reducible exact Hw.cs3A H6 _ _ _ _) | (with_reducible exact (H3.alloc _).drew.cs))
                                      case go32 =>
                                        clear hK K
                                        (try simp only [Act.put, List.getElem_toArray, List.getElem_cons_succ, List.getElem_cons_zero, List.setIfInBounds_toArray, List.set_cons_zero, List.set_cons_succ])
                                        refine wpAnyH_take (i := 10) (v := ?v33) rfl (by kernel_rfl) (by kernel_rfl) (by kernel_rfl) (fun _ _ _ h => h) (Or.inl ⟨by rfl, ?hy33⟩) (by assumption) ?rest33
                                        case hy33 =>
                                          intro w hSw; (try dsimp only at hSw); go_simp; (try with_reducible rfl)
                                        case rest33 =>
                                          (try simp only [Act.put, List.getElem_toArray, List.getElem_cons_succ, List.getElem_cons_zero, List.setIfInBounds_toArray, List.set_cons_zero, List.set_cons_succ])
                                          refine wpAnyH_take (i := 11) (v := ?v34) rfl (by kernel_rfl) (by kernel_rfl) (by kernel_rfl) (fun _ _ _ h => h) (Or.inl ⟨by rfl, ?hy34⟩) (by assumption) ?rest34
                                          case hy34 =>
                                            intro w hSw; (try dsimp only at hSw); go_simp; (try with_reducible rfl)
                                          case rest34 =>
                                            (try simp only [Act.put, List.getElem_toArray, List.getElem_cons_succ, List.getElem_cons_zero, List.setIfInBounds_toArray, List.set_cons_zero, List.set_cons_succ])
                                            refine wpAnyH_done (by kernel_rfl) ?_ _
                                            refine NoPanic.normal ?_
                                            go_wp2_with fail
                                            refine bodyPost_ret (by simp [results, Tryd.results33, go_sem, r0, r1, r2, World.cell?_setCell_other]; try rfl) rfl ?_
                                            exact ⟨y, mo, d, _, b6, cap6, l6, rfl, own_moreD (own_set3D HO (by first | omega | (simp; omega) | fail) _ _ _) (by first | omega | (simp; omega) | fail), hl6, (by first | exact (l3_bd v5 a5 b5).1 | exact (l3_el v5 a5 b5 _).1 | fail), (by first | exact (l3_bd v5 a5 b5).2 | exact (l3_el v5 a5 b5 _).2 | fail), H6.bl3 _ _ _⟩
                                    case more32 =>
                                      exact AllReadyH.nil
                                case more31 =>
                                  refine AllReadyH.cons rfl (fun K hK => ?step35) ?more35
                                  case step35 =>
                                    go_simp
                                    refine hK.out _ _ ?hS35 (fun hHeld => ?go35)
                                    case hS35 =>
                                      (try dsimp only); (first | (with_reducible exact H4.cs) | (with_reducible exact H6.cs) | (with_reducible exact H5.cs) | (with_reducible exact (H6.alloc _).cs) | (with_reducible exact (H5.alloc _).cs) | (with_reducible exact H6.cs3 _ _ _) | (with_reducible exact Hw.cs3A H6 _ _ _ _) | (with_reducible exact (H3.alloc _).drew.cs))
                                    case go35 =>
                                      clear hK K
                                      (try simp only [Act.put, List.getElem_toArray, List.getElem_cons_succ, List.getElem_cons_zero, List.setIfInBounds_toArray, List.set_cons_zero, List.set_cons_succ])
                                      refine wpAnyH_ready (rs := [5]) (by kernel_rfl) (by simp) ?_
                                      refine AllReadyH.cons rfl (fun K hK => ?step36) ?more36
                                      case step36 =>
                                        go_simp
                                        refine hK.out _ _ ?hS36 (fun hHeld => ?go36)
                                        case hS36 =>
                                          (try dsimp only); (first | (with_reducible exact H4.cs) | (with_reducible exact H6.cs) | (with_reducible exact H5.cs) | (with_reducible exact (H6.alloc _).cs) | (with_reducible exact (H5.alloc _).cs) | (with_reducible exact H6.cs3 _ _ _) | (with_reducible exact Hw.cs3A H6 _ _ _ _) | (with_reducible exact (H3.alloc _).drew.cs))
                                        case go36 =>
                                          clear hK K
                                          (try simp only [Act.put, List.getElem_toArray, List.getElem_cons_succ, List.getElem_cons_zero, List.setIfInBounds_toArray, List.set_cons_zero, List.set_cons_succ])
                                          refine wpAnyH_take (i := 10) (v := ?v37) rfl (by kernel_rfl) (by kernel_rfl) (by kernel_rfl) (fun _ _ _ h => h) (Or.inl ⟨by rfl, ?hy37⟩) (by assumption) ?rest37
                                          case hy37 =>
                                            intro w hSw; (try dsimp only at hSw); go_simp; (try with_reducible rfl)
                                          case rest37 =>
                                            (try simp only [Act.put, List.getElem_toArray, List.getElem_cons_succ, List.getElem_cons_zero, List.setIfInBounds_toArray, List.set_cons_zero, List.set_cons_succ])
                                            refine wpAnyH_take (i := 11) (v := ?v38) rfl (by kernel_rfl) (by kernel_rfl) (by kernel_rfl) (fun _ _ _ h => h) (Or.inl ⟨by rfl, ?hy38⟩) (by assumption) ?rest38
                                            case hy38 =>
                                              intro w hSw; (try dsimp only at hSw); go_simp; (try with_reducible rfl)
                                            case rest38 =>
                                              (try simp only [Act.put, List.getElem_toArray, List.getElem_cons_succ, List.getElem_cons_zero, List.setIfInBounds_toArray, List.set_cons_zero, List.set_cons_succ])
                                              refine wpAnyH_done (by kernel_rfl) ?_ _
                                              refine NoPanic.normal ?_
                                              go_wp2_with fail
                                              refine bodyPost_ret (by simp [results, Tryd.results33, go_sem, r0, r1, r2, World.cell?_setCell_other]; try rfl) rfl ?_
                                              exact ⟨y, mo, d, _, b6, cap6, l6, rfl, own_moreD (own_set3D HO (by first | omega | (simp; omega) | fail) _ _ _) (by first | omega | (simp; omega) | fail), hl6, (by first | exact (l3_bd v5 a5 b5).1 | exact (l3_el v5 a5 b5 _).1 | fail), (by first | exact (l3_bd v5 a5 b5).2 | exact (l3_el v5 a5 b5 _).2 | fail), H6.bl3 _ _ _⟩
                                      case more36 =>
                                        exact AllReadyH.nil
                                  case more35 =>
                                    exact AllReadyH.nil
                            case more30 =>
                              exact AllReadyH.nil
                    case more23 =>
                      refine AllReadyH.cons rfl (fun K hK => ?step39) ?more39
                      case step39 =>
                        go_simp
                        go_at_call 58; refine (Hw.holC (by first | assumption | (with_reducible exact (H3.alloc _).drew) | exact Hw.alloc (by assumption) _ | fail) (by omega)).mono ?_; rintro e w6 ⟨b6, cap6, l6, rfl, HO, hl6, H6, hg6⟩; obtain ⟨r0, r1, r2, f0, f1, f2⟩ := H6.rs; have hrl6 := H6.R.lt; have hdl6 := H6.X.lt; have hgl6 := H6.T.lt; (first | (have hL := L3.freshE (by assumption) hg6) | (have hL := L3.freshD (by assumption) hg6) | (have hL := L3.fresh (by assumption) hg6) | (have hL := L3.on (by assumption) hg6) | skip); (first | (have hLc := hL.2.2 v5 a5 b5) | skip)
                        go_wp2_with fail
                        refine hK.out _ _ ?hS39 (fun hHeld => ?go39)
                        case hS39 =>
                          (try dsimp only); (first | (with_reducible exact H4.cs) | (with_reducible exact H6.cs) | (with_reducible exact H5.cs) | (with_reducible exact (H6.alloc _).cs) | (with_reducible exact (H5.alloc _).cs) | (with_reducible exact H6.cs3 _ _ _) | (with_reducible exact Hw.cs3A H6 _ _ _ _) | (with_reducible exact (H3.alloc _).drew.cs))
                        case go39 =>
                          clear hK K
                          (try simp only [Act.put, List.getElem_toArray, List.getElem_cons_succ, List.getElem_cons_zero, List.setIfInBounds_toArray, List.set_cons_zero, List.set_cons_succ])
                          refine wpAnyH_ready (rs := [1, 9]) (by kernel_rfl) (by simp) ?_
                          refine AllReadyH.cons rfl (fun K hK => ?step40) ?more40
                          case step40 =>
                            go_simp
                            refine hK.out _ _ ?hS40 (fun hHeld => ?go40)
                            case hS40 =>
                              (try dsimp only); (first | (with_reducible exact H4.cs) | (with_reducible exact H6.cs) | (with_reducible exact H5.cs) | (with_reducible exact (H6.alloc _).cs) | (with_reducible exact (H5.alloc _).cs) | (with_reducible exact H6.cs3 _ _ _) | (with_reducible exact Hw.cs3A H6 _ _ _ _) | (with_reducible exact (H3.alloc _).drew.cs))
                            case go40 =>
                              clear hK K
                              (try simp only [Act.put, List.getElem_toArray, List.getElem_cons_succ, List.getElem_cons_zero, List.setIfInBounds_toArray, List.set_cons_zero, List.set_cons_succ])
                              refine wpAnyH_take (i := 4) (v := ?v41) rfl (by kernel_rfl) (by kernel_rfl) (by kernel_rfl) (fun _ _ _ h => h) (Or.inl ⟨by rfl, ?hy41⟩) (by assumption) ?rest41
                              case hy41 =>
                                intro w hSw; (try dsimp only at hSw); go_simp; (try with_reducible rfl)
                              case rest41 =>
                                (try simp only [Act.put, List.getElem_toArray, List.getElem_cons_succ, List.getElem_cons_zero, List.setIfInBounds_toArray, List.set_cons_zero, List.set_cons_succ])
                                refine wpAnyH_ready (rs := [5, 9]) (by kernel_rfl) (by simp) ?_
                                refine AllReadyH.cons rfl (fun K hK => ?step42) ?more42
                                case step42 =>
                                  go_simp
                                  refine hK.out _ _ ?hS42 (fun hHeld => ?go42)
                                  case hS42 =>
                                    (try dsimp only); (first | (with_reducible exact H4.cs) | (with_reducible exact H6.cs) | (with_reducible exact H5.cs) | (with_reducible exact (H6.alloc _).cs) | (with_reducible exact (H5.alloc _).cs) | (with_reducible exact H6.cs3 _ _ _) | (with_reducible exact Hw.cs3A H6 _ _ _ _) | (with_reducible exact (H3.alloc _).drew.cs))
                                  case go42 =>
                                    clear hK K
                                    (try simp only [Act.put, List.getElem_toArray, List.getElem_cons_succ, List.getElem_cons_zero, List.setIfInBounds_toArray, List.set_cons_zero, List.set_cons_succ])
                                    refine wpAnyH_ready (rs := [9]) (by kernel_rfl) (by simp) ?_
                                    refine AllReadyH.cons rfl (fun K hK => ?step43) ?more43
                                    case step43 =>
                                      go_simp
                                      refine hK.out _ _ ?hS43 (fun hHeld => ?go43)
                                      case hS43 =>
                                        (try dsimp only); (first | (with_reducible exact H4.cs) | (with_reducible exact H6.cs) | (with_reducible exact H5.cs) | (with_reducible exact (H6.alloc _).cs) | (with_reducible exact (H5.alloc _).cs) | (with_reducible exact H6.cs3 _ _ _) | (with_reducible exact Hw.cs3A H6 _ _ _ _) | (with_reducible exact (H3.alloc _).drew.cs))
                                      case go43 =>
                                        clear hK K
                                        (try simp only [Act.put, List.getElem_toArray, List.getElem_cons_succ, List.getElem_cons_zero, List.setIfInBounds_toArray, List.set_cons_zero, List.set_cons_succ])
                                        refine wpAnyH_take (i := 10) (v := ?v44) rfl (by kernel_rfl) (by kernel_rfl) (by kernel_rfl) (fun _ _ _ h => h) (Or.inl ⟨by rfl, ?hy44⟩) (by assumption) ?rest44
                                        case hy44 =>
                                          intro w hSw; (try dsimp only at hSw); go_simp; (try with_reducible rfl)
                                        case rest44 =>
                                          (try simp only [Act.put, List.getElem_toArray, List.getElem_cons_succ, List.getElem_cons_zero, List.setIfInBounds_toArray, List.set_cons_zero, List.set_cons_succ])
                                          refine wpAnyH_take (i := 11) (v := ?v45) rfl (by kernel_rfl) (by kernel_rfl) (by kernel_rfl) (fun _ _ _ h => h) (Or.inl ⟨by rfl, ?hy45⟩) (by assumption) ?rest45
                                          case hy45 =>
                                            intro w hSw; (try dsimp only at hSw); go_simp; (try with_reducible rfl)
                                          case rest45 =>
                                            (try simp only [Act.put, List.getElem_toArray, List.getElem_cons_succ, List.getElem_cons_zero, List.setIfInBounds_toArray, List.set_cons_zero, List.set_cons_succ])
                                            refine wpAnyH_done (by kernel_rfl) ?_ _
                                            refine NoPanic.normal ?_
                                            go_wp2_with fail
                                            have Q := (H6.R.set3 (.int .i64 y) (.int .i64 mo) (.int .i64 d)).alloc (.cells #[.int .i64 (-1), .int .i64 500, .int .i64 501] 3)
                                            have q0 := Q.cell 0
                                            have q1 := Q.cell 1
                                            have q2 := Q.cell 2
                                            simp at q0 q1 q2
                                            refine bodyPost_ret (by simp [results, Tryd.results33, go_sem, q0, q1, q2]; try rfl) rfl ?_
                                            exact ⟨y, mo, d, _, b6, cap6, l6, rfl, own_moreD (own_belowD (own_set3D HO (by first | omega | (simp; omega) | fail) _ _ _) (bal (Below.refl _ _) _)) (by first | omega | (simp; omega) | fail), hl6, (by first | exact (l3_bd v5 a5 b5).1 | exact (l3_el v5 a5 b5 _).1 | fail), (by first | exact (l3_bd v5 a5 b5).2 | exact (l3_el v5 a5 b5 _).2 | fail), bal (H6.bl3 _ _ _) _⟩
                                    case more43 =>
                                      exact AllReadyH.nil
                                case more42 =>
                                  refine AllReadyH.cons rfl (fun K hK => ?step46) ?more46
                                  case step46 =>
                                    go_simp
                                    refine hK.out _ _ ?hS46 (fun hHeld => ?go46)
                                    case hS46 =>
                                      (try dsimp only); (first | (with_reducible exact H4.cs) | (with_reducible exact H6.cs) | (with_reducible exact H5.cs) | (with_reducible exact (H6.alloc _).cs) | (with_reducible exact (H5.alloc _).cs) | (with_reducible exact H6.cs3 _ _ _) | (with_reducible exact Hw.cs3A H6 _ _ _ _) | (with_reducible exact (H3.alloc _).drew.cs))
                                    case go46 =>
                                      clear hK K
                                      (try simp only [Act.put, List.getElem_toArray, List.getElem_cons_succ, List.getElem_cons_zero, List.setIfInBounds_toArray, List.set_cons_zero, List.set_cons_succ])
                                      refine wpAnyH_ready (rs := [5]) (by kernel_rfl) (by simp) ?_
                                      refine AllReadyH.cons rfl (fun K hK => ?step47) ?more47
                                      case step47 =>
                                        go_simp
                                        refine hK.out _ _ ?hS47 (fun hHeld => ?go47)
                                        case hS47 =>
                                          (try dsimp only); (first | (with_reducible exact H4.cs) | (with_reducible exact H6.cs) | (with_reducible exact H5.cs) | (with_reducible exact (H6.alloc _).cs) | (with_reducible exact (H5.alloc _).cs) | (with_reducible exact H6.cs3 _ _ _) | (with_reducible exact Hw.cs3A H6 _ _ _ _) | (with_reducible exact (H3.alloc _).drew.cs))
                                        case go47 =>
                                          clear hK K
                                          (try simp only [Act.put, List.getElem_toArray, List.getElem_cons_succ, List.getElem_cons_zero, List.setIfInBounds_toArray, List.set_cons_zero, List.set_cons_succ])
                                          refine wpAnyH_take (i := 10) (v := ?v48) rfl (by kernel_rfl) (by kernel_rfl) (by kernel_rfl) (fun _ _ _ h => h) (Or.inl ⟨by rfl, ?hy48⟩) (by assumption) ?rest48
                                          case hy48 =>
                                            intro w hSw; (try dsimp only at hSw); go_simp; (try with_reducible rfl)
                                          case rest48 =>
                                            (try simp only [Act.put, List.getElem_toArray, List.getElem_cons_succ, List.getElem_cons_zero, List.setIfInBounds_toArray, List.set_cons_zero, List.set_cons_succ])
                                            refine wpAnyH_take (i := 11) (v := ?v49) rfl (by kernel_rfl) (by kernel_rfl) (by kernel_rfl) (fun _ _ _ h => h) (Or.inl ⟨by rfl, ?hy49⟩) (by assumption) ?rest49
                                            case hy49 =>
                                              intro w hSw; (try dsimp only at hSw); go_simp; (try with_reducible rfl)
                                            case rest49 =>
                                              (try simp only [Act.put, List.getElem_toArray, List.getElem_cons_succ, List.getElem_cons_zero, List.setIfInBounds_toArray, List.set_cons_zero, List.set_cons_succ])
                                              refine wpAnyH_done (by kernel_rfl) ?_ _
                                              refine NoPanic.normal ?_
                                              go_wp2_with fail
                                              have Q := (H6.R.set3 (.int .i64 y) (.int .i64 mo) (.int .i64 d)).alloc (.cells #[.int .i64 (-1), .int .i64 500, .int .i64 501] 3)
                                              have q0 := Q.cell 0
                                              have q1 := Q.cell 1
                                              have q2 := Q.cell 2
                                              simp at q0 q1 q2
                                              refine bodyPost_ret (by simp [results, Tryd.results33, go_sem, q0, q1, q2]; try rfl) rfl ?_
                                              exact ⟨y, mo, d, _, b6, cap6, l6, rfl, own_moreD (own_belowD (own_set3D HO (by first | omega | (simp; omega) | fail) _ _ _) (bal (Below.refl _ _) _)) (by first | omega | (simp; omega) | fail), hl6, (by first | exact (l3_bd v5 a5 b5).1 | exact (l3_el v5 a5 b5 _).1 | fail), (by first | exact (l3_bd v5 a5 b5).2 | exact (l3_el v5 a5 b5 _).2 | fail), bal (H6.bl3 _ _ _) _⟩
                                      case more47 =>
                                        exact AllReadyH.nil
                                  case more46 =>
                                    exact AllReadyH.nil
                          case more40 =>
                            refine AllReadyH.cons rfl (fun K hK => ?step50) ?more50
                            case step50 =>
                              go_simp
                              refine hK.out _ _ ?hS50 (fun hHeld => ?go50)
                              case hS50 =>
                                (try dsimp only); (first | (with_reducible exact H4.cs) | (with_reducible exact H6.cs) | (with_reducible exact H5.cs) | (with_reducible exact (H6.alloc _).cs) | (with_reducible exact (H5.alloc _).cs) | (with_reducible exact H6.cs3 _ _ _) | (with_reducible exact Hw.cs3A H6 _ _ _ _) | (with_reducible exact (H3.alloc _).drew.cs))
                              case go50 =>
                                clear hK K
                                (try simp only [Act.put, List.getElem_toArray, List.getElem_cons_succ, List.getElem_cons_zero, List.setIfInBounds_toArray, List.set_cons_zero, List.set_cons_succ])
                                refine wpAnyH_ready (rs := [1]) (by kernel_rfl) (by simp) ?_
                                refine AllReadyH.cons rfl (fun K hK => ?step51) ?more51
                                case step51 =>
                                  go_simp
                                  refine hK.out _ _ ?hS51 (fun hHeld => ?go51)
                                  case hS51 =>
                                    (try dsimp only); (first | (with_reducible exact H4.cs) | (with_reducible exact H6.cs) | (with_reducible exact H5.cs) | (with_reducible exact (H6.alloc _).cs) | (with_reducible exact (H5.alloc _).cs) | (with_reducible exact H6.cs3 _ _ _) | (with_reducible exact Hw.cs3A H6 _ _ _ _) | (with_reducible exact (H3.alloc _).drew.cs))
                                  case go51 =>
                                    clear hK K
                                    (try simp only [Act.put, List.getElem_toArray, List.getElem_cons_succ, List.getElem_cons_zero, List.setIfInBounds_toArray, List.set_cons_zero, List.set_cons_succ])
                                    refine wpAnyH_take (i := 4) (v := ?v52) rfl (by kernel_rfl) (by kernel_rfl) (by kernel_rfl) (fun _ _ _ h => h) (Or.inl ⟨by rfl, ?hy52⟩) (by assumption) ?rest52
                                    case hy52 =>
                                      intro w hSw; (try dsimp only at hSw); go_simp; (try with_reducible rfl)
                                    case rest52 =>
                                      (try simp only [Act.put, List.getElem_toArray, List.getElem_cons_succ, List.getElem_cons_zero, List.setIfInBounds_toArray, List.set_cons_zero, List.set_cons_succ])
                                      refine wpAnyH_ready (rs := [5]) (by kernel_rfl) (by simp) ?_
                                      refine AllReadyH.cons rfl (fun K hK => ?step53) ?more53
                                      case step53 =>
                                        go_simp
                                        refine hK.out _ _ ?hS53 (fun hHeld => ?go53)
                                        case hS53 =>
                                          (try dsimp only); (first | (with_reducible exact H4.cs) | (with_reducible exact H6.cs) | (with_reducible exact H5.cs) | (with_reducible exact (H6.alloc _).cs) | (with_reducible exact (H5.alloc _).cs) | (with_reducible exact H6.cs3 _ _ _) | (with_reducible exact Hw.cs3A H6 _ _ _ _) | (with_reducible exact (H3.alloc _).drew.cs))
                                        case go53 =>
                                          clear hK K
                                          (try simp only [Act.put, List.getElem_toArray, List.getElem_cons_succ, List.getElem_cons_zero, List.setIfInBounds_toArray, List.set_cons_zero, List.set_cons_succ])
                                          refine wpAnyH_take (i := 10) (v := ?v54) rfl (by kernel_rfl) (by kernel_rfl) (by kernel_rfl) (fun _ _ _ h => h) (Or.inl ⟨by rfl, ?hy54⟩) (by assumption) ?rest54
                                          case hy54 =>
                                            intro w hSw; (try dsimp only at hSw); go_simp; (try with_reducible rfl)
                                          case rest54 =>
                                            (try simp only [Act.put, List.getElem_toArray, List.getElem_cons_succ, List.getElem_cons_zero, List.setIfInBounds_toArray, List.set_cons_zero, List.set_cons_succ])
                                            refine wpAnyH_take (i := 11) (v := ?v55) rfl (by kernel_rfl) (by kernel_rfl) (by kernel_rfl) (fun _ _ _ h => h) (Or.inl ⟨by rfl, ?hy55⟩) (by assumption) ?rest55
                                            case hy55 =>
                                              intro w hSw; (try dsimp only at hSw); go_simp; (try with_reducible rfl)
                                            case rest55 =>
                                              (try simp only [Act.put, List.getElem_toArray, List.getElem_cons_succ, List.getElem_cons_zero, List.setIfInBounds_toArray, List.set_cons_zero, List.set_cons_succ])
                                              refine wpAnyH_done (by kernel_rfl) ?_ _
                                              refine NoPanic.normal ?_
                                              go_wp2_with fail
                                              have Q := (H6.R.set3 (.int .i64 y) (.int .i64 mo) (.int .i64 d)).alloc (.cells #[.int .i64 (-1), .int .i64 500, .int .i64 501] 3)
                                              have q0 := Q.cell 0
                                              have q1 := Q.cell 1
                                              have q2 := Q.cell 2
                                              simp at q0 q1 q2
                                              refine bodyPost_ret (by simp [results, Tryd.results33, go_sem, q0, q1, q2]; try rfl) rfl ?_
                                              exact ⟨y, mo, d, _, b6, cap6, l6, rfl, own_moreD (own_belowD (own_set3D HO (by first | omega | (simp; omega) | fail) _ _ _) (bal (Below.refl _ _) _)) (by first | omega | (simp; omega) | fail), hl6, (by first | exact (l3_bd v5 a5 b5).1 | exact (l3_el v5 a5 b5 _).1 | fail), (by first | exact (l3_bd v5 a5 b5).2 | exact (l3_el v5 a5 b5 _).2 | fail), bal (H6.bl3 _ _ _) _⟩
                                      case more53 =>
                                        exact AllReadyH.nil
                                case more51 =>
                                  exact AllReadyH.nil
                            case more50 =>
                              exact AllReadyH.nil
                      case more39 =>
                        exact AllReadyH.nil
                case more22 =>
                  exact AllReadyH.nil
  · have g0 : (v3 == 0) = false := by simpa using h0
    obtain ⟨x0, x1, x2⟩ := H3.cs
    obtain ⟨r0, r1, r2, f0, f1, f2⟩ := H3.rs
    go_wp2_with fail
    have H4 := H3.drew
    go_region_held3 (fun w' => w'.cell? ⟨db, 0, none⟩ = some (.int .i64 y) ∧ w'.cell? ⟨db, 1, none⟩ = some (.int .i64 mo) ∧ w'.cell? ⟨db, 2, none⟩ = some (.int .i64 d)) (first | (exact H4.cs) | (exact Hw.cs (by assumption)) | (exact Hw.cs3 (by assumption) _ _ _)) (first | (go_at_call 36; refine (Hw.pickC (by assumption) (by omega) (by omega) (by omega)).mono ?_; rintro e w5 ⟨v5, a5, b5, rfl, H5, hg5⟩; obtain ⟨r0, r1, r2, f0, f1, f2⟩ := H5.rs; have hrl5 := H5.R.lt; (first | have HO := own_rd HO hg5 (by omega) | skip)) | (go_at_call 58; refine (Hw.holC (by assumption) (by omega)).mono ?_; rintro e w6 ⟨b6, cap6, l6, rfl, HO, hl6, H6, hg6⟩; obtain ⟨r0, r1, r2, f0, f1, f2⟩ := H6.rs))
    all_goals
      go_wp2_with fail
      refine bodyPost_ret (by simp [results, Tryd.results33, go_sem, r0, r1, r2, World.cell?_setCell_other]; try rfl) rfl ?_
      first
      | exact ⟨y, mo, d, v5, b6, cap6, l6, rfl, own_moreD (own_set3D HO (by first | omega | (simp; omega) | fail) _ _ _) (by first | omega | (simp; omega) | fail), hl6, by omega, by omega, H6.bl3 _ _ _⟩
      | exact ⟨y, mo, d, v5, b6, cap6, l6, rfl, own_moreD (own_set3D HO (by first | omega | (simp; omega) | fail) _ _ _) (by first | omega | (simp; omega) | fail), hl6, by omega, by omega, H5.bl3 _ _ _⟩
end Go.Proofs.YtdflacnegkgljaaDoor
