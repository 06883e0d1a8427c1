/- Draws: the arguments of ZoneInstants and ZonePick. -/
import Derived.Test.YtjdlffkbhaieaaaDoorDrL2
namespace Go.Proofs.YtjdlffkbhaieaaaDoor
open Go.RowKit

/-- A drawn zone, a date and a time, by a code. -/
def DrawnZI (w : World) (e : Ending) (w' : World) : Prop :=
  ∃ (o : Int) (b cap : Nat) (l : List R2) (y mo d h mi s ms : Int), e = .returned (.tuple #[.agg #[.int .i64 o, .slice (some ⟨b, 0, none⟩) l.length cap], .agg #[.int .i64 y, .int .i64 mo, .int .i64 d], .agg #[.int .i64 h, .int .i64 mi, .int .i64 s, .int .i64 ms]]) ∧
    w'.ownsRow w.heap.size 68 2 (.slice (some ⟨b, 0, none⟩) l.length cap) l.length (flatP l) ∧ l.length ≤ 5 ∧ Below w.heap.size w w'
set_option maxRecDepth 100000 in
set_option maxHeartbeats 2000000 in
theorem drawZI {B len cap : Nat} {A : Option Addr} {w : World} (hs : Src B w A len) (hB : B ≤ w.heap.size) (hc : len ≤ cap) (hm : cap ≤ maxLen) :
    Calls Tryd.prog 23 #[.slice A len cap] w (DrawnZI w) := by
  have A0 := ((Blk.new w 36 #[.int .i64 0, .slice none 0 0]).alloc (.cells #[.int .i64 0, .int .i64 0, .int .i64 0] 27)).alloc (.cells #[.int .i64 0, .int .i64 0, .int .i64 0, .int .i64 0] 29)
  have A1 := (Blk.newE (W := w.alloc (.cells #[.int .i64 0, .slice none 0 0] 36)) (g := w.heap.size + 1) (t := 27) (cs := #[.int .i64 0, .int .i64 0, .int .i64 0]) (by simp)).alloc (.cells #[.int .i64 0, .int .i64 0, .int .i64 0, .int .i64 0] 29)
  have A2 := Blk.newE (W := (w.alloc (.cells #[.int .i64 0, .slice none 0 0] 36)).alloc (.cells #[.int .i64 0, .int .i64 0, .int .i64 0] 27)) (g := w.heap.size + 1 + 1) (t := 29) (cs := #[.int .i64 0, .int .i64 0, .int .i64 0, .int .i64 0]) (by simp)
  have B0 := bal (bal (bal (Below.refl w.heap.size w) (.cells #[.int .i64 0, .slice none 0 0] 36)) (.cells #[.int .i64 0, .int .i64 0, .int .i64 0] 27)) (.cells #[.int .i64 0, .int .i64 0, .int .i64 0, .int .i64 0] 29)
  go_enter Tryd.func23, Tryd.ntmps23
  go_wp2_with fail
  refine (l6Open_any (((hs.keep fun p hp => World.cell?_alloc_lt w _ p (by omega)).keep fun p hp => World.cell?_alloc_lt _ _ p (by simp; omega)).keep fun p hp => World.cell?_alloc_lt _ _ p (by simp; omega)) (by simp; omega) hc hm).mono ?_
  rintro e w1 ⟨g, rfl, hg, hr1, hb1⟩
  simp at hg
  have E0 := A0.below hb1 A0.lt
  have E1 := A1.below hb1 A1.lt
  have E2 := A2.below hb1 A2.lt
  have B1 := bto B0 hb1
  have hgl1 := hr1.lt
  go_wp2_with fail
  refine (l92Local_any hr1 (by omega)).mono ?_
  rintro e w2 ⟨o, b, cap1, l, y, mo, d, h, mi, s, ms, rfl, ho, hl5, hr2, hg2⟩
  have F0 := E0.grown' hg2 (by omega)
  have F1 := E1.grown' hg2 (by omega)
  have F2 := E2.grown' hg2 (by omega)
  have B2 := bonly B1 hg2 (by omega)
  have hs2 := hg2.size
  clear A0 A1 A2 B0 E0 E1 E2 B1 hb1 hr1 hg2
  have pc00 := F0.cell 0
  have pf00 := F0.frozen 0
  have pc01 := F0.cell 1
  have pf01 := F0.frozen 1
  have pc10 := F1.cell 0
  have pf10 := F1.frozen 0
  have pc11 := F1.cell 1
  have pf11 := F1.frozen 1
  have pc12 := F1.cell 2
  have pf12 := F1.frozen 2
  have pc20 := F2.cell 0
  have pf20 := F2.frozen 0
  have pc21 := F2.cell 1
  have pf21 := F2.frozen 1
  have pc22 := F2.cell 2
  have pf22 := F2.frozen 2
  have pc23 := F2.cell 3
  have pf23 := F2.frozen 3
  simp at pc00 pc01 pc10 pc11 pc12 pc20 pc21 pc22 pc23
  have HO := hide ho
  have HB := hide B2
  clear ho B2 F0 F1 F2
  go_wp2_with fail
  refine bodyPost_ret (v := .tuple #[.agg #[.int .i64 o, .slice (some ⟨b, 0, none⟩) l.length cap1], .agg #[.int .i64 y, .int .i64 mo, .int .i64 d], .agg #[.int .i64 h, .int .i64 mi, .int .i64 s, .int .i64 ms]]) (by simp [results, Tryd.results23, go_sem, pc00, pc01, pc10, pc11, pc12, pc20, pc21, pc22, pc23, World.cell?_setCell_other]; try rfl) rfl ?_
  exact ⟨o, b, cap1, l, y, mo, d, h, mi, s, ms, rfl, own_more (base := w1.heap.size) (by repeat' first | (with_reducible exact HO.out) | ((with_reducible refine ownsRow_setCell_below ?_ ?_ _); rotate_left; focus (show _ < _; simp; omega))) (by omega), hl5, (by repeat' first | (with_reducible exact HB.out) | ((with_reducible refine bset ?_ ?_ _); rotate_left; focus (show _ ≤ _; simp; try omega)))⟩
/-- The same, and which one is wanted. -/
def DrawnZP (w : World) (e : Ending) (w' : World) : Prop :=
  ∃ (o : Int) (b cap : Nat) (l : List R2) (y mo d h mi s ms : Int) (later : Bool), e = .returned (.tuple #[.agg #[.int .i64 o, .slice (some ⟨b, 0, none⟩) l.length cap], .agg #[.int .i64 y, .int .i64 mo, .int .i64 d], .agg #[.int .i64 h, .int .i64 mi, .int .i64 s, .int .i64 ms], .bool later]) ∧
    w'.ownsRow w.heap.size 68 2 (.slice (some ⟨b, 0, none⟩) l.length cap) l.length (flatP l) ∧ l.length ≤ 5 ∧ Below w.heap.size w w'
theorem own_drew {w : World} {base : Nat} {e : TypeId} {k : Nat} {v : Value} {n : Nat} {xs : List Value} (h : w.ownsRow base e k v n xs) : w.drew.ownsRow base e k v n xs := h
theorem c9d {W : World} {a b c : Nat} {t1 t2 t3 : TypeId} {v0 v1 v2 v3 v4 v5 v6 v7 v8 : Value} (X : Blk W a t1 #[v0, v1]) (Y : Blk W b t2 #[v2, v3, v4]) (Z : Blk W c t3 #[v5, v6, v7, v8]) :
    W.cell? ⟨a, 0, none⟩ = some v0 ∧ W.cell? ⟨a, 1, none⟩ = some v1 ∧ W.cell? ⟨b, 0, none⟩ = some v2 ∧ W.cell? ⟨b, 1, none⟩ = some v3 ∧ W.cell? ⟨b, 2, none⟩ = some v4 ∧ W.cell? ⟨c, 0, none⟩ = some v5 ∧ W.cell? ⟨c, 1, none⟩ = some v6 ∧ W.cell? ⟨c, 2, none⟩ = some v7 ∧ W.cell? ⟨c, 3, none⟩ = some v8 :=
  ⟨X.cell 0, X.cell 1, Y.cell 0, Y.cell 1, Y.cell 2, Z.cell 0, Z.cell 1, Z.cell 2, Z.cell 3⟩
set_option maxRecDepth 100000 in
set_option maxHeartbeats 4000000 in
theorem drawZP {B len cap : Nat} {A : Option Addr} {w : World} (hs : Src B w A len) (hB : B ≤ w.heap.size) (hc : len ≤ cap) (hm : cap ≤ maxLen) :
    Calls Tryd.prog 38 #[.slice A len cap] w (DrawnZP w) := by
  have A0 := ((Blk.new w 36 #[.int .i64 0, .slice none 0 0]).alloc (.cells #[.int .i64 0, .int .i64 0, .int .i64 0] 27)).alloc (.cells #[.int .i64 0, .int .i64 0, .int .i64 0, .int .i64 0] 29)
  have A1 := (Blk.newE (W := w.alloc (.cells #[.int .i64 0, .slice none 0 0] 36)) (g := w.heap.size + 1) (t := 27) (cs := #[.int .i64 0, .int .i64 0, .int .i64 0]) (by simp)).alloc (.cells #[.int .i64 0, .int .i64 0, .int .i64 0, .int .i64 0] 29)
  have A2 := Blk.newE (W := (w.alloc (.cells #[.int .i64 0, .slice none 0 0] 36)).alloc (.cells #[.int .i64 0, .int .i64 0, .int .i64 0] 27)) (g := w.heap.size + 1 + 1) (t := 29) (cs := #[.int .i64 0, .int .i64 0, .int .i64 0, .int .i64 0]) (by simp)
  have B0 := bal (bal (bal (Below.refl w.heap.size w) (.cells #[.int .i64 0, .slice none 0 0] 36)) (.cells #[.int .i64 0, .int .i64 0, .int .i64 0] 27)) (.cells #[.int .i64 0, .int .i64 0, .int .i64 0, .int .i64 0] 29)
  go_enter Tryd.func38, Tryd.ntmps38
  go_wp2_with fail
  refine (l6Open_any (((hs.keep fun p hp => World.cell?_alloc_lt w _ p (by omega)).keep fun p hp => World.cell?_alloc_lt _ _ p (by simp; omega)).keep fun p hp => World.cell?_alloc_lt _ _ p (by simp; omega)) (by simp; omega) hc hm).mono ?_
  rintro e w1 ⟨g, rfl, hg, hr1, hb1⟩
  simp at hg
  have E0 := A0.below hb1 A0.lt
  have E1 := A1.below hb1 A1.lt
  have E2 := A2.below hb1 A2.lt
  have B1 := bto B0 hb1
  have hgl1 := hr1.lt
  go_wp2_with fail
  refine (l92Local_any hr1 (by omega)).mono ?_
  rintro e w2 ⟨o, b, cap1, l, y, mo, d, h, mi, s, ms, rfl, ho, hl5, hr2, hg2⟩
  have F0 := E0.grown' hg2 (by omega)
  have F1 := E1.grown' hg2 (by omega)
  have F2 := E2.grown' hg2 (by omega)
  have B2 := bonly B1 hg2 (by omega)
  have hs2 := hg2.size
  clear A0 A1 A2 B0 E0 E1 E2 B1 hb1 hr1 hg2
  have K0 := hide (((F0.alloc (.cells #[.int .i64 o, .slice (some ⟨b, 0, none⟩) l.length cap1] 36)).alloc (.cells #[.int .i64 y, .int .i64 mo, .int .i64 d] 27)).alloc (.cells #[.int .i64 h, .int .i64 mi, .int .i64 s, .int .i64 ms] 29))
  have K1 := hide (((F1.alloc (.cells #[.int .i64 o, .slice (some ⟨b, 0, none⟩) l.length cap1] 36)).alloc (.cells #[.int .i64 y, .int .i64 mo, .int .i64 d] 27)).alloc (.cells #[.int .i64 h, .int .i64 mi, .int .i64 s, .int .i64 ms] 29))
  have K2 := hide (((F2.alloc (.cells #[.int .i64 o, .slice (some ⟨b, 0, none⟩) l.length cap1] 36)).alloc (.cells #[.int .i64 y, .int .i64 mo, .int .i64 d] 27)).alloc (.cells #[.int .i64 h, .int .i64 mi, .int .i64 s, .int .i64 ms] 29))
  have X0 := hide (((Blk.new w2 36 #[.int .i64 o, .slice (some ⟨b, 0, none⟩) l.length cap1]).alloc (.cells #[.int .i64 y, .int .i64 mo, .int .i64 d] 27)).alloc (.cells #[.int .i64 h, .int .i64 mi, .int .i64 s, .int .i64 ms] 29))
  have X1 := hide ((Blk.newE (W := w2.alloc (.cells #[.int .i64 o, .slice (some ⟨b, 0, none⟩) l.length cap1] 36)) (g := w2.heap.size + 1) (t := 27) (cs := #[.int .i64 y, .int .i64 mo, .int .i64 d]) (by simp)).alloc (.cells #[.int .i64 h, .int .i64 mi, .int .i64 s, .int .i64 ms] 29))
  have X2 := hide (Blk.newE (W := (w2.alloc (.cells #[.int .i64 o, .slice (some ⟨b, 0, none⟩) l.length cap1] 36)).alloc (.cells #[.int .i64 y, .int .i64 mo, .int .i64 d] 27)) (g := w2.heap.size + 1 + 1) (t := 29) (cs := #[.int .i64 h, .int .i64 mi, .int .i64 s, .int .i64 ms]) (by simp))
  have HO := hide (((ho.alloc (.cells #[.int .i64 o, .slice (some ⟨b, 0, none⟩) l.length cap1] 36)).alloc (.cells #[.int .i64 y, .int .i64 mo, .int .i64 d] 27)).alloc (.cells #[.int .i64 h, .int .i64 mi, .int .i64 s, .int .i64 ms] 29))
  have HB2 := hide (bal (bal (bal B2 (.cells #[.int .i64 o, .slice (some ⟨b, 0, none⟩) l.length cap1] 36)) (.cells #[.int .i64 y, .int .i64 mo, .int .i64 d] 27)) (.cells #[.int .i64 h, .int .i64 mi, .int .i64 s, .int .i64 ms] 29))
  have hgl2 := hr2.lt
  have hR := ((hr2.alloc (.cells #[.int .i64 o, .slice (some ⟨b, 0, none⟩) l.length cap1] 36)).alloc (.cells #[.int .i64 y, .int .i64 mo, .int .i64 d] 27)).alloc (.cells #[.int .i64 h, .int .i64 mi, .int .i64 s, .int .i64 ms] 29)
  have hq : w.heap.size + 1 + 1 + 1 ≤ g := hg
  clear ho B2 F0 F1 F2
  go_wp2_with fail
  go_region_held3 (fun w' => w'.cell? ⟨w2.heap.size, 0, none⟩ = some (.int .i64 o) ∧ w'.cell? ⟨w2.heap.size, 1, none⟩ = some (.slice (some ⟨b, 0, none⟩) l.length cap1) ∧ w'.cell? ⟨w2.heap.size + 1, 0, none⟩ = some (.int .i64 y) ∧ w'.cell? ⟨w2.heap.size + 1, 1, none⟩ = some (.int .i64 mo) ∧ w'.cell? ⟨w2.heap.size + 1, 2, none⟩ = some (.int .i64 d) ∧ w'.cell? ⟨w2.heap.size + 1 + 1, 0, none⟩ = some (.int .i64 h) ∧ w'.cell? ⟨w2.heap.size + 1 + 1, 1, none⟩ = some (.int .i64 mi) ∧ w'.cell? ⟨w2.heap.size + 1 + 1, 2, none⟩ = some (.int .i64 s) ∧ w'.cell? ⟨w2.heap.size + 1 + 1, 3, none⟩ = some (.int .i64 ms)) (first | (with_reducible apply c9d; (repeat' first | (with_reducible exact X0.out.drew) | (with_reducible exact X1.out.drew) | (with_reducible exact X2.out.drew) | (with_reducible exact Y0) | (with_reducible exact Y1) | (with_reducible exact Y2) | (with_reducible apply Blk.far) | (focus (show _ ≠ _; simp; omega))); done)) (first | ((go_at_call 66); (with_reducible refine (pick_any (B := B) (g := g) hR.drew (by omega) (by omega)).mono ?_); rintro e w3 ⟨v3, a3, b3, rfl, hr3, hg3⟩; have Y0 := X0.out.drew.grown' hg3 (by omega); have Y1 := X1.out.drew.grown' hg3 (by omega); have Y2 := X2.out.drew.grown' hg3 (by omega); have J0 := K0.out.drew.grown' hg3 (by omega); have J1 := K1.out.drew.grown' hg3 (by omega); have J2 := K2.out.drew.grown' hg3 (by omega); have HO3 := hide (own_rd (own_drew HO.out) hg3 hgl1); have HB3 := hide (bonly (bdrew HB2.out) hg3 (by omega)); have pc00 := J0.cell 0; have pf00 := J0.frozen 0; have pc01 := J0.cell 1; have pf01 := J0.frozen 1; have pc10 := J1.cell 0; have pf10 := J1.frozen 0; have pc11 := J1.cell 1; have pf11 := J1.frozen 1; have pc12 := J1.cell 2; have pf12 := J1.frozen 2; have pc20 := J2.cell 0; have pf20 := J2.frozen 0; have pc21 := J2.cell 1; have pf21 := J2.frozen 1; have pc22 := J2.cell 2; have pf22 := J2.frozen 2; have pc23 := J2.cell 3; have pf23 := J2.frozen 3; simp at pc00 pc01 pc10 pc11 pc12 pc20 pc21 pc22 pc23))
  all_goals
    clear Y0 Y1 Y2 J0 J1 J2 K0 K1 K2 X0 X1 X2 HB2 hR
    have HO := HO3
    have HB := HB3
    go_wp2_with fail
    refine bodyPost_ret (v := .tuple #[.agg #[.int .i64 o, .slice (some ⟨b, 0, none⟩) l.length cap1], .agg #[.int .i64 y, .int .i64 mo, .int .i64 d], .agg #[.int .i64 h, .int .i64 mi, .int .i64 s, .int .i64 ms], .bool (v3 == 0)]) (by simp [results, Tryd.results38, go_sem, pc00, pc01, pc10, pc11, pc12, pc20, pc21, pc22, pc23, World.cell?_setCell_other]; try rfl) rfl ?_
    exact ⟨o, b, cap1, l, y, mo, d, h, mi, s, ms, _, rfl, own_more (base := w1.heap.size) (by repeat' first | (with_reducible exact HO.out) | ((with_reducible refine ownsRow_setCell_below ?_ ?_ _); rotate_left; focus (show _ < _; simp; omega))) (by omega), hl5, (by repeat' first | (with_reducible exact HB.out) | ((with_reducible refine bset ?_ ?_ _); rotate_left; focus (show _ ≤ _; simp; try omega)))⟩
end Go.Proofs.YtjdlffkbhaieaaaDoor
