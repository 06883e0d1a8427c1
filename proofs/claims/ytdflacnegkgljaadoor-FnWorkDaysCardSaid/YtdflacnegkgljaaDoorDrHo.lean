/- Draws: holidays. -/
import Derived.Test.YtdflacnegkgljaaDoorGd
import Derived.Deep.CutRange
namespace Go.Proofs.YtdflacnegkgljaaDoor
open Go.RowKit

theorem Blk.far3 {w : World} {g k : Nat} {t : TypeId} {cs : Array Value} (h : Blk w g t cs) (hk : g ≠ k) (u0 u1 u2 : Value) : Blk (((w.setCell ⟨k, 0, none⟩ u0).setCell ⟨k, 1, none⟩ u1).setCell ⟨k, 2, none⟩ u2) g t cs :=
  ((h.far (p := ⟨k, 0, none⟩) hk u0).far (p := ⟨k, 1, none⟩) hk u1).far (p := ⟨k, 2, none⟩) hk u2
theorem Blk.set3 {w : World} {k : Nat} {t : TypeId} {v0 v1 v2 : Value} (h : Blk w k t #[v0, v1, v2]) (u0 u1 u2 : Value) : Blk (((w.setCell ⟨k, 0, none⟩ u0).setCell ⟨k, 1, none⟩ u1).setCell ⟨k, 2, none⟩ u2) k t #[u0, u1, u2] := by
  have := ((h.set_ 0 u0).set_ 1 u1).set_ 2 u2
  simpa using this
theorem own_moreD {base base' : Nat} {e : TypeId} {k : Nat} {v : Value} {n : Nat} {xs : List Value} {w : World} (h : w.ownsRow base e k v n xs) (hb : base' ≤ base) : w.ownsRow base' e k v n xs :=
  ⟨h.1, h.2.imp id fun ⟨g, cap, cur, a, b, c, d⟩ => ⟨g, cap, cur, a, Nat.le_trans hb b, c, d⟩⟩
theorem own_setD {base : Nat} {e : TypeId} {k : Nat} {v : Value} {n : Nat} {xs : List Value} {w : World} {p : Addr} (h : w.ownsRow base e k v n xs) (hp : v.ownBlock ≠ some p.block) (u : Value) : (w.setCell p u).ownsRow base e k v n xs :=
  h.kept (only_setCell (only_refl w (some p.block)) (.inl rfl) u) (.inr hp)

/-- What stands while holidays are drawn. -/
structure Hs (w0 w : World) (B g m : Nat) (y mo d : Int) (b j cap : Nat) (l : List D3) : Prop where
  X : Blk w w0.heap.size 25 #[.int .i64 y, .int .i64 mo, .int .i64 d]
  O : w.ownsRow (w0.heap.size + 1) 25 3 (.slice (some ⟨b, 0, none⟩) j cap) j (flatD l)
  L : l.length = j
  R : Rd B w g m
  G : w0.grownBy w (some g)
  lt : g < w0.heap.size
section
variable {w0 w w' : World} {B g m : Nat} {y mo d : Int} {b j cap : Nat} {l : List D3}
theorem Hs.b_lt (h : Hs w0 w B g m y mo d b j cap l) : w0.heap.size < b ∧ b < w.heap.size := by
  have := h.O.lt b rfl
  omega
theorem Hs.drew (h : Hs w0 w B g m y mo d b j cap l) : Hs w0 w.drew B g m y mo d b j cap l := ⟨h.X, h.O, h.L, h.R, only_drew h.G, h.lt⟩
theorem Hs.below (h : Hs w0 w B g m y mo d b j cap l) (hb : Below w.heap.size w w') : Hs w0 w' B g m y mo d b j cap l :=
  ⟨h.X.below hb h.X.lt, own_belowD h.O hb, h.L, h.R.below hb h.R.lt, only_below h.G hb, h.lt⟩
theorem Hs.alloc (h : Hs w0 w B g m y mo d b j cap l) (o : Obj) : Hs w0 (w.alloc o) B g m y mo d b j cap l := h.below (bal (Below.refl _ _) o)
theorem Hs.pick (h : Hs w0 w B g m y mo d b j cap l) {m' : Nat} (hr : Rd B w' g m') (hg : w.grownBy w' (some g)) : Hs w0 w' B g m' y mo d b j cap l :=
  ⟨h.X.grown' hg (by have := h.lt; omega), own_rd h.O hg (by have := h.lt; omega), h.L, hr, only_trans h.G hg, h.lt⟩
theorem Hs.set (h : Hs w0 w B g m y mo d b j cap l) {p : Addr} (hp : b < p.block) (u : Value) : Hs w0 (w.setCell p u) B g m y mo d b j cap l :=
  have hb := h.b_lt
  have hl := h.lt
  ⟨h.X.far (by omega) u, own_setD h.O (fun e => by have e : b = p.block := Option.some.inj e; omega) u, h.L, h.R.setCell (by omega) u, only_setCell h.G (.inr (by omega)) u, h.lt⟩
theorem Hs.set3 (h : Hs w0 w B g m y mo d b j cap l) {k : Nat} (hk : b < k) (u0 u1 u2 : Value) : Hs w0 (((w.setCell ⟨k, 0, none⟩ u0).setCell ⟨k, 1, none⟩ u1).setCell ⟨k, 2, none⟩ u2) B g m y mo d b j cap l :=
  ((h.set (p := ⟨k, 0, none⟩) hk u0).set (p := ⟨k, 1, none⟩) hk u1).set (p := ⟨k, 2, none⟩) hk u2
theorem Hs.app (h : Hs w0 w B g m y mo d b j cap l) {b' cap' : Nat} {r : D3} (hg : w.grownBy w' (some b)) (ho : w'.ownsRow (w0.heap.size + 1) 25 3 (.slice (some ⟨b', 0, none⟩) (j + 1) cap') (j + 1) (flatD l ++ [Value.int .i64 r.1, .int .i64 r.2.1, .int .i64 r.2.2])) : Hs w0 w' B g m y mo d b' (j + 1) cap' (l ++ [r]) :=
  have hb := h.b_lt
  have hl := h.lt
  ⟨h.X.grown' hg (by omega), by rw [flatD_app, flatD_one]; exact ho, by rw [List.length_append, h.L]; rfl, h.R.grown hg (fun k hk => by have e : b = k := Option.some.inj hk; omega), only_widen hg (by omega) h.G, h.lt⟩
theorem Hs.more (h : Hs w0 w B g m y mo d b j cap l) {m' : Nat} (hm : m ≤ m') : Hs w0 w B g m' y mo d b j cap l := ⟨h.X, h.O, h.L, h.R.more hm, h.G, h.lt⟩
end

set_option maxHeartbeats 4000000 in
theorem l92Holidays_any {B g m : Nat} {w : World} (y mo d : Int) (hr : Rd B w g m) (hm : m ≤ 50000) :
    Calls Tryd.prog 58 #[.pointer (some ⟨g, 0, none⟩), .agg #[.int .i64 y, .int .i64 mo, .int .i64 d]] w (DrawnDs 25 w.heap.size 6 B g m 7 w) := by
  obtain ⟨i0, hi, hz0, hz1, hz2⟩ := info_parts info_date
  have hgl := hr.lt
  have ho0 := World.ownsRow_lit (base := w.heap.size + 1) (size := 3) (e := 25) (w.alloc (.cells #[.int .i64 y, .int .i64 mo, .int .i64 d] 25)) #[] 0 (by simp) (by simp [maxLen]) (by simp)
  have H0 : Hs w ((w.alloc (.cells #[.int .i64 y, .int .i64 mo, .int .i64 d] 25)).alloc (.cells #[] 25)) B g m y mo d (w.heap.size + 1) 0 0 [] :=
    ⟨(Blk.new w _ _).alloc _, by simpa [flatD] using ho0, rfl, (hr.alloc _).alloc _, only_alloc (only_alloc (only_refl _ _) _) _, hgl⟩
  go_enter Tryd.func58, Tryd.ntmps58
  go_wp2_with fail
  refine (pick_any H0.R (by omega) (by omega)).mono ?_
  rintro e w1 ⟨v1, a1, b1, rfl, hr1, hg1⟩
  obtain ⟨n, rfl⟩ := Int.eq_ofNat_of_zero_le a1
  have H1 := hide (H0.pick hr1 hg1)
  clear H0 hr1 hg1 ho0
  have hDP : ∀ (k : Int) W, -100 ≤ k → k ≤ 100 → Calls Tryd.prog 56 #[.agg #[.int .i64 y, .int .i64 mo, .int .i64 d], .int .i64 k] W (SomeDB W) := fun k W h1 h2 => spec_dp_any y mo d k W h1 h2
  go_wp2_with fail
  go_loopw [5, 7] (fun v i wr => ∃ (k j b cap : Nat) (l : List D3), k ≤ n ∧ j ≤ k ∧ i = .int .i64 k ∧ v = .slice (some ⟨b, 0, none⟩) j cap ∧ Hid (Hs w wr B g (m + 1 + k) y mo d b j cap l)) (fun _ i _ => n - (intOf i).toNat)
  case atStart => exact ⟨0, 0, _, _, [], by omega, by omega, rfl, rfl, H1⟩
  case round =>
    clear H1
    obtain ⟨k, j, b, cap, l, hk, hj, rfl, rfl, H⟩ := hrel
    by_cases hlt : k < n
    · go_wp2_with fail
      have hd := H.out.drew.R
      have hbl := H.out.b_lt
      have XD := hide H.out.X
      have ww : ∀ w', Blk w' w.heap.size 25 #[.int .i64 y, .int .i64 mo, .int .i64 d] → w'.cell? ⟨w.heap.size, 0, none⟩ = some (.int .i64 y) ∧ w'.cell? ⟨w.heap.size, 1, none⟩ = some (.int .i64 mo) ∧ w'.cell? ⟨w.heap.size, 2, none⟩ = some (.int .i64 d) := fun w' k => ⟨k.cell 0, k.cell 1, k.cell 2⟩
      go_cut [8, 9] from 19 to 25 (fun t8 t9 wx => ∃ (dB : Nat) (x1 x2 x3 : Int) (ok : Bool), t8 = .pointer (some ⟨dB, 0, none⟩) ∧ t9 = .bool ok ∧ Hid (Blk wx dB 25 #[.int .i64 x1, .int .i64 x2, .int .i64 x3]) ∧ Hid (Hs w wx B g (m + 1 + k + 1) y mo d b j cap l))
      case first =>
        go_region_held3 (fun w' => w'.cell? ⟨w.heap.size, 0, none⟩ = some (.int .i64 y) ∧ w'.cell? ⟨w.heap.size, 1, none⟩ = some (.int .i64 mo) ∧ w'.cell? ⟨w.heap.size, 2, none⟩ = some (.int .i64 d)) (first | (refine ww _ ?_; (repeat' first | (with_reducible exact X6.out) | (with_reducible exact X5.out) | (with_reducible exact XD.out) | (with_reducible refine Blk.drew ?_) | (with_reducible refine Blk.alloc ?_ _) | ((with_reducible refine Blk.far ?_ ?_ _); rotate_left; focus (first | (show _ ≠ _; omega) | (simp; omega)))); done)) (first | (go_at_call 36; (first | refine (pick_any hd (by omega) (by omega)).mono ?_ | refine (pick_any (hd.alloc (.cells #[.int .i64 0, .int .i64 0, .int .i64 0] 25)) (by omega) (by omega)).mono ?_); rintro e w5 ⟨v5, a5, b5, rfl, hr5, hg5⟩; have hwr : IntKind.i64.wrap (v5 - 2) = v5 - 2 := IntWalk.i64_in _ (by omega); (first | (have hs5 := hide (H.out.drew.pick hr5 hg5); have X5 := hide hs5.out.X; have hs5l := hs5.out.b_lt; have D5 := True.intro) | (have hs5 := hide ((H.out.drew.alloc (.cells #[.int .i64 0, .int .i64 0, .int .i64 0] 25)).pick hr5 hg5); have X5 := hide hs5.out.X; have hs5l := hs5.out.b_lt; have D5 := hide ((Blk.newE (W := wr.drew) (g := wr.heap.size) (t := 25) (cs := #[.int .i64 0, .int .i64 0, .int .i64 0]) (by simp)).grown' hg5 (by omega))))) | (go_at_call 56; (with_reducible refine (hDP (v5 - 2) _ (by omega) (by omega)).mono ?_); rintro e w6 ⟨x1, x2, x3, ok, rfl, hb6⟩; (first | (have hs6 := hide (hs5.out.below hb6); have X6 := hide hs6.out.X; have hs6l := hs6.out.b_lt; (first | (have D6 := hide (D5.out.below hb6 D5.out.lt); have e0 := D6.out.cell 0; have e1 := D6.out.cell 1; have e2 := D6.out.cell 2; have g0 := D6.out.frozen 0; have g1 := D6.out.frozen 1; have g2 := D6.out.frozen 2; simp at e0 e1 e2) | have D6 := True.intro)) | (have hs6 := hide ((hs5.out.alloc (.cells #[.int .i64 0, .int .i64 0, .int .i64 0] 25)).below hb6); have X6 := hide hs6.out.X; have hs6l := hs6.out.b_lt; have D6 := hide ((Blk.newE (W := w5) (g := w5.heap.size) (t := 25) (cs := #[.int .i64 0, .int .i64 0, .int .i64 0]) rfl).below hb6 (by simp)); have e0 := D6.out.cell 0; have e1 := D6.out.cell 1; have e2 := D6.out.cell 2; have g0 := D6.out.frozen 0; have g1 := D6.out.frozen 1; have g2 := D6.out.frozen 2; simp at e0 e1 e2))))
        all_goals
          rename_i hS
          clear hS ww hDP
          go_wp2_with fail
          go_meet
          first
          | exact ⟨wr.heap.size, x1, x2, x3, ok, rfl, rfl, hide (D6.out.set3 _ _ _), hide (hs6.out.set3 (by omega) _ _ _)⟩
          | exact ⟨w5.heap.size, x1, x2, x3, ok, rfl, rfl, hide (D6.out.set3 _ _ _), hide (hs6.out.set3 (by omega) _ _ _)⟩
          | exact ⟨w6.heap.size, x1, x2, x3, ok, rfl, rfl, hide (Blk.new w6 25 #[.int .i64 x1, .int .i64 x2, .int .i64 x3]), hide (hs6.out.alloc _)⟩
      case rest =>
        clear ww XD hd hDP
        obtain ⟨dB, x1, x2, x3, ok, rfl, rfl, D7, H7⟩ := hcut
        have hb7 := H7.out.b_lt
        cases ok with
        | false =>
          go_wp2_with fail
          go_roundw
          case rel => exact ⟨k + 1, j, b, cap, l, by omega, by omega, by go_num, rfl, hide (H7.out.more (by omega))⟩
          case measure => simp [intOf]; omega
        | true =>
          have c0 := D7.out.cell 0
          have c1 := D7.out.cell 1
          have c2 := D7.out.cell 2
          simp at c0 c1 c2
          have hO := H7.out.O
          go_wp2_with (at_builtin; refine wpList_append_lies _ rfl _ _ _ rfl (w.heap.size + 1) 25 i0 (.agg #[.int .i64 0, .int .i64 0, .int .i64 0]) 3 24 Tryd.underlying41 hi hz0 hz1 hz2 rfl (by omega) _ j (flatD l) rfl (hO.alloc _) ⟨wc.heap.size, 0, none⟩ 1 1 [.int .i64 x1, .int .i64 x2, .int .i64 x3] rfl rfl (news3 _ _ _ _ _) (three_one _ _ _) (by omega) (by unfold maxLen; omega) (by omega) (by simp; omega) _ rfl ?_; intro b' cap' w3 hown' hgrow' hat' hlt')
          have H8 := hide ((H7.out.alloc (.cells #[.int .i64 x1, .int .i64 x2, .int .i64 x3] 25)).app (r := (x1, x2, x3)) hgrow' hown')
          clear hown' hgrow' hat' hlt' hO c0 c1 c2 D7 H7 H
          go_roundw
          case rel => exact ⟨k + 1, j + 1, b', cap', l ++ [(x1, x2, x3)], by omega, by omega, by go_num, rfl, hide (H8.out.more (by omega))⟩
          case measure => simp [intOf]; omega
    · obtain rfl : k = n := by omega
      clear hDP
      go_wp2_with fail
      refine (pick_any H.out.R (by omega) (by omega)).mono ?_
      rintro e w2 ⟨v2, c1, c2, rfl, hr2, hg2⟩
      have H2 := hide (H.out.pick hr2 hg2)
      have hbl := H2.out.b_lt
      clear hr2 hg2 H
      by_cases h0 : v2 = 0
      · subst h0
        have hO := H2.out.O
        go_wp2_with (at_builtin; refine wpList_append_lies _ rfl _ _ _ rfl (w.heap.size + 1) 25 i0 (.agg #[.int .i64 0, .int .i64 0, .int .i64 0]) 3 24 Tryd.underlying41 hi hz0 hz1 hz2 rfl (by omega) _ j (flatD l) rfl (hO.alloc _) ⟨w2.heap.size, 0, none⟩ 1 1 [.int .i64 0, .int .i64 0, .int .i64 0] rfl rfl (news3 _ _ _ _ _) (three_one _ _ _) (by omega) (by unfold maxLen; omega) (by omega) (by simp; omega) _ rfl ?_; intro b' cap' w3 hown' hgrow' hat' hlt')
        have H8 := (H2.out.alloc (.cells #[.int .i64 0, .int .i64 0, .int .i64 0] 25)).app (r := (0, 0, 0)) hgrow' hown'
        go_ret
        exact ⟨b', cap', l ++ [(0, 0, 0)], by rw [H8.L]; rfl, by rw [H8.L]; exact own_moreD H8.O (by omega), by rw [H8.L]; omega, H8.R.more (by omega), H8.G⟩
      · have g0 : (v2 == 0) = false := by simpa using h0
        go_wp2_with fail
        go_ret
        have H8 := H2.out
        exact ⟨b, cap, l, by rw [H8.L]; rfl, by rw [H8.L]; exact own_moreD H8.O (by omega), by rw [H8.L]; omega, H8.R.more (by omega), H8.G⟩
end Go.Proofs.YtdflacnegkgljaaDoor
