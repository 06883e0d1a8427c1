/- The law FnZoneSame returns true. -/
import Derived.Test.YtjdlffkbhaieaaaWFnZonePart
import Derived.Test.YtjdlffkbhaieaaaApS
namespace Go.Proofs.Ytjdlffkbhaieaaa
open Go.RowKit
attribute [local go_sem] lt_cell

theorem oA_app {o : Int} {l r : List R2} {k : Nat} (h : k ≤ l.length) : oA o (l ++ r) k = oA o l k := by
  rcases Nat.eq_zero_or_pos k with rfl | hk
  · rw [oA_0, oA_0]
  · obtain ⟨j, rfl⟩ : ∃ j, k = j + 1 := ⟨k - 1, by omega⟩
    rw [oA_succ (by simp; omega), oA_succ (by omega)]
    simp [List.getD, List.getElem?_append_left (show j < l.length by omega)]
theorem zv_same (o t : Int) (l : List R2) : zvB o (l ++ [(t, oA o l l.length)]) = false := by
  refine zv_bad (k := l.length) (by simp) ?_
  rw [zk_eq (x := t) (y := oA o l l.length) (by simp [List.getD]), oA_app (Nat.le_refl _)]
  simp

theorem flat_news {w : World} {b o : Nat} {l : List R2} (h : ∀ j, j < l.length → w.cell? ⟨b, o + j * 2, none⟩ = some (.int .i64 (l.getD j (0, 0)).1) ∧ w.cell? ⟨b, o + j * 2 + 1, none⟩ = some (.int .i64 (l.getD j (0, 0)).2)) :
    ∀ j u, (flatP l)[j]? = some u → w.cell? ((⟨b, o, none⟩ : Addr).add j) = some u := fun j u hj => by
  have hl : j < (flatP l).length := by
    rcases Nat.lt_or_ge j (flatP l).length with h' | h'
    · exact h'
    · rw [List.getElem?_eq_none h'] at hj; cases hj
  rw [flatP_len] at hl
  have hk : j / 2 < l.length := by omega
  have hg := flatP_get l (j / 2) hk
  have hc := h (j / 2) hk
  rw [Go.WideShapes.add_plain]
  rcases (show j = j / 2 * 2 ∨ j = j / 2 * 2 + 1 by omega) with e | e
  · rw [e] at hj ⊢
    have e2 : j / 2 * 2 / 2 = j / 2 := by omega
    rw [hg.1] at hj
    rw [← hj]
    exact hc.1
  · rw [e] at hj ⊢
    rw [hg.2] at hj
    rw [← hj]
    exact hc.2

theorem keep2b {w w' : World} {g : Nat} {u v : Value} (hg : g < w.heap.size) (h0 : w.cell? ⟨g, 0, none⟩ = some u) (h1 : w.cell? ⟨g, 1, none⟩ = some v) (hb : Below w.heap.size w w') : w'.cell? ⟨g, 0, none⟩ = some u ∧ w'.cell? ⟨g, 1, none⟩ = some v :=
  ⟨(hb.cell (p := ⟨g, 0, none⟩) hg).trans h0, (hb.cell (p := ⟨g, 1, none⟩) hg).trans h1⟩
theorem own_blk {w : World} {base g n size : Nat} {T : TypeId} {cs : Array Value} (h : Blk w g T cs) (hb : base ≤ g) (hn : cs.size = n * size) (hm : n ≤ maxLen) : w.ownsRow base T size (.slice (some ⟨g, 0, none⟩) n n) n cs.toList :=
  ⟨by simpa using hn, .inr ⟨g, n, cs, rfl, hb, h, Nat.le_refl _, hm, hn, by rw [List.take_of_length_le (by simp; omega)]⟩⟩
theorem news_keep {w w' : World} {b : Nat} {xs : List Value} (h : ∀ j u, xs[j]? = some u → w.cell? ((⟨b, 0, none⟩ : Addr).add j) = some u) (hl : b < w.heap.size) (hb : Below w.heap.size w w') : ∀ j u, xs[j]? = some u → w'.cell? ((⟨b, 0, none⟩ : Addr).add j) = some u := fun j u hj => by
  have := h j u hj
  rw [Go.WideShapes.add_plain] at this ⊢
  exact (hb.cell (p := ⟨b, 0 + j, none⟩) hl).trans this
theorem news_blk {w : World} {g : Nat} {T : TypeId} {x y : Value} (h : Blk w g T #[x, y]) : ∀ j u, [x, y][j]? = some u → w.cell? ((⟨g, 0, none⟩ : Addr).add j) = some u := World.news_of_block h

set_option maxHeartbeats 2000000 in
theorem w_FnZoneSame (w : World) (A : Option Addr) (len cap : Nat) (hs : Src w.heap.size w A len) (hc : len ≤ cap) (hm : cap ≤ maxLen) :
    Calls Try.prog 5 #[.slice A len cap] w fun e w' => e = .returned (.bool true) ∧ Below w.heap.size w w' := by
  have hm' := hm
  unfold maxLen at hm'
  obtain ⟨i0, hi, hz0, hz1, hz2⟩ := info_parts info_impl
  by_cases hbig : 1048576 < len
  · go_enter Try.func5, Try.ntmps5
    go_wp2_with fail
    go_ret
    exact ⟨rfl, Below.refl _ _⟩
  · go_enter Try.func5, Try.ntmps5
    go_wp2_with fail
    refine (drawZV hs (Nat.le_refl _) hc hm).mono ?_
    rintro e w1 ⟨o, b, cap1, l, rfl, ho1, hl5, hbd, hb1⟩
    have P1 := hide (Prs.own ho1)
    have O1 := hide ho1
    have HBD := hide hbd
    have hcap := own_cap ho1
    have hcm : cap1 ≤ 9223372036854775807 := hcap.2
    have hlc : l.length ≤ cap1 := hcap.1
    have hbl := (ho1.lt b rfl).2
    clear ho1 hbd hcap hs
    go_wp2_with fail
    refine (impl_zv o l _ _ _ _ _ rfl (P1.out.alloc (Nat.le_refl _) _) (by simp)).mono ?_
    rintro e w2 ⟨rfl, hb2⟩
    have Z2 : Blk w2 w1.heap.size 29 #[.int .i64 o, .slice (some ⟨b, 0, none⟩) l.length cap1] := (Blk.new w1 _ _).below hb2 (by simp)
    have H2 := bto (bal (Below.refl w1.heap.size w1) (.cells #[.int .i64 o, .slice (some ⟨b, 0, none⟩) l.length cap1] 29)) hb2
    have c20 := Z2.cell 0
    have c21 := Z2.cell 1
    have hz2' := Z2.lt
    simp at c20 c21
    go_wp2_with fail
    refine (spec_zv o l _ _ _ _ _ rfl (P1.out.below H2) (Nat.le_of_lt hz2')).mono ?_
    rintro e w3 ⟨rfl, hb3⟩
    have Z3 := hide (Z2.below hb3 hz2')
    have H3 := bto H2 hb3
    have c30 := Z3.out.cell 0
    have c31 := Z3.out.cell 1
    have hz3 := Z3.out.lt
    have P3 := hide (P1.out.below H3)
    have O3 := hide (own_below O1.out H3)
    have F3 := bto hb1 H3
    simp at c30 c31
    clear Z2 H2 H3 hb2 hb3 c20 c21 hz2'
    cases hv : zvB o l with
    | false =>
      go_wp2_with fail
      go_ret
      exact ⟨rfl, F3⟩
    | true =>
      have VC := hide P3.out.view
      have hb3 := (O3.out.lt b rfl).2
      go_wp2_with fail
      go_loopw [6, 7, 8] (fun u v i wr => ∃ (k : Nat) (la at' : Int), k ≤ l.length ∧ i = .int .i64 k ∧ u = .int .i64 la ∧ v = .int .i64 at' ∧ Hid (la = oA o l k) ∧ -2000000000000000 ≤ at' ∧ at' ≤ 2000000000000000 ∧ w3 = wr) (fun _ _ i _ => l.length - (intOf i).toNat)
      case atStart => exact ⟨0, o, 0, by omega, rfl, rfl, rfl, hide (oA_0 o l).symm, by omega, by omega, rfl⟩
      case round =>
        obtain ⟨k, la, at', hk, rfl, rfl, rfl, hla, ha1, ha2, rfl⟩ := hrel
        by_cases hlt : k < l.length
        · obtain ⟨x, y, hxy⟩ := pair_ex l k
          have hx := HBD.out (x, y) (by rw [← hxy]; simp [List.getD, hlt])
          obtain ⟨d0, d1⟩ : w3.cell? ⟨b, 0 + k * 2, none⟩ = some (.int .i64 x) ∧ w3.cell? ⟨b, 0 + k * 2 + 1, none⟩ = some (.int .i64 y) := by
            rcases VC.out with h0 | ⟨b', o', e, _, hcs⟩
            · omega
            · cases e
              have := hcs k hlt
              rwa [hxy] at this
          have HY := hide (show y = oA o l (k + 1) by rw [oA_succ hlt, hxy])
          simp at hx d0 d1
          clear hxy
          go_wp2_with fail
          go_roundw
          case rel => exact ⟨k + 1, y, x + 259200000, by omega, by go_num, rfl, rfl, HY, by omega, by omega, trivial⟩
          case measure => simp [intOf]; omega
        · obtain rfl : k = l.length := by omega
          have N3 := hide (show ∀ j u, (flatP l)[j]? = some u → w3.cell? ((⟨b, 0, none⟩ : Addr).add j) = some u from O3.out.cells (g := b) rfl)
          go_wp2_with fail
          have HC := hide (⟨c30, c31⟩ : _ ∧ _)
          go_region_held3 (fun w' => w'.cell? ⟨w1.heap.size, 0, none⟩ = some (.int .i64 o) ∧ w'.cell? ⟨w1.heap.size, 1, none⟩ = some (.slice (some ⟨b, 0, none⟩) l.length cap1)) (first | (refine keep2b hz3 HC.out.1 HC.out.2 ?_; first | assumption | exact (by repeat' (first | (with_reducible exact Below.refl _ _) | (with_reducible assumption) | (with_reducible refine bal ?_ _) | (with_reducible refine bdrewN ?_ _) | (with_reducible refine bdrew ?_) | (with_reducible refine bset ?_ ?_ _) | omega | (simp; done) | (simp; omega)))) | go_keep) (first | (refine step_append_src _ (by rfl) (.tmp 53) (.tmp 55) _ (by rfl) w3.heap.size 37 i0 (.agg #[.int .i64 0, .int .i64 0]) 2 16 Try.underlying27 hi hz0 hz1 hz2 rfl (by omega) _ 0 0 (flatP []) (by rfl) (own_blk (n := 0) (T := 37) (cs := #[]) ?bk ?ge rfl (by simp [maxLen])) ⟨b, 0, none⟩ l.length _ (flatP l) (by rfl) (by rw [flatP_len]) (news_keep N3.out hb3 ?bel) (flatP_one' _) (by unfold maxLen; omega) (by omega) ?hb ?_; (case bk => (first | ((repeat' first | (with_reducible assumption) | ((with_reducible refine Blk.newE ?_); focus (first | rfl | (simp; done) | (simp; omega))) | (with_reducible refine Blk.alloc ?_ _) | (with_reducible refine Blk.drew ?_)); done) | fail)); (case ge => first | exact Nat.le_refl _ | (simp; done) | omega); (case bel => exact (by repeat' (first | (with_reducible exact Below.refl _ _) | (with_reducible assumption) | (with_reducible refine bal ?_ _) | (with_reducible refine bdrewN ?_ _) | (with_reducible refine bdrew ?_) | (with_reducible refine bset ?_ ?_ _) | omega | (simp; done) | (simp; omega)))); (case hb => first | exact Nat.le_refl _ | omega | (simp; done) | (simp; omega)); intro g5 c5 w5 ho5 hg5 hb5 hl5 hx5; simp only [Nat.zero_add]; rw [← flatP_app, Nat.zero_add] at ho5; simp at hx5; have B5 : Below w3.heap.size w3 w5 := bonly (by repeat' (first | (with_reducible exact Below.refl _ _) | (with_reducible assumption) | (with_reducible refine bal ?_ _) | (with_reducible refine bdrewN ?_ _) | (with_reducible refine bdrew ?_) | (with_reducible refine bset ?_ ?_ _) | omega | (simp; done) | (simp; omega))) hg5 (by first | exact Nat.le_refl _ | (simp; done) | omega); (try (have za : Blk w5 (w3.heap.size) 29 #[.int .i64 0, .slice none 0 0] := (by (first | ((repeat' first | (with_reducible assumption) | ((with_reducible refine Blk.newE ?_); focus (first | rfl | (simp; done) | (simp; omega))) | (with_reducible refine Blk.alloc ?_ _) | (with_reducible refine Blk.drew ?_) | ((with_reducible refine Blk.grown' ?_ hg5 ?_); rotate_left; focus (first | (simp; done) | (simp; omega) | omega))); done) | fail)); have za0 := za.frozen 0; have za1 := za.frozen 1; have za2 := za.cell 0; have za3 := za.cell 1; simp at za2 za3)); (try (have zb : Blk w5 (w3.heap.size + 1) 29 #[.int .i64 0, .slice none 0 0] := (by (first | ((repeat' first | (with_reducible assumption) | ((with_reducible refine Blk.newE ?_); focus (first | rfl | (simp; done) | (simp; omega))) | (with_reducible refine Blk.alloc ?_ _) | (with_reducible refine Blk.drew ?_) | ((with_reducible refine Blk.grown' ?_ hg5 ?_); rotate_left; focus (first | (simp; done) | (simp; omega) | omega))); done) | fail)); have zb0 := zb.frozen 0; have zb1 := zb.frozen 1; have zb2 := zb.cell 0; have zb3 := zb.cell 1; simp at zb2 zb3)); (try (have zc : Blk w5 (w3.heap.size + 1 + 1) 29 #[.int .i64 0, .slice none 0 0] := (by (first | ((repeat' first | (with_reducible assumption) | ((with_reducible refine Blk.newE ?_); focus (first | rfl | (simp; done) | (simp; omega))) | (with_reducible refine Blk.alloc ?_ _) | (with_reducible refine Blk.drew ?_) | ((with_reducible refine Blk.grown' ?_ hg5 ?_); rotate_left; focus (first | (simp; done) | (simp; omega) | omega))); done) | fail)); have zc0 := zc.frozen 0; have zc1 := zc.frozen 1; have zc2 := zc.cell 0; have zc3 := zc.cell 1; simp at zc2 zc3))) | (refine step_append_lies _ (by rfl) (.tmp 56) (.tmp 60) _ (by rfl) w3.heap.size 37 i0 (.agg #[.int .i64 0, .int .i64 0]) 2 16 Try.underlying27 hi hz0 hz1 hz2 rfl (by omega) (.slice (some ⟨g5, 0, none⟩) l.length c5) l.length (flatP ([] ++ l)) (by rfl) (by repeat' first | exact ho5 | refine World.ownsRow.alloc ?_ _) ⟨_, 0, none⟩ 1 1 [.int .i64 at', .int .i64 la] (by rfl) (by rfl) (news_blk (T := 37) ?bk) (pair_one _ _) (by omega) (by unfold maxLen; omega) (by omega) ?hb _ rfl ?_; (case bk => (first | ((repeat' first | (with_reducible assumption) | ((with_reducible refine Blk.newE ?_); focus (first | rfl | (simp; done) | (simp; omega))) | (with_reducible refine Blk.alloc ?_ _) | (with_reducible refine Blk.drew ?_) | ((with_reducible refine Blk.grown' ?_ hg5 ?_); rotate_left; focus (first | (simp; done) | (simp; omega) | omega))); done) | fail)); (case hb => first | exact Nat.le_refl _ | omega | (simp; done) | (simp; omega)); intro b' cap' w8 hown' hgrow' hat' hlt'; have B8 : Below w3.heap.size w3 w8 := bonly (by repeat' (first | (with_reducible exact Below.refl _ _) | (with_reducible assumption) | (with_reducible refine bal ?_ _) | (with_reducible refine bdrewN ?_ _) | (with_reducible refine bdrew ?_) | (with_reducible refine bset ?_ ?_ _) | omega | (simp; done) | (simp; omega))) hgrow' hb5; have hgw : World.grownBy _ w8 (some g5) := hgrow'; (try (have ya : Blk w8 (w3.heap.size) 29 #[.int .i64 0, .slice none 0 0] := (by (first | ((repeat' first | (with_reducible assumption) | ((with_reducible refine Blk.newE ?_); focus (first | rfl | (simp; done) | (simp; omega))) | (with_reducible refine Blk.alloc ?_ _) | (with_reducible refine Blk.drew ?_) | ((with_reducible refine Blk.grown' ?_ hgw ?_); rotate_left; focus (first | (simp; done) | (simp; omega) | omega))); done) | fail)); have ya0 := ya.frozen 0; have ya1 := ya.frozen 1; have ya2 := ya.cell 0; have ya3 := ya.cell 1; simp at ya2 ya3)); (try (have yb : Blk w8 (w3.heap.size + 1) 29 #[.int .i64 0, .slice none 0 0] := (by (first | ((repeat' first | (with_reducible assumption) | ((with_reducible refine Blk.newE ?_); focus (first | rfl | (simp; done) | (simp; omega))) | (with_reducible refine Blk.alloc ?_ _) | (with_reducible refine Blk.drew ?_) | ((with_reducible refine Blk.grown' ?_ hgw ?_); rotate_left; focus (first | (simp; done) | (simp; omega) | omega))); done) | fail)); have yb0 := yb.frozen 0; have yb1 := yb.frozen 1; have yb2 := yb.cell 0; have yb3 := yb.cell 1; simp at yb2 yb3)); (try (have yc : Blk w8 (w3.heap.size + 1 + 1) 29 #[.int .i64 0, .slice none 0 0] := (by (first | ((repeat' first | (with_reducible assumption) | ((with_reducible refine Blk.newE ?_); focus (first | rfl | (simp; done) | (simp; omega))) | (with_reducible refine Blk.alloc ?_ _) | (with_reducible refine Blk.drew ?_) | ((with_reducible refine Blk.grown' ?_ hgw ?_); rotate_left; focus (first | (simp; done) | (simp; omega) | omega))); done) | fail)); have yc0 := yc.frozen 0; have yc1 := yc.frozen 1; have yc2 := yc.cell 0; have yc3 := yc.cell 1; simp at yc2 yc3)); (try (have yd : Blk w8 (w5.heap.size) 29 #[.int .i64 0, .slice none 0 0] := (by (first | ((repeat' first | (with_reducible assumption) | ((with_reducible refine Blk.newE ?_); focus (first | rfl | (simp; done) | (simp; omega))) | (with_reducible refine Blk.alloc ?_ _) | (with_reducible refine Blk.drew ?_) | ((with_reducible refine Blk.grown' ?_ hgw ?_); rotate_left; focus (first | (simp; done) | (simp; omega) | omega))); done) | fail)); have yd0 := yd.frozen 0; have yd1 := yd.frozen 1; have yd2 := yd.cell 0; have yd3 := yd.cell 1; simp at yd2 yd3)); (try (have ye : Blk w8 (w5.heap.size + 1) 29 #[.int .i64 0, .slice none 0 0] := (by (first | ((repeat' first | (with_reducible assumption) | ((with_reducible refine Blk.newE ?_); focus (first | rfl | (simp; done) | (simp; omega))) | (with_reducible refine Blk.alloc ?_ _) | (with_reducible refine Blk.drew ?_) | ((with_reducible refine Blk.grown' ?_ hgw ?_); rotate_left; focus (first | (simp; done) | (simp; omega) | omega))); done) | fail)); have ye0 := ye.frozen 0; have ye1 := ye.frozen 1; have ye2 := ye.cell 0; have ye3 := ye.cell 1; simp at ye2 ye3))))
          all_goals
            have HW := hide (show w8.ownsRow w3.heap.size 37 2 (.slice (some ⟨b', 0, none⟩) (l.length + 1) cap') (l.length + 1) (flatP (l ++ [(at', la)])) by rw [flatP_app, flatP_one]; exact hown')
            have HB8 := hide B8
            clear hown'
            go_wp2_with fail
            have hat := hat'
            have HZ := hide (zv_same o at' l)
            have hs5 := hg5.size
            simp [Value.ownBlock] at hat hs5
            refine (impl_zv o (l ++ [(at', la)]) _ _ _ _ _ (by simp) (Prs.own (base := w3.heap.size) (E := 37) (cap := cap') (show World.ownsRow _ _ _ 2 (.slice (some ⟨b', 0, none⟩) (l ++ [(at', la)]).length cap') (l ++ [(at', la)]).length _ from (by rw [List.length_append]; exact (by repeat' first | exact HW.out | refine World.ownsRow.alloc ?_ _ | (refine ownsRow_setCell_other ?_ (by simp [Value.ownBlock]; omega) _))))) (Nat.le_refl _)).mono ?_
            rintro e w9 ⟨rfl, hb9⟩
            have HB9 := bto (w0 := w3) (by repeat' (first | (with_reducible exact Below.refl _ _) | (with_reducible assumption) | (with_reducible refine bal ?_ _) | (with_reducible refine bdrewN ?_ _) | (with_reducible refine bdrew ?_) | (with_reducible refine bset ?_ ?_ _) | omega | (simp; done) | (simp; omega))) hb9
            rw [← hla.out] at HZ
            rw [HZ.out]
            go_wp2_with fail
            go_ret
            exact ⟨rfl, bto F3 HB9⟩
end Go.Proofs.Ytjdlffkbhaieaaa
