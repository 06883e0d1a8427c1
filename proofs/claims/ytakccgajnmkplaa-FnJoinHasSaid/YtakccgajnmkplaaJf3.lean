/- slices.AppendSeq and slices.Collect over slices.Values at ranges. -/
import Derived.RangeFuncBox
import Derived.Maps.AppendAt
import Derived.Test.YtakccgajnmkplaaJf2
namespace Go.Proofs.Ytakccgajnmkplaa
open Go.RowKit Go.Shelf

theorem keeps_below {B : Nat} {W W' : World} (h : Below W.heap.size W W') : KeepsFrom B W W' := (KeepsOthers.of_grownBy (only_below (only_refl W none) h) (fun j o e => by cases e)).from B
theorem blk_own {W W' : World} {row : Option Nat} {g : Nat} {t : TypeId} {cs : Array Value} (h : Blk W g t cs) (hg : W.grownBy W' row) (hr : ∀ r, row = some r → ∃ o : Obj, W.heap[r]? = some o ∧ o.isCells = false) : Blk W' g t cs :=
  h.grown hg (fun e => by
    obtain ⟨ob, ho, hc⟩ := hr g e.symm
    rw [show W.heap[g]? = _ from h] at ho
    cases ho
    cases hc)
theorem cell_two_new (w : World) (x y : Value) (t : TypeId) : ∀ j u, [x, y][j]? = some u → (w.alloc (.cells #[x, y] t)).cell? ((⟨w.heap.size, 0, none⟩ : Addr).add j) = some u := by
  intro j u hj
  have h := (Blk.new w t #[x, y]).cell j
  match j, hj with
  | 0, hj => simp at hj h; subst hj; simp [Addr.add]
  | 1, hj => simp at hj h; subst hj; simp [Addr.add]
theorem flatP_snoc (l : List R2) (r : R2) : flatP (l ++ [r]) = flatP l ++ [.int .i64 r.1, .int .i64 r.2] := by simp [flatP]
/-- What a collecting loop holds. -/
def CollI (n0 : Nat) (w : World) (pre : List R2) (W : World) : Prop := (∃ v, Boxed W n0 25 v ∧ W.ownsRow n0 36 2 v pre.length (flatP pre) ∧ (v = .slice none 0 0 ↔ pre = [])) ∧ Below n0 w W
theorem collI_own {n0 B : Nat} {w : World} (h0 : n0 ≤ w.heap.size) (hB : n0 ≤ B) : OwnFrom B (CollI n0 w) :=
  OwnFrom.and (Own.from (holdsRow_own n0 n0 25 36 2 (fun pre : List R2 => pre.length) (fun pre => flatP pre) (fun pre v => (v = .slice none 0 0 ↔ pre = []))) B) (ownFrom_below h0 hB)
/-- A collected slice. -/
def CollR (l : List R2) (w : World) (e : Ending) (w' : World) : Prop :=
  (∃ v, e = .returned v ∧ w'.ownsRow w.heap.size 36 2 v l.length (flatP l) ∧ (l = [] → v = .slice none 0 0)) ∧ Below w.heap.size w w'
section
attribute [local go_sem] Oper.semAt_some
set_option maxRecDepth 100000 in
set_option maxHeartbeats 4000000 in
theorem appendSeq_any (l : List R2) (len cap b B : Nat) (A : Option Addr) (w : World) (hl : l.length = len) (hP : Prs B w A l) (hB : B ≤ w.heap.size) (hm : len ≤ 1000) (hb : w.cell? ⟨b, 0, none⟩ = some (.slice A len cap)) :
    Calls Try.prog 74 #[.slice none 0 0, .func (.func 68) #[] #[.pointer (some ⟨b, 0, none⟩)]] w (CollR l w) := by
  obtain ⟨i0, hi, hz0, hz1, hz2⟩ := info_parts info_impl
  have hst := values_stops 11 (by decide) l len cap b B A w hl hP hB hm hb
  have HL := hide hl
  clear hl hP hB hb
  refine (callsIn_wide (n := 12)).1 ?_
  refine callsIn_of_wp_marks Try.func74 rfl trivial ?_ rfl
  simp only [Try.ntmps74, List.size_toArray, List.length_cons, List.length_nil, Nat.reduceAdd, Nat.reduceSub, Array.replicate_succ, Array.replicate_zero, List.push_toArray, List.append_toArray, List.nil_append, List.cons_append]
  gi_wp2_with fail
  refine wpIn_rangeFunc_ownH rfl (by decide) (gf := 68) (lb := #[.pointer (some ⟨b, 0, none⟩)]) rfl trivial (enters_of Try.func68 (by kernel_rfl) rfl)
    hst belowK_t (belowK_b (by simp)) ((Below.refl _ _).alloc (Nat.le_refl _) _) (fun _ => rfl)
    (CollI w.heap.size w)
    (fun _ _ _ => False)
    (collI_own (Nat.le_refl _) (by simp))
    (fun _ _ _ _ _ hs _ _ => hs)
    ⟨⟨.slice none 0 0, Boxed.new w 25 _, World.ownsRow_nil _ _ _ _, by simp⟩, (Below.refl _ _).alloc (Nat.le_refl _) _⟩
    (fun x a' W => ∃ Bx, w.heap.size + 1 ≤ Bx ∧ Blk W Bx 36 #[.int .i64 x.1, .int .i64 x.2] ∧ a' = { tmps := #[.slice none 0 0, .func (.func 68) #[] #[.pointer (some ⟨b, 0, none⟩)], .pointer (some ⟨w.heap.size, 0, none⟩), undef, .slice none 0 0, .pointer (some ⟨Bx, 0, none⟩), .func (.func 68) #[] #[.pointer (some ⟨b, 0, none⟩)], .agg #[.int .i64 x.1, .int .i64 x.2], undef, undef, undef, undef, undef], defers := [] })
    (fun x a' _ X Y row hs hg hr => by obtain ⟨Bx, e1, e2, e3⟩ := hs; exact ⟨Bx, e1, blk_own e2 hg (fun r e => (hr r e).2), e3⟩)
    ?assign ?body ?done ?stop
  case assign =>
    rintro l' pre ⟨x, y⟩ W K hI hK
    have hsz := hI.2.size
    have hI2 := OwnFrom.alloc (collI_own (B := w.heap.size) (Nat.le_refl _) (Nat.le_refl _)) (.cells #[.int .i64 x, .int .i64 y] 36) hI
    have hlt : w.heap.size < W.heap.size := by obtain ⟨⟨v, hv, _⟩, _⟩ := hI; exact hv.lt
    gi_wp2
    exact hK _ _ ((KeepsOthers.alloc _ _).from _) ((Below.refl _ W).alloc hsz _) hI2 ⟨W.heap.size, by omega, Blk.new _ _ _, rfl⟩
  case body =>
    rintro l' pre ⟨x, y⟩ a' W hl ⟨r, hr⟩ ⟨⟨v, hv, hrow, hnil⟩, hBw⟩ ⟨Bx, hBx, bX, rfl⟩ hlt
    have hle := hBw.size
    have hvc := hv.cell
    have x0 := bX.cell 0
    have x1 := bX.cell 1
    simp at x0 x1
    clear bX hst
    gi_wp2_with (gi_at_builtin; refine wpListIn_append_own _ rfl _ _ 25 rfl w.heap.size 36 i0 (.agg #[.int .i64 0, .int .i64 0]) 2 16 Try.underlying25 hi hz0 hz1 hz2 rfl (by decide) _ _ _ rfl (hrow.alloc _) ⟨W.heap.size, 0, none⟩ 1 1 [.int .i64 x, .int .i64 y] rfl rfl (cell_two_new _ _ _ _) (by intro u hu; simp at hu; rcases hu with rfl | rfl <;> rfl) (by unfold maxLen; omega) (by omega) (by simp; omega) ?_; intro v' w1 hown' hgrow _; obtain ⟨g', cap', rfl⟩ := ownsRow_succ hown'; obtain ⟨hv1, hv2, hr2, hk2, hb2⟩ := hv.appended (by decide) hrow hle (Nat.le_refl _) hown' hgrow; have hc1 := hv1.cell; have hf1 := hv1.frozen)
    exact ⟨hk2.from _, hb2, ⟨_, hv2, by rw [List.length_append, flatP_snoc]; exact hr2, by simp⟩, hBw.trans hb2⟩
  case done =>
    rintro D ys W hD rfl ⟨⟨v, hv, hrow, hnil⟩, hB⟩ hK
    have hvc := hv.cell
    gi_wp2
    refine ⟨by simp, .inl ⟨_, _, rfl, run_takeDeferred hK, ?_⟩⟩
    exact ⟨v, by simp [results, Try.results74, go_sem], ⟨v, rfl, ownsRow_putObj hrow _ hK rfl, hnil.2⟩, hB.trans (belowK_b (w := w) (Nat.le_refl _) W D _ _ (by simp at hD; omega) hK rfl rfl)⟩
  case stop =>
    rintro D c pre W _ _ h _
    exact h.elim
theorem collect_any (l : List R2) (len cap b B : Nat) (A : Option Addr) (w : World) (hl : l.length = len) (hP : Prs B w A l) (hB : B ≤ w.heap.size) (hm : len ≤ 1000) (hb : w.cell? ⟨b, 0, none⟩ = some (.slice A len cap)) :
    Calls Try.prog 66 #[.func (.func 68) #[] #[.pointer (some ⟨b, 0, none⟩)]] w (CollR l w) := by
  go_enter Try.func66, Try.ntmps66
  go_wp2_with fail
  refine (appendSeq_any l len cap b B A w hl hP hB hm hb).mono ?_
  rintro e w1 ⟨⟨v, rfl, hrow, hnil⟩, hb1⟩
  have HN := hide hnil
  clear hnil
  go_wp2_with fail
  go_ret
  exact ⟨⟨v, rfl, hrow, HN.out⟩, hb1⟩
end
end Go.Proofs.Ytakccgajnmkplaa
