/- Contracts: a range is put into ranges (the reference's). -/
import Derived.Test.YtakccgajnmkplaaGc
namespace Go.Proofs.Ytakccgajnmkplaa
open Go.RowKit

/-- A new slice that is just this list. -/
def MadeP (E : TypeId) (l : List R2) (w : World) (e : Ending) (w' : World) : Prop :=
  ∃ b cap : Nat, e = .returned (.slice (some ⟨b, 0, none⟩) l.length cap) ∧ w'.ownsRow w.heap.size E 2 (.slice (some ⟨b, 0, none⟩) l.length cap) l.length (flatP l) ∧ Below w.heap.size w w'
theorem fold_take {α : Type} (f : α → R2 → α) (z : α) {l : List R2} {k : Nat} {r : R2} (hk : k < l.length) (e : l.getD k (0, 0) = r) : (l.take (k + 1)).foldl f z = f ((l.take k).foldl f z) r := by
  have ex : l[k] = r := by simpa [List.getD, hk] using e
  rw [List.take_succ_eq_append_getElem hk, ex, List.foldl_append]
  rfl
theorem blk_alloc2 {w : World} {g : Nat} {T : TypeId} {cs : Array Value} (h : Blk w g T cs) (o : Obj) : Blk (w.alloc o) g T cs := h.alloc o

theorem put_c1 {o : List R2} {dn : Bool} {p q y1 y2 : Int} (h : y2 < p) : putStep (o, dn, (p, q)) (y1, y2) = (o ++ [(y1, y2)], dn, (p, q)) := by
  unfold putStep; rw [if_pos (show y2 < p from h)]
theorem put_c2t {o : List R2} {p q y1 y2 : Int} (h : ¬ y2 < p) (h2 : q < y1) : putStep (o, true, (p, q)) (y1, y2) = (o ++ [(y1, y2)], true, (p, q)) := by
  unfold putStep; rw [if_neg (show ¬ y2 < p from h), if_pos (show q < y1 from h2)]; rfl
theorem put_c2f {o : List R2} {p q y1 y2 : Int} (h : ¬ y2 < p) (h2 : q < y1) : putStep (o, false, (p, q)) (y1, y2) = (o ++ [(p, q)] ++ [(y1, y2)], true, (p, q)) := by
  unfold putStep; rw [if_neg (show ¬ y2 < p from h), if_pos (show q < y1 from h2)]; rfl
theorem put_c3 {o : List R2} {dn : Bool} {p q y1 y2 : Int} (h : ¬ y2 < p) (h2 : ¬ q < y1) : putStep (o, dn, (p, q)) (y1, y2) = (o, dn, (min p y1, max q y2)) := by
  unfold putStep; rw [if_neg (show ¬ y2 < p from h), if_neg (show ¬ q < y1 from h2)]
theorem app_keep {C xb b : Nat} {w W w3 : World} {T : TypeId} {cs : Array Value} (hg : W.grownBy w3 (some b)) (hX : Blk W xb T cs) (hne : xb ≠ b) (hB : Below C w W) (hC : C ≤ b) (hw : C ≤ W.heap.size) : Blk w3 xb T cs ∧ Below C w w3 :=
  ⟨hX.grown' hg hne, below_only hB hg hC hw⟩
theorem slen {o : List R2} {r : R2} : (o ++ [r]).length = o.length + 1 := by simp
theorem own_app {w : World} {base : Nat} {E : TypeId} {v : Value} {o : List R2} {x y : Int} {n : Nat} (h : w.ownsRow base E 2 v n (flatP o ++ [.int .i64 x, .int .i64 y])) : w.ownsRow base E 2 v n (flatP (o ++ [(x, y)])) := by rw [flatP_app, flatP_one]; exact h

set_option maxHeartbeats 4000000 in
theorem put_any (l : List R2) (p0 q0 : Int) (len cap B : Nat) (A : Option Addr) (w : World) (hl : l.length = len) (hP : Prs B w A l) (hB : B ≤ w.heap.size) (hm : len ≤ 100) :
    Calls Try.prog 57 #[.slice A len cap, .agg #[.int .i64 p0, .int .i64 q0]] w (MadeP 36 (put l (p0, q0)) w) := by
  obtain ⟨i0, hi, hz0, hz1, hz2⟩ := info_parts info_impl
  have HL := hide hl
  have HP := hide hP
  clear hl hP
  have HV : Hid (len = 0 ∨ ∃ b o, A = some ⟨b, o, none⟩ ∧ b < B ∧ ∀ i, i < l.length → w.cell? ⟨b, o + i * 2, none⟩ = some (.int .i64 (l.getD i (0, 0)).1) ∧ w.cell? ⟨b, o + i * 2 + 1, none⟩ = some (.int .i64 (l.getD i (0, 0)).2)) := by
    rcases HP.out.view with h | h
    · exact hide (.inl (by have := HL.out; omega))
    · exact hide (.inr h)
  have main : ∀ A' : Option Addr, A' = A → (len = 0 ∨ ∃ b o, A' = some ⟨b, o, none⟩) → Calls Try.prog 57 #[.slice A' len cap, .agg #[.int .i64 p0, .int .i64 q0]] w (MadeP 36 (put l (p0, q0)) w) := by
    intro A' hA' hs
    have HA := hide hA'
    clear hA'
    go_enter Try.func57, Try.ntmps57
    go_wp2_with fail
    have ho0 := World.ownsRow_lit (base := w.heap.size + 1) (size := 2) (e := 36) (w.alloc (.cells #[.int .i64 p0, .int .i64 q0] 36)) #[] 0 (by simp) (by simp [maxLen]) (by simp)
    have hx0 := (Blk.new w 36 #[.int .i64 p0, .int .i64 q0]).alloc (.cells #[] 36)
    have ho1 : ((w.alloc (.cells #[.int .i64 p0, .int .i64 q0] 36)).alloc (.cells #[] 36)).ownsRow (w.heap.size + 1) 36 2 (.slice (some ⟨w.heap.size + 1, 0, none⟩) 0 0) 0 (flatP []) := by simpa [flatP] using ho0
    have HO := hide ho1
    have HX := hide hx0
    clear ho0 ho1 hx0
    go_loopw [5, 6, 7] (fun v d i wr => ∃ (k : Nat) (o : List R2) (dn : Bool) (p q : Int) (b cap : Nat), k ≤ len ∧ i = .int .i64 k ∧ d = .bool dn ∧ v = .slice (some ⟨b, 0, none⟩) o.length cap ∧ Hid ((l.take k).foldl putStep ([], false, (p0, q0)) = (o, dn, (p, q))) ∧ Hid (wr.ownsRow (w.heap.size + 1) 36 2 (.slice (some ⟨b, 0, none⟩) o.length cap) o.length (flatP o)) ∧ o.length ≤ 2 * k ∧ Hid (Blk wr w.heap.size 36 #[.int .i64 p, .int .i64 q]) ∧ Below w.heap.size w wr) (fun _ _ i _ => len - (intOf i).toNat)
    case atStart => exact ⟨0, [], false, p0, q0, _, _, by omega, rfl, rfl, rfl, hide rfl, HO, by simp, HX, (Below.refl _ _).alloc (Nat.le_refl _) _ |>.alloc (by simp) _⟩
    case round =>
      obtain ⟨k, o, dn, p, q, b, cap', hk, rfl, rfl, rfl, hf, hO, hol, hX, hb⟩ := hrel
      have hsz := hb.size
      have x0 := hX.out.cell 0
      have x1 := hX.out.cell 1
      have xf0 := hX.out.frozen 0
      have xf1 := hX.out.frozen 1
      have xl := hX.out.lt
      have hbb := (hO.out.lt b rfl).1
      simp at x0 x1
      by_cases hlt : k < len
      · rcases hs with hs | ⟨b0, o0, rfl⟩
        · omega
        have hcs : ∀ i, i < l.length → b0 < B ∧ w.cell? ⟨b0, o0 + i * 2, none⟩ = some (.int .i64 (l.getD i (0, 0)).1) ∧ w.cell? ⟨b0, o0 + i * 2 + 1, none⟩ = some (.int .i64 (l.getD i (0, 0)).2) := by
          rcases HV.out with h | ⟨b1, o1, e1, h1, h2⟩
          · intro i hi; have := HL.out; omega
          · rw [← HA.out] at e1
            cases e1
            exact fun i hi => ⟨h1, h2 i hi⟩
        obtain ⟨y1, y2, hxy⟩ := pair_ex l k
        obtain ⟨hbB, c0, c1⟩ := hcs k (by rw [HL.out]; exact hlt)
        rw [hxy] at c0 c1
        have hbw : b0 < w.heap.size := by omega
        replace c0 := (hb.cell (p := ⟨b0, o0 + k * 2, none⟩) hbw).trans c0
        replace c1 := (hb.cell (p := ⟨b0, o0 + k * 2 + 1, none⟩) hbw).trans c1
        have HF := hide ((fold_take putStep ([], false, (p0, q0)) (by rw [HL.out]; exact hlt) hxy).trans (by rw [hf.out]))
        clear hxy hcs
        have hO1 := hO.out
        by_cases h1 : y2 < p
        · go_wp2_with (at_builtin; refine wpList_append_lies _ rfl (.tmp 37) (.tmp 39) _ rfl (w.heap.size + 1) 36 i0 (.agg #[.int .i64 0, .int .i64 0]) 2 16 Try.underlying25 hi hz0 hz1 hz2 rfl (by omega) _ o.length (flatP o) rfl ((hO1.alloc _).alloc _) ⟨wr.heap.size + 1, 0, none⟩ 1 1 [.int .i64 y1, .int .i64 y2] rfl rfl (news2e _ _ _ _ _ (by simp)) (pair_one _ _) (by omega) (by unfold maxLen; omega) (by omega) (by simp; omega) _ rfl ?_; intro b' cap'' w3 hown' hgrow' hat' hlt')
          have hX3 : Blk w3 w.heap.size 36 #[.int .i64 p, .int .i64 q] := ((hX.out.alloc _).alloc _).grown' (show World.grownBy _ w3 (some b) from hgrow') (by omega)
          have hB3 : Below w.heap.size w w3 := below_only ((hb.alloc hsz _).alloc (by simp; omega) _) (show World.grownBy _ w3 (some b) from hgrow') (by omega) (by simp; omega)
          have H := hide (⟨hown', hX3, hB3⟩ : _ ∧ _ ∧ _)
          clear hown' hgrow' hat' hlt' hO1 hX3 hB3
          go_roundw
          case rel =>
            obtain ⟨hO3, hX3, hB3⟩ := H.out
            refine ⟨k + 1, o ++ [(y1, y2)], dn, p, q, _, _, by omega, by go_num, rfl, by rw [slen], hide (HF.out.trans (put_c1 h1)), hide ?_, by simp; omega, hide hX3, hB3⟩
            rw [slen]
            exact own_app hO3
          case measure => simp [intOf]; omega
        · by_cases h2 : q < y1
          · cases dn with
            | true =>
              go_wp2_with (at_builtin; refine wpList_append_lies _ rfl (.tmp 53) (.tmp 55) _ rfl (w.heap.size + 1) 36 i0 (.agg #[.int .i64 0, .int .i64 0]) 2 16 Try.underlying25 hi hz0 hz1 hz2 rfl (by omega) _ o.length (flatP o) rfl ((hO1.alloc _).alloc _) ⟨wr.heap.size + 1, 0, none⟩ 1 1 [.int .i64 y1, .int .i64 y2] rfl rfl (news2e _ _ _ _ _ (by simp)) (pair_one _ _) (by omega) (by unfold maxLen; omega) (by omega) (by simp; omega) _ rfl ?_; intro b' cap'' w3 hown' hgrow' hat' hlt')
              have hX3 : Blk w3 w.heap.size 36 #[.int .i64 p, .int .i64 q] := ((hX.out.alloc _).alloc _).grown' (show World.grownBy _ w3 (some b) from hgrow') (by omega)
              have hB3 : Below w.heap.size w w3 := below_only ((hb.alloc hsz _).alloc (by simp; omega) _) (show World.grownBy _ w3 (some b) from hgrow') (by omega) (by simp; omega)
              have H := hide (⟨hown', hX3, hB3⟩ : _ ∧ _ ∧ _)
              clear hown' hgrow' hat' hlt' hO1 hX3 hB3
              go_roundw
              case rel =>
                obtain ⟨hO3, hX3, hB3⟩ := H.out
                refine ⟨k + 1, o ++ [(y1, y2)], true, p, q, _, _, by omega, by go_num, rfl, by rw [slen], hide (HF.out.trans (put_c2t h1 h2)), hide ?_, by simp; omega, hide hX3, hB3⟩
                rw [slen]
                exact own_app hO3
              case measure => simp [intOf]; omega
            | false =>
              have hE : Hid (∀ (b1 : Nat) (w3 : World), (wr.alloc (.cells #[.int .i64 y1, .int .i64 y2] 36)).alloc (.cells #[.int .i64 p, .int .i64 q] 36) |>.grownBy w3 (some b) → Blk w3 wr.heap.size 36 #[.int .i64 y1, .int .i64 y2]) := hide (fun b1 w3 hg => ((Blk.new wr 36 #[.int .i64 y1, .int .i64 y2]).alloc _).grown' hg (by have := (hO1.lt b rfl).2; omega))
              have hXb := hide (hX.out)
              go_wp2_with (first | (at_builtin; refine wpList_append_lies _ rfl (.tmp 49) (.tmp 51) _ rfl (w.heap.size + 1) 36 i0 (.agg #[.int .i64 0, .int .i64 0]) 2 16 Try.underlying25 hi hz0 hz1 hz2 rfl (by omega) _ o.length (flatP o) rfl ((hO1.alloc _).alloc _) ⟨wr.heap.size + 1, 0, none⟩ 1 1 [.int .i64 p, .int .i64 q] rfl rfl (news2e _ _ _ _ _ (by simp)) (pair_one _ _) (by omega) (by unfold maxLen; omega) (by omega) (by simp; omega) _ rfl ?_; intro b' cap'' w3 hown' hgrow' hat' hlt'; have yb := hE.out 0 w3 hgrow'; have yc0 := yb.cell 0; have yc1 := yb.cell 1; have hs3 := hgrow'.size; have hbb' := (hown'.lt b' rfl).1; have hown2 := own_app hown'; simp at yc0 yc1 hs3; clear yb hown') | (at_builtin; refine wpList_append_lies _ rfl (.tmp 53) (.tmp 55) _ rfl (w.heap.size + 1) 36 i0 (.agg #[.int .i64 0, .int .i64 0]) 2 16 Try.underlying25 hi hz0 hz1 hz2 rfl (by omega) _ (o.length + 1) (flatP (o ++ [(p, q)])) rfl (hown2.alloc _) ⟨w3.heap.size, 0, none⟩ 1 1 [.int .i64 y1, .int .i64 y2] rfl rfl (news2e _ _ _ _ _ (by simp)) (pair_one _ _) (by omega) (by unfold maxLen; omega) (by omega) (by simp; omega) _ rfl ?_; intro b2 cap2 w4 hown4 hgrow4 hat4 hlt4))
              have hX3 : Blk w3 w.heap.size 36 #[.int .i64 p, .int .i64 q] := ((hX.out.alloc _).alloc _).grown' (show World.grownBy _ w3 (some b) from hgrow') (by omega)
              have hB3 : Below w.heap.size w w3 := below_only ((hb.alloc hsz _).alloc (by simp; omega) _) (show World.grownBy _ w3 (some b) from hgrow') (by omega) (by simp; omega)
              have hX4 : Blk w4 w.heap.size 36 #[.int .i64 p, .int .i64 q] := (hX3.alloc _).grown' (show World.grownBy _ w4 (some b') from hgrow4) (by omega)
              have hB4 : Below w.heap.size w w4 := below_only (hB3.alloc (by omega) _) (show World.grownBy _ w4 (some b') from hgrow4) (by omega) (by simp; omega)
              have H := hide (⟨hown4, hX4, hB4⟩ : _ ∧ _ ∧ _)
              clear hown4 hgrow' hat' hlt' hO1 hX3 hB3 hX4 hB4 hgrow4 hat4 hlt4 hown2
              go_roundw
              case rel =>
                obtain ⟨hO3, hX3, hB3⟩ := H.out
                refine ⟨k + 1, o ++ [(p, q)] ++ [(y1, y2)], true, p, q, _, _, by omega, by go_num, rfl, by rw [slen, slen], hide (HF.out.trans (put_c2f h1 h2)), hide ?_, by simp; omega, hide hX3, hB3⟩
                rw [slen, slen]
                exact own_app hO3
              case measure => simp [intOf]; omega
          · have HM := hide (put_c3 (o := o) (dn := dn) h1 h2)
            have HMn := hide (show (if y1 < p then y1 else p) = min p y1 by split <;> omega)
            have HMx := hide (show (if q < y2 then y2 else q) = max q y2 by split <;> omega)
            go_wp2_with fail
            go_roundw
            case rel =>
              refine ⟨k + 1, o, dn, min p y1, max q y2, b, cap', by omega, by go_num, rfl, rfl, hide (HF.out.trans HM.out), hide ?_, by omega, hide ?_, ?_⟩
              · exact (ownsRow_setCell_below (ownsRow_setCell_below hO1 (Nat.lt_succ_self _) _) (Nat.lt_succ_self _) _).alloc _
              · rw [HMn.out, HMx.out]
                exact ((hX.out.set_ 0 (.int .i64 (min p y1))).set_ 1 (.int .i64 (max q y2))).alloc _
              · exact ((hb.setCell (Nat.le_refl _) _).setCell (Nat.le_refl _) _).alloc (by simp; omega) _
            case measure => simp [intOf]; omega
      · obtain rfl : k = len := by omega
        have hfin : Hid (put l (p0, q0) = if dn then o else o ++ [(p, q)]) := by
          have hl : l.take k = l := List.take_of_length_le (by rw [HL.out]; omega)
          have h := hf.out
          rw [hl] at h
          unfold put putSt
          rw [h]
          exact hide rfl
        cases dn with
        | true =>
          have hfin := hide (show put l (p0, q0) = o from hfin.out)
          go_wp2
          go_ret
          exact ⟨b, cap', by rw [hfin.out]; rfl, by rw [hfin.out]; exact own_more hO.out (by omega), hb⟩
        | false =>
          have hfin := hide (show put l (p0, q0) = o ++ [(p, q)] from hfin.out)
          have hO1 := hO.out
          go_wp2_with (at_builtin; refine wpList_append_lies _ rfl (.tmp 59) (.tmp 61) _ rfl (w.heap.size + 1) 36 i0 (.agg #[.int .i64 0, .int .i64 0]) 2 16 Try.underlying25 hi hz0 hz1 hz2 rfl (by omega) _ o.length (flatP o) rfl (hO1.alloc _) ⟨wr.heap.size, 0, none⟩ 1 1 [.int .i64 p, .int .i64 q] rfl rfl (news2e _ _ _ _ _ (by simp)) (pair_one _ _) (by omega) (by unfold maxLen; omega) (by omega) (by simp; omega) _ rfl ?_; intro b' cap'' w3 hown' hgrow' hat' hlt')
          go_ret
          refine ⟨b', cap'', by rw [hfin.out, slen]; rfl, ?_, below_only (hb.alloc hsz _) (show World.grownBy _ w3 (some b) from hgrow') (by omega) (by simp; omega)⟩
          rw [hfin.out, slen]
          exact own_more (own_app hown') (by omega)
  exact main A rfl (by rcases HV.out with h | ⟨b, o, e, _⟩; exact .inl h; exact .inr ⟨b, o, e⟩)
end Go.Proofs.Ytakccgajnmkplaa
