/- The law FnJoinOrder returns true. -/
import Derived.Test.YtakccgajnmkplaaDrJo
import Derived.Test.YtakccgajnmkplaaShellR
import Derived.Test.YtakccgajnmkplaaApS
namespace Go.Proofs.Ytakccgajnmkplaa
open Go.RowKit

theorem drop_rev {l : List R2} {k : Nat} {r : R2} (hk : k < l.length) (e : l.getD k (0, 0) = r) : (l.drop k).reverse = (l.drop (k + 1)).reverse ++ [r] := by
  have ex : l[k] = r := by simpa [List.getD, hk] using e
  rw [List.drop_eq_getElem_cons hk, ex, List.reverse_cons]
theorem join_rev {l : List R2} (h : joinOk l = true) : joinOk l.reverse = true ∧ joinS l.reverse = joinS l := by
  obtain ⟨h8, hall⟩ := joinOk_in h
  refine ⟨?_, join_perm hall (List.reverse_perm l)⟩
  unfold joinOk
  simp only [Bool.and_eq_true, decide_eq_true_eq, List.all_eq_true, List.length_reverse, List.mem_reverse]
  exact ⟨h8, hall⟩

set_option maxRecDepth 100000 in
set_option maxHeartbeats 4000000 in
theorem w_FnJoinOrder (w : World) (A : Option Addr) (len cap : Nat) (hs : Src w.heap.size w A len) (hc : len ≤ cap) (hm : cap ≤ maxLen) :
    Calls Try.prog 13 #[.slice A len cap] w fun e w' => e = .returned (.bool true) ∧ Below w.heap.size w w' := by
  have hm' := hm
  unfold maxLen at hm'
  by_cases hbig : 1048576 < len
  · go_enter Try.func13, Try.ntmps13
    go_wp2_with fail
    go_ret
    exact ⟨rfl, Below.refl _ _⟩
  · go_enter Try.func13, Try.ntmps13
    go_wp2_with fail
    refine (drawJoin hs (Nat.le_refl _) hc hm).mono ?_
    rintro e w1 ⟨b1, c1, l, rfl, ho1, hl9, hbd, hb1⟩
    have R1 := Row.made ho1
    have HBD := hide hbd
    clear ho1 hs hbd
    go_wp2_with fail
    refine (impl_join l _ _ _ _ _ rfl R1.prs (Nat.le_refl _) (by omega)).mono ?_
    rintro e w2 (⟨hj, rfl, hb2⟩ | ⟨hj, b2, c2, rfl, ho2, hb2⟩)
    · have G : Row w2 w1.heap.size w2.heap.size none 0 0 [] := Row.nil w2 w1
      have R1 := R1.below hb2
      have H2 := bto hb1 hb2
      clear HBD
      go_wp2_with fail
      refine (spec_join l _ _ _ _ _ rfl R1.prs (Nat.le_refl _)).mono ?_
      rintro e w3 ⟨b3, c3, rfl, ho3, hb3⟩
      rw [hj] at ho3 ⊢
      simp only [Bool.false_eq_true, if_false, List.length_nil] at ho3 ⊢
      have S := Row.made ho3
      have G := G.below hb3
      have H3 := bto H2 hb3
      clear ho3 R1 hj
      go_wp2_with fail
      refine (sameR_any [] _ _ _ _ _ _ _ rfl G.prs S.prs (Nat.le_refl _) (by simp)).mono ?_
      rintro e w4 ⟨rfl, hb4⟩
      have S := S.below hb4
      have G := G.below hb4
      have H4 := bto H3 hb4
      go_wp2_with fail
      refine (sameR_any [] _ _ _ _ _ _ _ rfl G.prs S.prs (Nat.le_refl _) (by simp)).mono ?_
      rintro e w5 ⟨rfl, hb5⟩
      go_wp2_with fail
      go_ret
      exact ⟨rfl, bto H4 hb5⟩
    · obtain ⟨hjj, hself, hrv, hlen⟩ := joinS_ok hj
      have HJJ := hide hjj
      have HSELF := hide hself
      have HRV := hide hrv
      have HJ := hide hj
      have G := Row.made ho2
      have R1 := R1.below hb2
      have H2 := bto hb1 hb2
      clear ho2 hjj hself hrv
      go_wp2_with fail
      refine (spec_join l _ _ _ _ _ rfl R1.prs (Nat.le_refl _)).mono ?_
      rintro e w3 ⟨b3, c3, rfl, ho3, hb3⟩
      rw [hj] at ho3 ⊢
      simp only [if_true] at ho3 ⊢
      have S := Row.made ho3
      have R1 := R1.below hb3
      have G := G.below hb3
      have H3 := bto H2 hb3
      clear ho3 hj
      go_wp2_with fail
      refine (sameR_any (joinS l) _ _ _ _ _ _ _ rfl G.prs S.prs (Nat.le_refl _) (by omega)).mono ?_
      rintro e w4 ⟨rfl, hb4⟩
      have R1 := R1.below hb4
      have G := G.below hb4
      have H4 := bto H3 hb4
      clear S
      obtain ⟨i0, hi, hz0, hz1, hz2⟩ := info_parts info_impl
      have hv := hide R1.prs.view'
      have t1 := R1.top b1 rfl
      have hs4 := hb4.size
      have hs3 := hb3.size
      have hs2 := hb2.size
      have E0 := hide (show (w4.alloc (.cells #[] 36)).ownsRow w4.heap.size 36 2 (.slice (some ⟨w4.heap.size, 0, none⟩) 0 0) 0 (flatP []) from World.ownsRow_lit (base := w4.heap.size) (size := 2) (e := 36) w4 #[] 0 (Nat.le_refl _) (by simp [maxLen]) (by simp))
      have hw0 : IntKind.i64.wrap ((l.length : Int) - 1) = (l.length : Int) - 1 := IntWalk.i64_in _ (by omega)
      have HG := hide G
      have H4' := hide H4
      clear R1 G HJJ HSELF HRV HBD hb1 hb2 hb3 hb4 H2 H3 H4
      go_wp2_with fail
      go_loopw [8, 9] (fun v i wr => ∃ (k : Nat) (b cap : Nat), k ≤ l.length ∧ i = .int .i64 ((k : Int) - 1) ∧ v = .slice (some ⟨b, 0, none⟩) (l.length - k) cap ∧ Hid (wr.ownsRow w4.heap.size 36 2 (.slice (some ⟨b, 0, none⟩) (l.length - k) cap) (l.length - k) (flatP ((l.drop k).reverse))) ∧ Below w4.heap.size w4 wr) (fun _ i _ => (intOf i + 1).toNat)
      case atStart => exact ⟨l.length, w4.heap.size, 0, Nat.le_refl _, rfl, by simp, hide (by simpa using E0.out), bal (Below.refl _ _) _⟩
      case round =>
        obtain ⟨k, b, cap, hk, rfl, rfl, hO, hbw⟩ := hrel
        have hsw := hbw.size
        by_cases hlt : 0 < k
        · obtain ⟨j, rfl⟩ : ∃ j, k = j + 1 := ⟨k - 1, by omega⟩
          have ej : (((j + 1 : Nat) : Int) - 1) = (j : Int) := by omega
          rw [ej]
          obtain ⟨x, y, hxy⟩ := pair_ex l j
          rcases hv.out with h0 | ⟨b0, o0, e0, hb0, hcs⟩
          · omega
          cases e0
          obtain ⟨d0, d1⟩ := hcs j (by omega)
          rw [hxy] at d0 d1
          replace d0 := (hbw.cell (p := ⟨b1, 0 + j * 2, none⟩) (by show b1 < _; omega)).trans d0
          replace d1 := (hbw.cell (p := ⟨b1, 0 + j * 2 + 1, none⟩) (by show b1 < _; omega)).trans d1
          simp only [Nat.zero_add] at d0 d1
          have HR := hide (drop_rev (l := l) (k := j) (by omega) hxy)
          have HO2 := hO.out
          have hw1 : IntKind.i64.wrap ((j : Int) - 1) = (j : Int) - 1 := IntWalk.i64_in _ (by omega)
          have en : l.length - (j + 1) + 1 = l.length - j := by omega
          clear hcs hxy hO
          go_wp2_with (at_builtin; refine wpList_append_lies _ rfl _ _ _ rfl w4.heap.size 36 i0 (.agg #[.int .i64 0, .int .i64 0]) 2 16 Try.underlying25 hi hz0 hz1 hz2 rfl (by omega) _ (l.length - (j + 1)) (flatP ((l.drop (j + 1)).reverse)) rfl (HO2.alloc _) ⟨wr.heap.size, 0, none⟩ 1 1 [.int .i64 x, .int .i64 y] rfl rfl (news2 _ _ _ _) (pair_one _ _) (by omega) (by unfold maxLen; omega) (by omega) (by simp; omega) _ rfl ?_; intro b' cap' w5 hown' hgrow' hat' hlt')
          have hbb := (HO2.lt b rfl).1
          have hO3 : w5.ownsRow w4.heap.size 36 2 (.slice (some ⟨b', 0, none⟩) (l.length - j) cap') (l.length - j) (flatP ((l.drop j).reverse)) := by rw [HR.out, flatP_app, flatP_one, ← en]; exact hown'
          have hB3 : Below w4.heap.size w4 w5 := bonly (bal hbw _) hgrow' hbb
          have H := hide (⟨hO3, hB3⟩ : _ ∧ _)
          clear HO2 hown' hgrow' hat' hlt' hO3 hB3 hbb d0 d1
          go_roundw
          case rel => exact ⟨j, b', cap', by omega, rfl, rfl, hide H.out.1, H.out.2⟩
          case measure => simp [intOf] <;> omega
        · obtain rfl : k = 0 := by omega
          have HO := hO.out
          simp only [Nat.sub_zero, List.drop_zero] at HO ⊢
          have X := Prs.own HO
          obtain ⟨jr, er⟩ := join_rev HJ.out
          have HG4 := HG.out.below hbw
          have H5 := bto H4'.out hbw
          have er' := hide er
          have jr' := hide jr
          clear hO HO hv er jr
          go_wp2_with fail
          refine (impl_join l.reverse _ _ _ _ _ (by simp) X (Nat.le_refl _) (by omega)).mono ?_
          rintro e w6 (⟨hf, -, -⟩ | ⟨-, b6, c6, rfl, ho6, hb6⟩)
          · rw [jr'.out] at hf; simp at hf
          · rw [er'.out] at ho6 ⊢
            have T := Row.made ho6
            have G := HG4.below hb6
            have H6 := bto H5 hb6
            clear ho6 X
            go_wp2_with fail
            refine (sameR_any (joinS l) _ _ _ _ _ _ _ rfl T.prs G.prs (Nat.le_refl _) (by omega)).mono ?_
            rintro e w7 ⟨rfl, hb7⟩
            go_wp2_with fail
            go_ret
            exact ⟨rfl, bto H6 hb7⟩
end Go.Proofs.Ytakccgajnmkplaa
