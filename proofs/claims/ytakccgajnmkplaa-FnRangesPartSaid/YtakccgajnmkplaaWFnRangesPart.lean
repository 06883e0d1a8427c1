/- The law FnRangesPart returns true. -/
import Derived.Test.YtakccgajnmkplaaDrV
import Derived.Test.YtakccgajnmkplaaApS
namespace Go.Proofs.Ytakccgajnmkplaa
open Go.RowKit
attribute [local go_sem] lt_cell

theorem part_ok {l : List R2} (h : rvB l = true) (k : Nat) : rvB (l.take k ++ l.drop (k + 1)) = true := by
  obtain ⟨h8, ha⟩ := rvB_in h
  have hA := asc_of ha
  have hs : (l.take k ++ l.drop (k + 1)).Sublist l := by rw [← List.eraseIdx_eq_take_drop_succ]; exact List.eraseIdx_sublist l k
  have hA' : Asc (l.take k ++ l.drop (k + 1)) := ⟨fun r hr => hA.1 r (hs.subset hr), hA.2.sublist hs⟩
  have := hs.length_le
  unfold rvB
  rw [of_asc hA']
  simp
  simp at this
  omega
theorem part_no {l : List R2} {k : Nat} (hk : k < l.length) : rvB (l.take (k + 1) ++ l.drop k) = false := by
  cases e : rvB (l.take (k + 1) ++ l.drop k) with
  | false => rfl
  | true =>
    exfalso
    obtain ⟨_, ha⟩ := rvB_in e
    have hA := asc_app.1 (asc_of ha)
    have m1 : l[k] ∈ l.take (k + 1) := by rw [List.take_succ_eq_append_getElem hk]; exact List.mem_append_right _ (List.mem_singleton.2 rfl)
    have m2 : l[k] ∈ l.drop k := by rw [List.drop_eq_getElem_cons hk]; exact List.mem_cons_self
    have h1 := hA.2.2 _ m1 _ m2
    have h2 := rB_iff.1 (hA.1.1 _ m1)
    omega

theorem take_get {l : List R2} {k j : Nat} {u : Value} (h : (flatP (l.take k))[j]? = some u) : (flatP l)[j]? = some u := by
  have e : flatP l = flatP (l.take k) ++ flatP (l.drop k) := by rw [← flatP_app, List.take_append_drop]
  have hl : j < (flatP (l.take k)).length := by
    rcases Nat.lt_or_ge j (flatP (l.take k)).length with h' | h'
    · exact h'
    · rw [List.getElem?_eq_none h'] at h; cases h
  rw [e, List.getElem?_append_left hl]
  exact h
theorem part_news {w : World} {base b cap : Nat} {E : TypeId} {l : List R2} (h : w.ownsRow base E 2 (.slice (some ⟨b, 0, none⟩) l.length cap) l.length (flatP l)) (hlt : b < w.heap.size) (k : Nat) :
    ∀ j u, (flatP (l.take k))[j]? = some u → ((w.alloc (.cells #[] 36)).drew).cell? ((⟨b, 0, none⟩ : Addr).add j) = some u := fun j u hj => by
  have := h.cells (g := b) rfl j u (take_get hj)
  rw [Go.WideShapes.add_plain] at this ⊢
  exact (World.cell?_alloc_lt w _ ⟨b, 0 + j, none⟩ hlt).trans this

theorem drop_news {w w5 : World} {base b cap : Nat} {E : TypeId} {l : List R2} (h : w.ownsRow base E 2 (.slice (some ⟨b, 0, none⟩) l.length cap) l.length (flatP l)) (hlt : b < w.heap.size) (hg : ((w.alloc (.cells #[] 36)).drew).grownBy w5 (some w.heap.size)) (k : Nat) :
    ∀ j u, (flatP (l.drop k))[j]? = some u → w5.cell? ((⟨b, k * 2, none⟩ : Addr).add j) = some u := fun j u hj => by
  have e : flatP l = flatP (l.take k) ++ flatP (l.drop k) := by rw [← flatP_app, List.take_append_drop]
  have hk : k ≤ l.length := by
    rcases Nat.lt_or_ge l.length k with h' | h'
    · rw [List.drop_eq_nil_of_le (by omega)] at hj; simp [flatP] at hj
    · exact h'
  have hl : (flatP (l.take k)).length = k * 2 := by rw [flatP_len, List.length_take_of_le hk]
  have hj' : (flatP l)[k * 2 + j]? = some u := by
    rw [e, List.getElem?_append_right (by omega), hl, Nat.add_sub_cancel_left]
    exact hj
  have := h.cells (g := b) rfl (k * 2 + j) u hj'
  rw [Go.WideShapes.add_plain] at this ⊢
  rw [Nat.zero_add] at this
  refine (World.cell?_of_block (hg.block b (Nat.lt_of_lt_of_le hlt (by simp)) (fun e => by injection e with e; omega))).trans ?_
  exact (World.cell?_alloc_lt w _ ⟨b, k * 2 + j, none⟩ hlt).trans this

set_option maxRecDepth 100000 in
set_option maxHeartbeats 2000000 in
theorem w_FnRangesPart (w : World) (A : Option Addr) (len cap : Nat) (hs : Src w.heap.size w A len) (hc : len ≤ cap) (hm : cap ≤ maxLen) (A' : Option Addr) (len' cap' : Nat) (_hs' : Src w.heap.size w A' len') (_hc' : len' ≤ cap') (_hm' : cap' ≤ maxLen) :
    Calls Try.prog 6 #[.slice A len cap, .slice A' len' cap'] w fun e w' => e = .returned (.bool true) ∧ Below w.heap.size w w' := by
  unfold maxLen at hm
  obtain ⟨i0, hi, hz0, hz1, hz2⟩ := info_parts info_impl
  by_cases hbig : 1048576 < len
  · go_enter Try.func6, Try.ntmps6
    go_wp2_with fail
    go_ret
    exact ⟨rfl, Below.refl _ _⟩
  by_cases hbig' : 1048576 < len'
  · go_enter Try.func6, Try.ntmps6
    go_wp2_with fail
    go_ret
    exact ⟨rfl, Below.refl _ _⟩
  · go_enter Try.func6, Try.ntmps6
    go_wp2_with fail
    refine (drawValid hs (Nat.le_refl _) hc hm).mono ?_
    rintro e w1 ⟨b, cap1, l, rfl, ho1, hl9, hbd, hb1⟩
    have hs1 := hb1.size
    have P1 := Prs.own ho1
    have HO := hide ho1
    clear ho1 hbd
    go_wp2_with fail
    refine (impl_rv l _ _ _ _ _ rfl P1 (Nat.le_refl _)).mono ?_
    rintro e w2 ⟨rfl, hb2⟩
    have hs2 := hb2.size
    go_wp2_with fail
    refine (spec_rv l _ _ _ _ _ rfl (P1.below hb2) hs2 (by omega)).mono ?_
    rintro e w3 ⟨rfl, hb3⟩
    have hb13 := bto hb2 hb3
    have HO3 := hide (own_below HO.out hb13)
    have H3 := bto hb1 hb13
    clear P1 hb2 hb3
    rcases rvB_bool l with hv | hv
    · by_cases h0 : l.length = 0
      · obtain rfl : l = [] := by cases l; rfl; simp at h0
        clear h0 hl9
        go_wp2_with fail
        go_ret
        exact ⟨rfl, H3⟩
      · have HK := hide (fun k => part_ok hv k)
        have HN := hide (fun (k : Nat) (hk : k < l.length) => part_no hk)
        obtain ⟨k, hk⟩ : ∃ k, k = len' % l.length := ⟨_, rfl⟩
        have hkl : k < l.length := by rw [hk]; exact Nat.mod_lt _ (by omega)
        have ek : (len' : Int) % (l.length : Int) = (k : Int) := by rw [hk]; rfl
        have g0 : ((l.length : Int) == 0) = false := beq_eq_false_iff_ne.2 (by omega)
        clear hk
        have hcap := own_cap HO3.out
        have hcm : cap1 ≤ 9223372036854775807 := hcap.2
        have hlc : l.length ≤ cap1 := hcap.1
        have q1 : (0 : Int) ≤ (k : Int) := by omega
        have q2 : (k : Int) ≤ (l.length : Int) := by omega
        have q3 : (k : Int) ≤ (cap1 : Int) := by omega
        have q4 : IntKind.i64.wrap ((k : Int) + 1) = (k : Int) + 1 := IntWalk.i64_in _ (by omega)
        have q5 : (0 : Int) ≤ (k : Int) + 1 := by omega
        have q6 : (k : Int) + 1 ≤ (l.length : Int) := by omega
        have q7 : (k : Int) + 1 ≤ (cap1 : Int) := by omega
        have q8 : ((k : Int) + 1).toNat = k + 1 := by omega
        go_wp2_with fail
        have HOw3 := HO3
        have hltw3 := (HOw3.out.lt b rfl).2
        have HEw3 := hide (show ((w3.alloc (.cells #[] 36)).drew).ownsRow w3.heap.size 36 2 (.slice (some ⟨w3.heap.size, 0, none⟩) 0 0) 0 (flatP []) from World.ownsRow_lit (base := w3.heap.size) (size := 2) (e := 36) w3 #[] 0 (Nat.le_refl _) (by simp [maxLen]) (by simp))
        by_cases hck : cap1 = k + 1
        · subst hck
          have q9 : (k : Int) ≤ (k : Int) + 1 := by omega
          have q10 : ¬ k + 1 = k := by omega
          go_region_law (first | (refine step_append_src _ (by rfl) (.tmp 45) (.tmp 48) _ (by rfl) w3.heap.size 36 i0 (.agg #[.int .i64 0, .int .i64 0]) 2 16 Try.underlying25 hi hz0 hz1 hz2 rfl (by omega) w3.heap.size 0 0 (flatP []) (by rfl) HEw3.out ⟨b, 0, none⟩ k _ (flatP (l.take k)) (by rfl) (by rw [flatP_len, List.length_take_of_le (by omega)]) (part_news HOw3.out hltw3 k) (flatP_one' _) (by unfold maxLen; omega) (by omega) (by simp) ?_; intro g5 c5 w5 ho5 hg5 hb5 hl5; rw [← flatP_app, Nat.zero_add] at ho5) | (refine step_append_src _ (by rfl) (.tmp 49) (.tmp 53) _ (by rfl) w3.heap.size 36 i0 (.agg #[.int .i64 0, .int .i64 0]) 2 16 Try.underlying25 hi hz0 hz1 hz2 rfl (by omega) g5 k c5 (flatP ([] ++ l.take k)) (by rfl) ho5 ⟨b, 0, none⟩ 0 _ [] (by rfl) (by simp) (by intro j u hj; simp at hj) (by intro u hu; simp at hu) (by unfold maxLen; omega) (by omega) (by omega) ?_; intro g6 c6 w6 ho6 hg6 hb6 hl6))
          have B36 : Below w3.heap.size w3 w6 := below_only (below_only (bdrew (bal (Below.refl _ _) _)) hg5 (Nat.le_refl _) (by simp)) hg6 hb5 (by have := hg5.size; simp at this; omega)
          have hdr : l.drop (k + 1) = [] := List.drop_eq_nil_of_le (by omega)
          rw [List.append_nil, List.nil_append, ← List.append_nil (l.take k), ← hdr] at ho6
          have hlnw6 : (l.take k ++ l.drop (k + 1)).length = k + 0 := by rw [List.length_append, List.length_take_of_le (by omega), hdr]; rfl
          have Pw6 : Prs w6.heap.size w6 _ (l.take k ++ l.drop (k + 1)) := Prs.own ho6
          have HOw6 := hide (own_below HO3.out B36)
          have hltw6 := (HOw6.out.lt b rfl).2
          have HEw6 := hide (show ((w6.alloc (.cells #[] 36)).drew).ownsRow w6.heap.size 36 2 (.slice (some ⟨w6.heap.size, 0, none⟩) 0 0) 0 (flatP []) from World.ownsRow_lit (base := w6.heap.size) (size := 2) (e := 36) w6 #[] 0 (Nat.le_refl _) (by simp [maxLen]) (by simp))
          clear ho5 hg5 hl5 hg6 ho6 hl6
          go_wp2_with fail
          go_region_law (first | (refine step_append_src _ (by rfl) (.tmp 55) (.tmp 59) _ (by rfl) w6.heap.size 36 i0 (.agg #[.int .i64 0, .int .i64 0]) 2 16 Try.underlying25 hi hz0 hz1 hz2 rfl (by omega) w6.heap.size 0 0 (flatP []) (by rfl) HEw6.out ⟨b, 0, none⟩ (k + 1) _ (flatP (l.take (k + 1))) (by rfl) (by rw [flatP_len, List.length_take_of_le (by omega)]) (part_news HOw6.out hltw6 (k + 1)) (flatP_one' _) (by unfold maxLen; omega) (by omega) (by simp) ?_; intro g7 c7 w7 ho7 hg7 hb7 hl7; rw [← flatP_app, Nat.zero_add] at ho7) | (refine step_append_src _ (by rfl) (.tmp 60) (.tmp 63) _ (by rfl) w6.heap.size 36 i0 (.agg #[.int .i64 0, .int .i64 0]) 2 16 Try.underlying25 hi hz0 hz1 hz2 rfl (by omega) g7 (k + 1) c7 (flatP ([] ++ l.take (k + 1))) (by rfl) ho7 ⟨b, k * 2, none⟩ (l.length - k) _ (flatP (l.drop k)) (by rfl) (by rw [flatP_len, List.length_drop]) (drop_news HOw6.out hltw6 hg7 k) (flatP_one' _) (by unfold maxLen; omega) (by omega) (by omega) ?_; intro g8 c8 w8 ho8 hg8 hb8 hl8))
          have B68 : Below w6.heap.size w6 w8 := below_only (below_only (bdrew (bal (Below.refl _ _) _)) hg7 (Nat.le_refl _) (by simp)) hg8 hb7 (by have := hg7.size; simp at this; omega)
          rw [← flatP_app, List.nil_append] at ho8
          have hlnw8 : (l.take (k + 1) ++ l.drop k).length = (k + 1) + (l.length - k) := by rw [List.length_append, List.length_take_of_le (by omega), List.length_drop]
          have Pw8 : Prs w8.heap.size w8 _ (l.take (k + 1) ++ l.drop k) := Prs.own ho8
          clear ho7 hg7 hl7 hg8 ho8 hl8
          go_wp2_with fail
          refine (impl_rv (l.take k ++ l.drop (k + 1)) _ _ _ _ _ hlnw6 (Pw6.below B68) B68.size).mono ?_
          rintro e w9 ⟨rfl, hb9⟩
          rw [HK.out k]
          go_wp2_with fail
          refine (impl_rv (l.take (k + 1) ++ l.drop k) _ _ _ _ _ hlnw8 (Pw8.below hb9) hb9.size).mono ?_
          rintro e w10 ⟨rfl, hb10⟩
          rw [HN.out k hkl]
          go_wp2_with fail
          go_ret
          exact ⟨rfl, bto (bto (bto (bto H3 B36) B68) hb9) hb10⟩
        · have q10 : ¬ cap1 = k := by omega
          go_region_law (first | (refine step_append_src _ (by rfl) (.tmp 45) (.tmp 48) _ (by rfl) w3.heap.size 36 i0 (.agg #[.int .i64 0, .int .i64 0]) 2 16 Try.underlying25 hi hz0 hz1 hz2 rfl (by omega) w3.heap.size 0 0 (flatP []) (by rfl) HEw3.out ⟨b, 0, none⟩ k _ (flatP (l.take k)) (by rfl) (by rw [flatP_len, List.length_take_of_le (by omega)]) (part_news HOw3.out hltw3 k) (flatP_one' _) (by unfold maxLen; omega) (by omega) (by simp) ?_; intro g5 c5 w5 ho5 hg5 hb5 hl5; rw [← flatP_app, Nat.zero_add] at ho5) | (refine step_append_src _ (by rfl) (.tmp 49) (.tmp 53) _ (by rfl) w3.heap.size 36 i0 (.agg #[.int .i64 0, .int .i64 0]) 2 16 Try.underlying25 hi hz0 hz1 hz2 rfl (by omega) g5 k c5 (flatP ([] ++ l.take k)) (by rfl) ho5 ⟨b, (k + 1) * 2, none⟩ (l.length - (k + 1)) _ (flatP (l.drop (k + 1))) (by rfl) (by rw [flatP_len, List.length_drop]) (drop_news HOw3.out hltw3 hg5 (k + 1)) (flatP_one' _) (by unfold maxLen; omega) (by omega) (by omega) ?_; intro g6 c6 w6 ho6 hg6 hb6 hl6))
          have B36 : Below w3.heap.size w3 w6 := below_only (below_only (bdrew (bal (Below.refl _ _) _)) hg5 (Nat.le_refl _) (by simp)) hg6 hb5 (by have := hg5.size; simp at this; omega)
          rw [← flatP_app, List.nil_append] at ho6
          have hlnw6 : (l.take k ++ l.drop (k + 1)).length = k + (l.length - (k + 1)) := by rw [List.length_append, List.length_take_of_le (by omega), List.length_drop]
          have Pw6 : Prs w6.heap.size w6 _ (l.take k ++ l.drop (k + 1)) := Prs.own ho6
          have HOw6 := hide (own_below HO3.out B36)
          have hltw6 := (HOw6.out.lt b rfl).2
          have HEw6 := hide (show ((w6.alloc (.cells #[] 36)).drew).ownsRow w6.heap.size 36 2 (.slice (some ⟨w6.heap.size, 0, none⟩) 0 0) 0 (flatP []) from World.ownsRow_lit (base := w6.heap.size) (size := 2) (e := 36) w6 #[] 0 (Nat.le_refl _) (by simp [maxLen]) (by simp))
          clear ho5 hg5 hl5 hg6 ho6 hl6
          go_wp2_with fail
          go_region_law (first | (refine step_append_src _ (by rfl) (.tmp 55) (.tmp 59) _ (by rfl) w6.heap.size 36 i0 (.agg #[.int .i64 0, .int .i64 0]) 2 16 Try.underlying25 hi hz0 hz1 hz2 rfl (by omega) w6.heap.size 0 0 (flatP []) (by rfl) HEw6.out ⟨b, 0, none⟩ (k + 1) _ (flatP (l.take (k + 1))) (by rfl) (by rw [flatP_len, List.length_take_of_le (by omega)]) (part_news HOw6.out hltw6 (k + 1)) (flatP_one' _) (by unfold maxLen; omega) (by omega) (by simp) ?_; intro g7 c7 w7 ho7 hg7 hb7 hl7; rw [← flatP_app, Nat.zero_add] at ho7) | (refine step_append_src _ (by rfl) (.tmp 60) (.tmp 63) _ (by rfl) w6.heap.size 36 i0 (.agg #[.int .i64 0, .int .i64 0]) 2 16 Try.underlying25 hi hz0 hz1 hz2 rfl (by omega) g7 (k + 1) c7 (flatP ([] ++ l.take (k + 1))) (by rfl) ho7 ⟨b, k * 2, none⟩ (l.length - k) _ (flatP (l.drop k)) (by rfl) (by rw [flatP_len, List.length_drop]) (drop_news HOw6.out hltw6 hg7 k) (flatP_one' _) (by unfold maxLen; omega) (by omega) (by omega) ?_; intro g8 c8 w8 ho8 hg8 hb8 hl8))
          have B68 : Below w6.heap.size w6 w8 := below_only (below_only (bdrew (bal (Below.refl _ _) _)) hg7 (Nat.le_refl _) (by simp)) hg8 hb7 (by have := hg7.size; simp at this; omega)
          rw [← flatP_app, List.nil_append] at ho8
          have hlnw8 : (l.take (k + 1) ++ l.drop k).length = (k + 1) + (l.length - k) := by rw [List.length_append, List.length_take_of_le (by omega), List.length_drop]
          have Pw8 : Prs w8.heap.size w8 _ (l.take (k + 1) ++ l.drop k) := Prs.own ho8
          clear ho7 hg7 hl7 hg8 ho8 hl8
          go_wp2_with fail
          refine (impl_rv (l.take k ++ l.drop (k + 1)) _ _ _ _ _ hlnw6 (Pw6.below B68) B68.size).mono ?_
          rintro e w9 ⟨rfl, hb9⟩
          rw [HK.out k]
          go_wp2_with fail
          refine (impl_rv (l.take (k + 1) ++ l.drop k) _ _ _ _ _ hlnw8 (Pw8.below hb9) hb9.size).mono ?_
          rintro e w10 ⟨rfl, hb10⟩
          rw [HN.out k hkl]
          go_wp2_with fail
          go_ret
          exact ⟨rfl, bto (bto (bto (bto H3 B36) B68) hb9) hb10⟩
    · go_wp2_with fail
      go_ret
      exact ⟨rfl, H3⟩
end Go.Proofs.Ytakccgajnmkplaa
