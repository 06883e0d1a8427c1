/- Draws of ranges. -/
import Derived.Test.YtakccgajnmkplaaGc
import Derived.Test.YtakccgajnmkplaaApZ
namespace Go.Proofs.Ytakccgajnmkplaa
open Go.RowKit

/-- A drawn range. -/
def DrawnR (B g m : Nat) (w : World) (e : Ending) (w' : World) : Prop :=
  ∃ a b : Int, -1000 ≤ a ∧ a ≤ 1000 ∧ -1000 ≤ b ∧ b ≤ 1000 ∧ e = .returned (.agg #[.int .i64 a, .int .i64 b]) ∧ Rd B w' g (m + 3) ∧ w.grownBy w' (some g)
theorem l92Range_any {B g m : Nat} {w : World} (hr : Rd B w g m) (hm : m ≤ 100000) :
    Calls Try.prog 65 #[.pointer (some ⟨g, 0, none⟩)] w (DrawnR B g m w) := by
  have hgl := hr.lt
  go_enter Try.func65, Try.ntmps65
  go_wp2_with fail
  refine (pick_any (hr.alloc _) (by omega) (by omega)).mono ?_
  rintro e w1 ⟨v1, a1, b1, rfl, hr1, hg1⟩
  go_wp2_with fail
  refine (pick_any hr1 (by omega) (by omega)).mono ?_
  rintro e w2 ⟨v2, a2, b2, rfl, hr2, hg2⟩
  go_wp2_with fail
  refine (pick_any hr2 (by omega) (by omega)).mono ?_
  rintro e w3 ⟨v3, a3, b3, rfl, hr3, hg3⟩
  have G := only_trans (only_trans hg1 hg2) hg3
  obtain ⟨hcc, hff, hll⟩ := gcells G
  have c0 := hcc w.heap.size 0 (by simp) (by omega)
  have c1 := hcc w.heap.size 1 (by simp) (by omega)
  have f0 := hff w.heap.size 0 (by simp) (by omega)
  have f1 := hff w.heap.size 1 (by simp) (by omega)
  have hl := hll w.heap.size (by simp)
  simp at c0 c1 f0 f1
  clear hcc hff hll hg1 hg2 hg3
  go_wp2_with fail
  refine bodyPost_ret (by simp [results, Try.results65, go_sem, c0, c1, World.cell?_setCell_other]; try rfl) rfl ?_
  refine ⟨_, _, ?_, ?_, ?_, ?_, rfl, ?_, ?_⟩
  · omega
  · omega
  · omega
  · omega
  · exact (hr3.setCell (by simp; omega) _).setCell (by simp; omega) _
  · exact only_setCell (only_setCell (only_trans (only_alloc (only_refl _ _) _) G) (.inr (by simp)) _) (.inr (by simp)) _

set_option maxHeartbeats 2000000 in
theorem l92Ranges_any {B g m : Nat} {w : World} (hr : Rd B w g m) (hm : m ≤ 50000) :
    Calls Try.prog 50 #[.pointer (some ⟨g, 0, none⟩)] w (DrawnP 36 w.heap.size 1000 9 B g m 29 w) := by
  obtain ⟨i0, hi, hz0, hz1, hz2⟩ := info_parts info_impl
  have hgl := hr.lt
  go_enter Try.func50, Try.ntmps50
  go_wp2_with fail
  have ho0 := World.ownsRow_lit (base := w.heap.size) (size := 2) (e := 36) w #[] 0 (Nat.le_refl _) (by simp [maxLen]) (by simp)
  refine (pick_any (hr.alloc _) (by omega) (by omega)).mono ?_
  rintro e w1 ⟨v1, a1, b1, rfl, hr1, hg1⟩
  obtain ⟨n, rfl⟩ := Int.eq_ofNat_of_zero_le a1
  have ho1 := hide (own_rd ho0 hg1 hgl)
  have G1 := only_trans (only_alloc (only_refl w (some g)) (.cells #[] 36)) hg1
  clear ho0 hg1
  go_wp2_with fail
  go_loopw [3, 5] (fun v i wr => ∃ (k : Nat) (l : List R2) (b cap : Nat), k ≤ n ∧ i = .int .i64 k ∧ v = .slice (some ⟨b, 0, none⟩) k cap ∧ Hid (l.length = k) ∧ Hid (wr.ownsRow w.heap.size 36 2 (.slice (some ⟨b, 0, none⟩) k cap) k (flatP l)) ∧ Bd 1000 l ∧ Rd B wr g (m + 1 + k * 3) ∧ w.grownBy wr (some g)) (fun _ i _ => n - (intOf i).toNat)
  case atStart => exact ⟨0, [], _, _, by omega, rfl, rfl, hide rfl, ho1, (by intro r hr; simp at hr), by simpa using hr1, G1⟩
  case round =>
    obtain ⟨k, l, b, cap, hk, rfl, rfl, hlk, hO, hBd, hrk, hG⟩ := hrel
    have hs := hG.size
    by_cases hlt : k < n
    · go_wp2_with fail
      refine (l92Range_any hrk (by omega)).mono ?_
      rintro e w2 ⟨x, y, x1, x2, y1, y2, rfl, hr2, hg2⟩
      have hO2 := own_rd hO.out hg2 hgl
      have hG2 := only_trans hG hg2
      have hs2 := hG2.size
      clear hO hg2 hrk
      go_wp2_with (at_builtin; refine wpList_append_lies _ rfl _ _ _ rfl w.heap.size 36 i0 (.agg #[.int .i64 0, .int .i64 0]) 2 16 Try.underlying25 hi hz0 hz1 hz2 rfl (by omega) _ k (flatP l) rfl (hO2.alloc _) ⟨w2.heap.size, 0, none⟩ 1 1 [.int .i64 x, .int .i64 y] rfl rfl (news2 _ _ _ _) (pair_one _ _) (by omega) (by unfold maxLen; omega) (by omega) (by simp; omega) _ rfl ?_; intro b' cap' w3 hown' hgrow' hat' hlt')
      have hb := (hO2.lt b rfl).1
      have hr3 : Rd B w3 g (m + 1 + k * 3 + 3) := (hr2.alloc _).grown hgrow' (fun j hj => by have e : b = j := Option.some.inj hj; omega)
      have hG3 : w.grownBy w3 (some g) := only_widen hgrow' hb (only_alloc hG2 _)
      have hO3 : w3.ownsRow w.heap.size 36 2 (.slice (some ⟨b', 0, none⟩) (k + 1) cap') (k + 1) (flatP (l ++ [(x, y)])) := by rw [flatP_app, flatP_one]; exact hown'
      have H := hide (⟨hr3, hG3, hO3⟩ : _ ∧ _ ∧ _)
      clear hr2 hO2 hown' hgrow' hat' hlt' hr3 hG3 hO3 hG hG2
      go_roundw
      case rel =>
        obtain ⟨hr3, hG3, hO3⟩ := H.out
        exact ⟨k + 1, l ++ [(x, y)], b', cap', by omega, by go_num, rfl, hide (by rw [List.length_append, hlk.out]; rfl), hide hO3, hBd.snoc ⟨by omega, by omega, by omega, by omega⟩, hr3.more (by omega), hG3⟩
      case measure => simp [intOf]; omega
    · obtain rfl : k = n := by omega
      go_wp2_with fail
      refine (pick_any hrk (by omega) (by omega)).mono ?_
      rintro e w2 ⟨v2, c1, c2, rfl, hr2, hg2⟩
      have hO2 := own_rd hO.out hg2 hgl
      have hG2 := only_trans hG hg2
      have hs2 := hG2.size
      by_cases h0 : v2 = 0
      · subst h0
        have hb := (hO2.lt b rfl).1
        go_wp2_with (refine wpList_append_zeros _ rfl (.tmp 22) (.tmp 25) _ _ rfl w.heap.size (9 - k) 36 .i64 i0 (.agg #[.int .i64 0, .int .i64 0]) 2 16 Try.underlying25 Try.underlying3 hi hz0 hz1 hz2 rfl (zeros_one _) b k cap (flatP l) rfl _ rfl (by omega) hO2 (by omega) (by omega) (by omega) (by omega) (by omega) (by omega) ?_; intro b' cap' w3 hown' hgrow')
        go_ret
        have e9 : (l ++ List.replicate (9 - k) ((0 : Int), (0 : Int))).length = k + (9 - k) := by rw [List.length_append, List.length_replicate, hlk.out]
        rw [zeros_flat, ← flatP_app] at hown'
        refine ⟨b', cap', l ++ List.replicate (9 - k) (0, 0), by rw [e9]; rfl, by rw [e9]; exact hown', by rw [e9]; omega, ?_, ?_, only_widen hgrow' hb hG2⟩
        · intro r hr
          rcases List.mem_append.1 hr with hr | hr
          · exact hBd r hr
          · rw [(List.mem_replicate.1 hr).2]; exact ⟨by decide, by decide, by decide, by decide⟩
        · exact (hr2.grown hgrow' (fun j hj => by have e : b = j := Option.some.inj hj; omega)).more (by omega)
      · have g0 : (v2 == 0) = false := by simpa using h0
        go_wp2_with fail
        go_ret
        exact ⟨b, cap, l, by rw [hlk.out]; rfl, by rw [hlk.out]; exact hO2, by rw [hlk.out]; omega, hBd, hr2.more (by omega), hG2⟩
end Go.Proofs.Ytakccgajnmkplaa
