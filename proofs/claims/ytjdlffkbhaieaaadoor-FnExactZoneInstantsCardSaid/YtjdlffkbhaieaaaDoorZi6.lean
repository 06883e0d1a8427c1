/- Contracts: the statements' own comparisons of lists of numbers; what an instant that is found has. -/
import Derived.Test.YtjdlffkbhaieaaaDoorZi4
namespace Go.Proofs.YtjdlffkbhaieaaaDoor
open Go.RowKit
attribute [local go_sem] lt_cell

theorem IRow.view {w : World} {lo : Nat} {A : Option Addr} {l : List Int} (h : IRow w lo A l) : l.length = 0 ∨ ∃ g, A = some ⟨g, 0, none⟩ ∧ lo ≤ g ∧ g < w.heap.size ∧ ∀ i, i < l.length → w.cell? ⟨g, i, none⟩ = some (.int .i64 (l.getD i 0)) := by
  rcases h with h | ⟨g, t, cs, h1, h2, h3, h4⟩
  · exact .inl h
  · exact .inr ⟨g, h1, h2, h3.lt, fun i hi => (h3.cell i).trans (h4 i hi)⟩

set_option maxHeartbeats 1000000 in
theorem sameInts_any (l : List Int) (n c c' lo lo' : Nat) (A A' : Option Addr) (w : World) (hl : l.length = n) (h1 : IRow w lo A l) (h2 : IRow w lo' A' l) (hm : n ≤ 1048576) :
    Calls Tryd.prog 26 #[.slice A n c, .slice A' n c'] w (RetB true w) := by
  have HL := hide hl
  rcases h1.view with h0 | ⟨g, rfl, _, hg, hc⟩
  · obtain rfl : n = 0 := by omega
    clear h1 h2 h0 hl
    go_enter Tryd.func26, Tryd.ntmps26
    go_wp2
    refine wp_loop_rounds 1 ?_
    rw [rounds_succ]
    go_wp2
    go_ret
    exact ⟨rfl, Below.refl _ _⟩
  rcases h2.view with h0 | ⟨g', rfl, _, hg', hc'⟩
  · obtain rfl : n = 0 := by omega
    clear h1 h2 h0 hc hl
    go_enter Tryd.func26, Tryd.ntmps26
    go_wp2
    refine wp_loop_rounds 1 ?_
    rw [rounds_succ]
    go_wp2
    go_ret
    exact ⟨rfl, Below.refl _ _⟩
  have HC := hide hc
  have HC' := hide hc'
  have g1 : ((n : Int) != (n : Int)) = false := by simp
  clear hc hc' h1 h2 hl
  go_enter Tryd.func26, Tryd.ntmps26
  go_wp2
  go_loopw [5] (fun i wr => ∃ k : Nat, k ≤ n ∧ i = .int .i64 k ∧ Below w.heap.size w wr) (fun i _ => n - (intOf i).toNat)
  case atStart => exact ⟨0, by omega, rfl, Below.refl _ _⟩
  case round =>
    obtain ⟨k, hk, rfl, hb⟩ := hrel
    by_cases hlt : k < n
    · obtain ⟨x, hx⟩ : ∃ x, x = l.getD k 0 := ⟨_, rfl⟩
      have c0 := (hb.cell (p := ⟨g, k, none⟩) hg).trans (HC.out k (by rw [HL.out]; omega))
      have c1 := (hb.cell (p := ⟨g', k, none⟩) hg').trans (HC'.out k (by rw [HL.out]; omega))
      rw [← hx] at c0 c1
      clear hx
      have g2 : (x != x) = false := by simp
      go_wp2_with fail
      first | go_quiet (fail) | fail
      go_wp2
      go_roundw
      case rel => exact ⟨k + 1, by omega, by go_num, bdrewN hb _⟩
      case measure => simp [intOf]; omega
    · obtain rfl : k = n := by omega
      go_wp2
      go_ret
      exact ⟨rfl, hb⟩


set_option maxHeartbeats 1000000 in
theorem eqIntS_any (l : List Int) (n c c' lo lo' : Nat) (A A' : Option Addr) (w : World) (hl : l.length = n) (h1 : IRow w lo A l) (h2 : IRow w lo' A' l) (hm : n ≤ 1048576) :
    Calls Tryd.prog 34 #[.slice A n c, .slice A' n c'] w (RetB true w) := by
  have HL := hide hl
  rcases h1.view with h0 | ⟨g, rfl, _, hg, hc⟩
  · obtain rfl : n = 0 := by omega
    clear h1 h2 h0 hl
    go_enter Tryd.func34, Tryd.ntmps34
    go_wp2
    refine wp_loop_rounds 1 ?_
    rw [rounds_succ]
    go_wp2
    go_ret
    exact ⟨rfl, Below.refl _ _⟩
  rcases h2.view with h0 | ⟨g', rfl, _, hg', hc'⟩
  · obtain rfl : n = 0 := by omega
    clear h1 h2 h0 hc hl
    go_enter Tryd.func34, Tryd.ntmps34
    go_wp2
    refine wp_loop_rounds 1 ?_
    rw [rounds_succ]
    go_wp2
    go_ret
    exact ⟨rfl, Below.refl _ _⟩
  have HC := hide hc
  have HC' := hide hc'
  have g1 : ((n : Int) != (n : Int)) = false := by simp
  clear hc hc' h1 h2 hl
  go_enter Tryd.func34, Tryd.ntmps34
  go_wp2
  go_loopw [5] (fun i wr => ∃ k : Nat, k ≤ n ∧ i = .int .i64 k ∧ Below w.heap.size w wr) (fun i _ => n - (intOf i).toNat)
  case atStart => exact ⟨0, by omega, rfl, Below.refl _ _⟩
  case round =>
    obtain ⟨k, hk, rfl, hb⟩ := hrel
    by_cases hlt : k < n
    · obtain ⟨x, hx⟩ : ∃ x, x = l.getD k 0 := ⟨_, rfl⟩
      have c0 := (hb.cell (p := ⟨g, k, none⟩) hg).trans (HC.out k (by rw [HL.out]; omega))
      have c1 := (hb.cell (p := ⟨g', k, none⟩) hg').trans (HC'.out k (by rw [HL.out]; omega))
      rw [← hx] at c0 c1
      clear hx
      have g2 : (x != x) = false := by simp
      go_wp2_with fail
      first | go_quiet (fail) | fail
      go_wp2
      go_roundw
      case rel => exact ⟨k + 1, by omega, by go_num, bdrewN hb _⟩
      case measure => simp [intOf]; omega
    · obtain rfl : k = n := by omega
      go_wp2
      go_ret
      exact ⟨rfl, hb⟩


theorem zi_in {o : Int} {l : List R2} {y mo d h mi s ms : Int} (hn : 0 < (ziV o l y mo d h mi s ms).length) : zvB o l = true ∧ vld y mo d = true ∧ cvB h mi s ms = true := by
  cases hz : zdc o l y mo d h mi s ms with
  | false => rw [ziV_no hz] at hn; simp at hn
  | true => exact zdc_in hz
/-- An instant that is found has the date and the time. -/
theorem zi_mem {o : Int} {l : List R2} {y mo d h mi s ms x : Int} (h1 : zvB o l = true) (h2 : vld y mo d = true) (h3 : cvB h mi s ms = true) (hx : x ∈ ziV o l y mo d h mi s ms) :
    insB x = true ∧ S8.ok ⟨y, mo, d, h, mi, s, ms, offAt o l x⟩ = true ∧ S8.ins ⟨y, mo, d, h, mi, s, ms, offAt o l x⟩ = x := by
  have hZ := zv_of h1
  rw [ziV_yes h1 h2 h3, mem_insS] at hx
  obtain ⟨i, hi, rfl⟩ := hx
  have ho := offAt_seg hZ hi
  have hb := hZ.off i hi.1
  have hn := num_bd h2
  have hc := cvB_bd h3
  have e : iA o l (locOf y mo d h mi s ms) i = locOf y mo d h mi s ms - 60000 * oA o l i := rfl
  rw [ho]
  refine ⟨?_, ?_, ?_⟩
  · unfold insB
    rw [inB_iff, e]
    unfold locOf
    omega
  · unfold S8.ok
    rw [show vld y mo d = true from h2, show cvB h mi s ms = true from h3, offB_iff.2 hb]
    rfl
  · rfl
theorem getD_mem {l : List Int} {i : Nat} (h : i < l.length) : l.getD i 0 ∈ l := by
  simp [List.getD, h]
end Go.Proofs.YtjdlffkbhaieaaaDoor
