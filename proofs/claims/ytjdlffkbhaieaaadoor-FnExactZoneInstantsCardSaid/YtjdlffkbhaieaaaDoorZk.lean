/- Contracts: zones' turns and lists of numbers marked and held. -/
import Derived.Test.YtjdlffkbhaieaaaDoorZi6
namespace Go.Proofs.YtjdlffkbhaieaaaDoor
open Go.RowKit

set_option maxHeartbeats 1000000 in
theorem markT_any (w : World) (base n cap g : Nat) (l : List R2) (k : Int) (h : w.ownsRow base 68 2 (.slice (some ⟨g, 0, none⟩) n cap) n (flatP l)) (hn : n ≤ 1048576) (hk0 : 0 ≤ k) (hk : k ≤ 100000000) :
    Calls Tryd.prog 65 #[.slice (some ⟨g, 0, none⟩) n cap, .int .i64 k] w fun e w' => e = .returned (.int .i64 (k + 2 * (n : Int))) ∧ w.grownBy w' (some g) := by
  have hl : l.length = n := by have := h.1; rw [flatP_len] at this; omega
  have HL := hide hl
  have HO := hide h
  clear h hl
  go_enter Tryd.func65, Tryd.ntmps65
  go_wp2
  go_loopw [1, 5] (fun u i wr => ∃ (j : Nat) (l' : List R2), j ≤ n ∧ i = .int .i64 j ∧ u = .int .i64 (k + 2 * (j : Int)) ∧ Hid (l'.length = n) ∧ Hid (wr.ownsRow base 68 2 (.slice (some ⟨g, 0, none⟩) n cap) n (flatP l')) ∧ w.grownBy wr (some g)) (fun _ i _ => n - (intOf i).toNat)
  case atStart => exact ⟨0, l, by omega, rfl, by simp, HL, HO, only_refl _ _⟩
  case round =>
    obtain ⟨j, l', hj, rfl, rfl, hll, hO, hG⟩ := hrel
    by_cases hlt : j < n
    · have hO1 := hO.out
      have d0 := hO1.cellAt (j * 2) (by omega)
      have d1 := hO1.cellAt (j * 2 + 1) (by omega)
      have f0 := hO1.frozenAt (j * 2)
      have f1 := hO1.frozenAt (j * 2 + 1)
      have hgt := flatP_get l' j (by rw [hll.out]; omega)
      rw [hgt.1] at d0
      rw [hgt.2] at d1
      have s1 := hO1.stored (j * 2) (.int .i64 (k + 2 * (j : Int)))
      have s2 := s1.1.stored (j * 2 + 1) (.int .i64 (k + 2 * (j : Int) + 1))
      have H2 := hide (⟨s1, s2⟩ : _ ∧ _)
      clear hO1 hgt s1 s2 hO
      go_wp2
      go_roundw
      case rel =>
        obtain ⟨s1, s2⟩ := H2.out
        have h3 := s2.1
        rw [flatP_set _ j (k + 2 * (j : Int), k + 2 * (j : Int) + 1) (by rw [hll.out]; omega)] at h3
        exact ⟨j + 1, l'.set j (k + 2 * (j : Int), k + 2 * (j : Int) + 1), by omega, by go_num, by (congr 1; omega), hide (by rw [List.length_set]; exact hll.out), hide h3, only_trans (only_trans hG s1.2) s2.2⟩
      case measure => simp [intOf]; omega
    · obtain rfl : j = n := by omega
      go_wp2
      go_ret
      exact ⟨rfl, hG⟩
theorem markZ_any (w : World) (o : Int) (base n cap g : Nat) (l : List R2) (k : Int) (h : w.ownsRow base 68 2 (.slice (some ⟨g, 0, none⟩) n cap) n (flatP l)) (_hb : base ≤ g) (hn : n ≤ 1048576) (hk0 : 0 ≤ k) (hk : k ≤ 100000000) :
    Calls Tryd.prog 35 #[.agg #[.int .i64 o, .slice (some ⟨g, 0, none⟩) n cap], .int .i64 k] w fun e w' => e = .returned (.int .i64 (k + 2 * (n : Int))) ∧ w.grownBy w' (some g) := by
  have G0 := only_alloc (only_refl w (some g)) (.cells #[.int .i64 o, .slice (some ⟨g, 0, none⟩) n cap] 36)
  have HO := hide (h.alloc (.cells #[.int .i64 o, .slice (some ⟨g, 0, none⟩) n cap] 36))
  clear h
  go_enter Tryd.func35, Tryd.ntmps35
  go_wp2_with fail
  refine (markT_any _ base n cap g l k HO.out hn hk0 hk).mono ?_
  rintro e w1 ⟨rfl, hg1⟩
  go_wp2_with fail
  go_ret
  exact ⟨rfl, only_trans G0 hg1⟩

/-- The marks from k on. -/
def ladI (k : Int) (n : Nat) : List Int := (List.range n).map fun (i : Nat) => k + (i : Int)
theorem ladI_len (k : Int) (n : Nat) : (ladI k n).length = n := by simp [ladI]
theorem ladI_get (k : Int) (n i : Nat) (h : i < n) : (ladI k n).getD i 0 = k + (i : Int) := by simp [ladI, List.getD, h]
set_option maxHeartbeats 1000000 in
theorem markI_any (w : World) (lo n c : Nat) (A : Option Addr) (l : List Int) (k : Int) (h : IRow w lo A l) (hl : l.length = n) (hn : n ≤ 1048576) (hk0 : 0 ≤ k) (hk : k ≤ 100000000) :
    Calls Tryd.prog 36 #[.slice A n c, .int .i64 k] w fun e w' => e = .returned (.int .i64 (k + (n : Int))) ∧ IRow w' lo A (ladI k n) ∧ ∃ row, w.grownBy w' row ∧ ∀ q, row = some q → A = some ⟨q, 0, none⟩ ∧ lo ≤ q := by
  rcases h with h0 | ⟨g, t, cs, rfl, hlo, hB, hcs⟩
  · obtain rfl : n = 0 := by omega
    clear hl h0
    go_enter Tryd.func36, Tryd.ntmps36
    go_wp2
    refine wp_loop_rounds 1 ?_
    rw [rounds_succ]
    go_wp2
    go_ret
    exact ⟨by simp, .inl rfl, none, only_refl _ _, fun q hq => by cases hq⟩
  · have HB := hide hB
    have HC := hide (show (∀ i, i < n → ∃ v, cs[i]? = some v) ∧ ∀ i, i < 0 → cs[i]? = some (.int .i64 (k + (i : Int))) from ⟨fun i hi => ⟨_, hcs i (by omega)⟩, fun i hi => by omega⟩)
    clear hB hcs hl
    go_enter Tryd.func36, Tryd.ntmps36
    go_wp2
    go_loopw [1, 5] (fun u i wr => ∃ (j : Nat) (cs' : Array Value), j ≤ n ∧ i = .int .i64 j ∧ u = .int .i64 (k + (j : Int)) ∧ Hid (Blk wr g t cs') ∧ Hid ((∀ i, i < n → ∃ v, cs'[i]? = some v) ∧ ∀ i, i < j → cs'[i]? = some (.int .i64 (k + (i : Int)))) ∧ w.grownBy wr (some g)) (fun _ i _ => n - (intOf i).toNat)
    case atStart => exact ⟨0, cs, by omega, rfl, by simp, HB, HC, only_refl _ _⟩
    case round =>
      obtain ⟨j, cs', hj, rfl, rfl, hB, hC, hG⟩ := hrel
      by_cases hlt : j < n
      · obtain ⟨v, hv⟩ := hC.out.1 j hlt
        have c0 := (hB.out.cell j).trans hv
        have f0 := hB.out.frozen j
        have hsz : j < cs'.size := by
          rcases Nat.lt_or_ge j cs'.size with h' | h'
          · exact h'
          · rw [Array.getElem?_eq_none h'] at hv; cases hv
        have B2 := hide (hB.out.set_ j (.int .i64 (k + (j : Int))))
        have G2 := hide (only_setCell hG (p := ⟨g, j, none⟩) (.inl rfl) (.int .i64 (k + (j : Int))))
        clear hv
        go_wp2
        go_roundw
        case rel =>
          refine ⟨j + 1, _, by omega, by go_num, by (congr 1; omega), B2, hide ⟨fun i hi => ?_, fun i hi => ?_⟩, G2.out⟩
          · by_cases e : i = j
            · subst e; exact ⟨.int .i64 (k + (i : Int)), by simp [hsz]⟩
            · obtain ⟨u, hu⟩ := hC.out.1 i hi
              exact ⟨u, by rw [Array.getElem?_setIfInBounds_ne (Ne.symm e)]; exact hu⟩
          · by_cases e : i = j
            · subst e; simp [hsz]
            · rw [Array.getElem?_setIfInBounds_ne (Ne.symm e)]
              exact hC.out.2 i (by omega)
        case measure => simp [intOf]; omega
      · obtain rfl : j = n := by omega
        go_wp2
        go_ret
        refine ⟨rfl, .inr ⟨g, t, cs', rfl, hlo, hB.out, fun i hi => ?_⟩, some g, hG, fun q hq => ?_⟩
        · rw [ladI_len] at hi
          rw [ladI_get k j i hi]
          exact hC.out.2 i hi
        · injection hq with hq
          subst hq
          exact ⟨rfl, hlo⟩
set_option maxHeartbeats 1000000 in
theorem heldI_any (w : World) (lo n c : Nat) (A : Option Addr) (k : Int) (h : IRow w lo A (ladI k n)) (hn : n ≤ 1048576) (hk0 : 0 ≤ k) (hk : k ≤ 100000000) :
    Calls Tryd.prog 37 #[.slice A n c, .int .i64 k] w fun e w' => e = .returned (.int .i64 (k + (n : Int))) ∧ w = w' := by
  rcases h.view with h0 | ⟨g, rfl, _, _, hc⟩
  · rw [ladI_len] at h0
    subst h0
    clear h
    go_enter Tryd.func37, Tryd.ntmps37
    go_wp2
    refine wp_loop_rounds 1 ?_
    rw [rounds_succ]
    go_wp2
    go_ret
    exact ⟨by simp, rfl⟩
  · have HC := hide (show ∀ j, j < n → w.cell? ⟨g, j, none⟩ = some (.int .i64 (k + (j : Int))) from fun j hj => by
      have := hc j (by rw [ladI_len]; exact hj)
      rwa [ladI_get k n j hj] at this)
    clear h hc
    go_enter Tryd.func37, Tryd.ntmps37
    go_wp2
    go_loopw [1, 5] (fun u i wr => ∃ j : Nat, j ≤ n ∧ i = .int .i64 j ∧ u = .int .i64 (k + (j : Int)) ∧ w = wr) (fun _ i _ => n - (intOf i).toNat)
    case atStart => exact ⟨0, by omega, rfl, by simp, rfl⟩
    case round =>
      obtain ⟨j, hj, rfl, rfl, rfl⟩ := hrel
      by_cases hlt : j < n
      · have c0 := HC.out j hlt
        have g0 : (k + (j : Int) != k + (j : Int)) = false := by simp
        go_wp2
        go_roundw
        case rel => exact ⟨j + 1, by omega, by go_num, by (congr 1; omega), trivial⟩
        case measure => simp [intOf]; omega
      · obtain rfl : j = n := by omega
        go_wp2
        go_ret
        exact ⟨rfl, rfl⟩
/-- A list's block, if it has elements, lies below hi. -/
def Top (A : Option Addr) (hi : Nat) (l : List Int) : Prop := l.length = 0 ∨ ∃ g, A = some ⟨g, 0, none⟩ ∧ g < hi
theorem IRow.top {w : World} {lo : Nat} {A : Option Addr} {l : List Int} (h : IRow w lo A l) : Top A w.heap.size l := h.imp id fun ⟨g, _, _, h1, _, h3, _⟩ => ⟨g, h1, h3.lt⟩
/-- What a mark leaves of another list. -/
theorem IRow.farT {w w' : World} {lo hi : Nat} {A : Option Addr} {l : List Int} {row : Option Nat} (h : IRow w lo A l) (ht : Top A hi l) (hg : w.grownBy w' row) (hq : ∀ q, row = some q → q < lo ∨ hi ≤ q) : IRow w' lo A l := by
  rcases h with h | ⟨g, t, cs, h1, h2, h3, h4⟩
  · exact .inl h
  · rcases ht with h0 | ⟨g', e, hlt⟩
    · exact .inl h0
    · refine .inr ⟨g, t, cs, h1, h2, h3.grown hg (fun e2 => ?_), h4⟩
      rw [h1] at e
      simp only [Option.some.injEq, Addr.mk.injEq, and_true] at e
      have := hq g e2.symm
      omega
end Go.Proofs.YtjdlffkbhaieaaaDoor
