/- slices.SortFunc at ranges: what the sorted row holds. -/
import Derived.Test.YtakccgajnmkplaaSh
import Derived.Test.YtakccgajnmkplaaJf3
import Derived.Lib.OwnBridge
namespace Go.Proofs.Ytakccgajnmkplaa
open Go.RowKit Go.Shelf Go.Lib Go.Sort

def encL (x : R2) : List Value := [.int .i64 x.1, .int .i64 x.2]
/-- Compared by their beginnings. -/
def cmpR (x y : R2) : Int := Lib.compareInt x.1 y.1
theorem cmpFn_any (x y : R2) (W : World) : Calls Try.prog 54 #[.agg #[.int .i64 x.1, .int .i64 x.2], .agg #[.int .i64 y.1, .int .i64 y.2]] W fun e w' => e = .returned (.int .i64 (cmpR x y)) ∧ ∃ q os', w' = grow (W.drewN q) os' := by
  have hcon : ∀ W', Calls Try.prog 55 #[.int .i64 x.1, .int .i64 y.1] W' fun e w' => e = .returned (.int .i64 (cmpR x y)) ∧ w' = W' := fun W' => Try.cmp_Compare_int x.1 y.1 W'
  generalize cmpR x y = r at hcon ⊢
  obtain ⟨x1, x2⟩ := x
  obtain ⟨y1, y2⟩ := y
  go_enter Try.func54, Try.ntmps54
  go_wp2_with fail
  refine (hcon _).mono ?_
  rintro e w' ⟨rfl, rfl⟩
  go_wp2_with fail
  go_ret
  exact ⟨rfl, 0, _, by rw [alloc_eq_grow, alloc_eq_grow, grow_grow]; rfl⟩
theorem ltR (x y : R2) : ltOf cmpR x y = decide (x.1 < y.1) := by
  unfold ltOf cmpR Lib.compareInt
  by_cases h : x.1 < y.1
  · simp [h]
  · simp [h]
    split <;> omega
theorem swoR : SWO (ltOf cmpR) := by
  refine ⟨fun x => ?_, fun x y z h1 h2 => ?_, fun x y z h1 h2 => ?_⟩
  · rw [ltR]; simp
  · rw [ltR] at *; simp at *; omega
  · rw [ltR] at *; simp at *; omega
theorem flat_get (d : Array R2) (j : Nat) (hj : j < d.size * 2) : (flatP d.toList)[j]? = some ((flatK encL 2 d)[j]!) := by
  rw [get_flatK encL 2 d j hj]
  have hq : j / 2 < d.toList.length := by simp; omega
  have hq2 : j / 2 < d.size := by omega
  have hg := flatP_get d.toList (j / 2) hq
  have e : d[j / 2]! = d.toList.getD (j / 2) (0, 0) := by
    rw [getElem!_pos d (j / 2) hq2, List.getD_eq_getElem?_getD, List.getElem?_eq_getElem hq]
    simp
  rw [e]
  rcases (show j % 2 = 0 ∨ j % 2 = 1 by omega) with h | h
  · have ej : j / 2 * 2 = j := by omega
    rw [ej] at hg
    rw [hg.1, h]
    rfl
  · have ej : j / 2 * 2 + 1 = j := by omega
    rw [ej] at hg
    rw [hg.2, h]
    rfl
theorem holdsK_own {W : World} {n0 g n cap : Nat} {e : TypeId} {l : List R2} (h : W.ownsRow n0 e 2 (.slice (some ⟨g, 0, none⟩) n cap) n (flatP l)) (hn : l.length = n) : HoldsK encL 2 W g 0 l.toArray := by
  intro j hj
  have hj2 : j < l.toArray.size * 2 := by simpa using hj
  refine ⟨?_, by rw [Nat.zero_add]; exact h.frozenAt j⟩
  rw [Nat.zero_add, h.cellAt j (by simp at hj2; omega)]
  exact flat_get l.toArray j hj2
theorem prs_holds {W : World} {B g : Nat} {d : Array R2} (h : HoldsK encL 2 W g 0 d) (hg : g < B) : Prs B W (some ⟨g, 0, none⟩) d.toList := by
  intro _
  refine ⟨g, 0, rfl, hg, fun i hi => ?_⟩
  have hi2 : i < d.size := by simpa using hi
  have hq := flatP_get d.toList i hi
  have h0 := (h (i * 2) (by simp; omega)).1
  have h1 := (h (i * 2 + 1) (by simp; omega)).1
  have f0 := flat_get d (i * 2) (by omega)
  have f1 := flat_get d (i * 2 + 1) (by omega)
  rw [hq.1] at f0
  rw [hq.2] at f1
  injection f0 with f0
  injection f1 with f1
  rw [← f0] at h0
  rw [← f1] at h1
  exact ⟨h0, h1⟩
/-- A sort's world keeps what lay below its row. -/
theorem sortW_below {w : World} {n0 g n : Nat} (d : Array R2) (os : Array Obj) (h0 : n0 ≤ g) (hg : g < w.heap.size) : Below n0 w (sortWorldK encL 2 w g 0 n d os) := by
  have h1 : Below n0 w (putRowK encL 2 (Sort.ahead w n) g 0 d) := Lib.below_putRow (Below.refl _ _) h0
  refine h1.trans ⟨rfl, rfl, rfl, by unfold sortWorldK; rw [size_grow]; omega, fun k hk => heap_grow_old _ os (by have := h1.size; omega)⟩
theorem sortW_holds {w : World} {g n : Nat} {d0 d : Array R2} (os : Array Obj) (h : HoldsK encL 2 w g 0 d0) (hs : d.size = d0.size) (hg : g < w.heap.size) : HoldsK encL 2 (sortWorldK encL 2 w g 0 n d os) g 0 d :=
  holds_grow id _ os g 0 _ (by show g < (putRow id (Sort.ahead w n) g 0 _).heap.size; rw [size_putRow]; exact hg) (holdsK_putRowK encL 2 (Sort.ahead w n) g 0 d0 d h hs)
end Go.Proofs.Ytakccgajnmkplaa
