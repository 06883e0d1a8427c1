/- Draws: a year; the arguments of an n-th day. -/
import Derived.Test.YtinemkjoohgmjaaDoorDrEa
namespace Go.Proofs.YtinemkjoohgmjaaDoor
open Go.RowKit

/-- What a draw of one number by a reader leaves. -/
def DrawnInt (lo hi : Int) (B g m k : Nat) (w : World) (e : Ending) (w' : World) : Prop :=
  ∃ v : Int, lo ≤ v ∧ v ≤ hi ∧ e = .returned (.int .i64 v) ∧ Rd B w' g (m + k) ∧ w.grownBy w' (some g)

theorem gcell {W w' : World} {g : Nat} (hg : W.grownBy w' (some g)) : (∀ b o, b < W.heap.size → ¬ b = g → w'.cell? ⟨b, o, none⟩ = W.cell? ⟨b, o, none⟩) ∧ (∀ b o, b < W.heap.size → ¬ b = g → w'.frozen? ⟨b, o, none⟩ = W.frozen? ⟨b, o, none⟩) ∧ ∀ k, k < W.heap.size → k < w'.heap.size :=
  ⟨fun b o h hn => World.cell?_of_block (hg.block b h (fun e => hn (by injection e))), fun b o h hn => World.frozen?_of_block (hg.block b h (fun e => hn (by injection e))), fun _ hk => Nat.lt_of_lt_of_le hk hg.size⟩

/-- A cell of a list of numbers that lies in a block of its own. -/
theorem int_at {w : World} {b : Nat} {t : TypeId} {l : List Int} (h : Blk w b t (l.map (Value.int .i64)).toArray) (i : Nat) (hi : i < l.length) : w.cell? ⟨b, i, none⟩ = some (.int .i64 (l.getD i 0)) := by
  rw [h.cell i]
  simp [List.getD, hi]

theorem l91Year_any {B g m : Nat} {w : World} (hr : Rd B w g m) (hm : m ≤ 100000) :
    Calls Tryd.prog 85 #[.pointer (some ⟨g, 0, none⟩)] w (DrawnInt (-1) 10000 B g m 2 w) := by
  have hgl := hr.lt
  go_enter Tryd.func85, Tryd.ntmps85
  go_wp2_with fail
  refine (pick_any hr (by omega) (by omega)).mono ?_
  rintro e w1 ⟨v1, a1, b1, rfl, hr1, hg1⟩
  have hgl1 := hr1.lt
  by_cases h0 : v1 = 0
  · subst h0
    go_wp2_with fail
    refine (pick_any (hr1.alloc _) (by omega) (by omega)).mono ?_
    rintro e w2 ⟨v2, a2, b2, rfl, hr2, hg2⟩
    have hbl := (Blk.new w1 3 #[Value.int .i64 1, .int .i64 2, .int .i64 3, .int .i64 4, .int .i64 9998, .int .i64 9999]).grown' hg2 (by omega)
    have c0 := hbl.cell 0
    have c1 := hbl.cell 1
    have c2 := hbl.cell 2
    have c3 := hbl.cell 3
    have c4 := hbl.cell 4
    have c5 := hbl.cell 5
    simp at c0 c1 c2 c3 c4 c5
    have hv : v2 = 0 ∨ v2 = 1 ∨ v2 = 2 ∨ v2 = 3 ∨ v2 = 4 ∨ v2 = 5 := by omega
    have G2 := only_trans (only_alloc hg1 _) hg2
    rcases hv with rfl | rfl | rfl | rfl | rfl | rfl
    all_goals
      go_wp2_with fail
      go_ret
      exact ⟨_, by omega, by omega, rfl, hr2, G2⟩
  by_cases h1 : v1 = 1
  · subst h1
    go_wp2_with fail
    refine (pick_any (hr1.alloc _) (by omega) (by omega)).mono ?_
    rintro e w2 ⟨v2, a2, b2, rfl, hr2, hg2⟩
    have hbl := (Blk.new w1 3 #[Value.int .i64 0, .int .i64 (-1), .int .i64 1, .int .i64 9999, .int .i64 10000]).grown' hg2 (by omega)
    have c0 := hbl.cell 0
    have c1 := hbl.cell 1
    have c2 := hbl.cell 2
    have c3 := hbl.cell 3
    have c4 := hbl.cell 4
    simp at c0 c1 c2 c3 c4
    have hv : v2 = 0 ∨ v2 = 1 ∨ v2 = 2 ∨ v2 = 3 ∨ v2 = 4 := by omega
    have G2 := only_trans (only_alloc hg1 _) hg2
    rcases hv with rfl | rfl | rfl | rfl | rfl
    all_goals
      go_wp2_with fail
      go_ret
      exact ⟨_, by omega, by omega, rfl, hr2, G2⟩
  by_cases h2 : v1 = 2
  · subst h2
    go_wp2_with fail
    refine (pick_any hr1 (by omega) (by omega)).mono ?_
    rintro e w2 ⟨v2, a2, b2, rfl, hr2, hg2⟩
    go_wp2_with fail
    go_ret
    exact ⟨_, by omega, by omega, rfl, hr2, only_trans hg1 hg2⟩
  · have g0 : (v1 == 0) = false := by simpa using h0
    have g1 : (v1 == 1) = false := by simpa using h1
    have g2 : (v1 == 2) = false := by simpa using h2
    go_wp2_with fail
    refine (pick_any hr1 (by omega) (by omega)).mono ?_
    rintro e w2 ⟨v2, a2, b2, rfl, hr2, hg2⟩
    go_wp2_with fail
    go_ret
    exact ⟨_, by omega, by omega, rfl, hr2, only_trans hg1 hg2⟩
end Go.Proofs.YtinemkjoohgmjaaDoor
