/- What a step of the reader keeps; made rows and the reader. -/
import Derived.Test.YtakccgajnmkplaaRd
import Derived.Test.YtakccgajnmkplaaRg4
namespace Go.Proofs.Ytakccgajnmkplaa
open Go.RowKit

theorem gcells {W w' : World} {g : Nat} (hg : W.grownBy w' (some g)) : (∀ b o, b < W.heap.size → ¬ b = g → w'.cell? ⟨b, o, none⟩ = W.cell? ⟨b, o, none⟩) ∧ (∀ b o, b < W.heap.size → ¬ b = g → w'.frozen? ⟨b, o, none⟩ = W.frozen? ⟨b, o, none⟩) ∧ ∀ k, k < W.heap.size → k < w'.heap.size :=
  ⟨fun b o h hn => World.cell?_of_block (hg.block b h (fun e => hn (by injection e))), fun b o h hn => World.frozen?_of_block (hg.block b h (fun e => hn (by injection e))), fun _ hk => Nat.lt_of_lt_of_le hk hg.size⟩
/-- What is owned from base on is kept by a step of a reader that lies below base. -/
theorem own_rd {base : Nat} {e : TypeId} {k : Nat} {v : Value} {n : Nat} {xs : List Value} {w w' : World} {g : Nat} (h : w.ownsRow base e k v n xs) (hg : w.grownBy w' (some g)) (hlt : g < base) : w'.ownsRow base e k v n xs :=
  h.kept hg (by
    by_cases e : v.ownBlock = none
    · exact .inl e
    · refine .inr fun e' => ?_
      have := (h.lt g e').1
      omega)
/-- Bounded pairs. -/
def Bd (c : Int) (l : List R2) : Prop := ∀ r ∈ l, -c ≤ r.1 ∧ r.1 ≤ c ∧ -c ≤ r.2 ∧ r.2 ≤ c
/-- A drawn slice of pairs: made by the call, the reader goes on. -/
def DrawnP (E : TypeId) (base : Nat) (c : Int) (most : Nat) (B g m k : Nat) (w : World) (e : Ending) (w' : World) : Prop :=
  ∃ (b cap : Nat) (l : List R2), e = .returned (.slice (some ⟨b, 0, none⟩) l.length cap) ∧ w'.ownsRow base E 2 (.slice (some ⟨b, 0, none⟩) l.length cap) l.length (flatP l) ∧ l.length ≤ most ∧ Bd c l ∧ Rd B w' g (m + k) ∧ w.grownBy w' (some g)
theorem news2 (w : World) (x y : Value) (T : TypeId) : ∀ j u, [x, y][j]? = some u → (w.alloc (.cells #[x, y] T)).cell? ((⟨w.heap.size, 0, none⟩ : Addr).add j) = some u := by
  intro j u hj
  rcases j with _ | _ | j
  · simp at hj; subst hj; exact World.cell?_alloc_new w #[x, y] T 0
  · simp at hj; subst hj; exact World.cell?_alloc_new w #[x, y] T 1
  · simp at hj
theorem news2e (w : World) (x y : Value) (T : TypeId) (H : Nat) (e : w.heap.size = H) : ∀ j u, [x, y][j]? = some u → (w.alloc (.cells #[x, y] T)).cell? ((⟨H, 0, none⟩ : Addr).add j) = some u := by
  subst e
  exact news2 w x y T
theorem pair_one (a b : Int) : ∀ u ∈ [Value.int .i64 a, Value.int .i64 b], u.oneCell' = true := by
  intro u hu
  simp at hu
  rcases hu with rfl | rfl <;> rfl
theorem Bd.snoc {c a b : Int} {l : List R2} (h : Bd c l) (h1 : -c ≤ a ∧ a ≤ c ∧ -c ≤ b ∧ b ≤ c) : Bd c (l ++ [(a, b)]) := fun r hr => by
  rcases List.mem_append.1 hr with hr | hr
  · exact h r hr
  · simp at hr; subst hr; exact h1
theorem zeros_flat (m : Nat) : (Builtin.zeroCells (Value.agg #[.int .i64 0, .int .i64 0]).cells m).toList = flatP (List.replicate m (0, 0)) := by
  rw [← made_pairs]
  rfl
theorem zeros_one (m : Nat) : ∀ u ∈ (Builtin.zeroCells (Value.agg #[.int .i64 0, .int .i64 0]).cells m).toList, u.oneCell' = true := by
  rw [zeros_flat]
  exact flatP_one' _
end Go.Proofs.Ytakccgajnmkplaa
