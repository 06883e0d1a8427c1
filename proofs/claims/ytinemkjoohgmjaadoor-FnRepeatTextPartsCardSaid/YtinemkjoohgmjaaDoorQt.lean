/- Regions that draw their order: each operation yields one value in whatever world that keeps what lay below. -/
import Derived.Test.YtinemkjoohgmjaaDoorBase
namespace Go.Proofs.YtinemkjoohgmjaaDoor
open Go.RowKit

/-- A yes or no, and what lay below as it was. -/
def RetB (b : Bool) (w : World) (e : Ending) (w' : World) : Prop := e = .returned (.bool b) ∧ Below w.heap.size w w'

/-- A world that is as W was below W's end. -/
structure Lt (W : World) where
  w : World
  h : Below W.heap.size W w
instance (W : World) : Nonempty (Lt W) := ⟨⟨W, Below.refl _ _⟩⟩
section
variable {P : Program} {W : World}
theorem lt_cell (x : Lt W) (b o : Nat) (hb : b < W.heap.size) : x.w.cell? ⟨b, o, none⟩ = W.cell? ⟨b, o, none⟩ := x.h.cell (p := ⟨b, o, none⟩) hb
theorem region_below {id : Nat} {Q : Exit → Act → World → Prop} {a : Act} {l : List Oper} (hm : P.follows .mixedOrders = true) (hB : Region.lexB .any l.toArray = true)
    (h : wpQuiet P l.toArray (fun w' => ∃ x : Lt W, w' = x.w) (fun a' => ∀ w', (∃ x : Lt W, w' = x.w) → Q .normal a' w') l a) : (Code.region id l.toArray true).wp P Q a W :=
  wp_region_quiet (C := fun w' => ∃ x : Lt W, w' = x.w) hm hB ⟨⟨W.drew, bdrew (Below.refl _ _)⟩, rfl⟩ (by simpa using h)
theorem lt_call {f : FuncId} {args : Array Value} {v : Value} {x : Lt W} (h : Calls P f args x.w fun e w' => e = .returned v ∧ Below x.w.heap.size x.w w') :
    Calls P f args x.w fun e w'' => e = .returned v ∧ ∃ y : Lt W, w'' = y.w :=
  h.mono fun _ _ ⟨he, hb⟩ => ⟨he, ⟨_, bto x.h hb⟩, rfl⟩
theorem lt_same {f : FuncId} {args : Array Value} {v : Value} {x : Lt W} (h : Calls P f args x.w fun e w' => e = .returned v ∧ x.w = w') :
    Calls P f args x.w fun e w'' => e = .returned v ∧ ∃ y : Lt W, w'' = y.w :=
  h.mono fun _ _ ⟨he, hb⟩ => ⟨he, x, hb.symm⟩
end
theorem upto {p : Nat → Prop} {k : Nat} (h : ∀ j, j < k → p j) (hk : p k) : ∀ j, j < k + 1 → p j := fun j hj => by
  rcases (show j < k ∨ j = k by omega) with h' | rfl
  · exact h j h'
  · exact hk
end Go.Proofs.YtinemkjoohgmjaaDoor
