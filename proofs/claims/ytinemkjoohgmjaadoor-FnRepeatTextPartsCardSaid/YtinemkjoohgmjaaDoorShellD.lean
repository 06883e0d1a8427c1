/- What the statements' frames share at a door seat: the table of months, as the row lists it. -/
import Derived.Test.YtinemkjoohgmjaaDoorShell
import Derived.Test.YtinemkjoohgmjaaDoorDt
import Derived.LaidMore
import Derived.LaidOnce
import Derived.ChangeVars
import Derived.Stop.Joined
import Derived.Lib.LaidTab
namespace Go.Proofs.YtinemkjoohgmjaaDoor
open Go.ChangeShapes Go.WideShapes Go.ChangeAt Go.RowKit

theorem gMd : Tryd.prog.globalNamed "loop.example/datenotation/impl.monthDays" = some 0 := by kernel_rfl
theorem tMd : (Tryd.prog.globals[0]?).map (·.type) = some 131 := by kernel_rfl
def mdList : List Int := [31, 28, 31, 30, 31, 30, 31, 31, 30, 31, 30, 31]
def mdCells : Array Value := (mdList.map fun z => Value.int .i64 z).toArray
theorem tab_of_laid {W : World} (h : laidMetH Tryd.prog [("loop.example/datenotation/impl.monthDays", Rows.laid_loop_example_datenotation_impl_monthDays)] W) : Lib.TabIs Tryd.prog W "loop.example/datenotation/impl.monthDays" .i64 mdList := by
  rw [MakeChecks.laidMetH_plain _ _ _ (by kernel_rfl)] at h
  exact Lib.tabIs_of_head gMd tMd Tryd.underlying131 Tryd.underlying3 (by kernel_rfl) (by kernel_rfl) (show laidMet Tryd.prog [("loop.example/datenotation/impl.monthDays", Lib.tabData .i64 mdList)] W from h)
theorem md_of_laid {W : World} (h : laidMetH Tryd.prog [("loop.example/datenotation/impl.monthDays", Rows.laid_loop_example_datenotation_impl_monthDays)] W) : MD W := fun i hi => (tab_of_laid h).cell gMd i hi

section
variable {H : Type} {enc : TypeId × Value → H}
set_option maxRecDepth 100000 in
theorem reads_md (W : World) (sp : Nat → Bool) (n : Nat) : DataW.trod enc Tryd.prog W 0 sp true (n + 2) 131 mdCells.toList = some (Lib.tabData .i64 mdList, []) := by kernel_rfl
set_option maxRecDepth 100000 in
theorem reads_md0 (W : World) (sp : Nat → Bool) : DataW.trod enc Tryd.prog W 0 sp true 0 131 mdCells.toList = none := by kernel_rfl
set_option maxRecDepth 100000 in
theorem reads_md1 (W : World) (sp : Nat → Bool) : DataW.trod enc Tryd.prog W 0 sp true 1 131 mdCells.toList = none := by kernel_rfl
theorem md_var_below {P : Program} {w w' : World} {n : String} {g B : Nat} {cs : Array Value} (h : w.var? P n = some cs) (hg : P.globalNamed n = some g) (hb : Below B w w') (hlt : g < B) : w'.var? P n = some cs := by
  unfold World.var? at h ⊢
  rw [hg] at h ⊢
  simp only [Option.bind_some] at h ⊢
  rw [hb.block g hlt]
  exact h
set_option maxRecDepth 100000 in
theorem vars_md {W : World} {spare : Nat → Bool} {gs : List (DataW H)} {q : List MemPlace} (hL : laidMetH Tryd.prog [("loop.example/datenotation/impl.monthDays", Rows.laid_loop_example_datenotation_impl_monthDays)] W) (hV : DataW.TrodVars enc Tryd.prog W spare ["loop.example/datenotation/impl.monthDays"] gs q) :
    ∃ (gd : DataW H) (pv : List MemPlace), gs = [gd] ∧ ∀ (W' : World), Below W.heap.size W W' → ∀ sp : Nat → Bool, DataW.TrodVars enc Tryd.prog W' sp ["loop.example/datenotation/impl.monthDays"] [gd] pv := by
  have hvar : W.var? Tryd.prog "loop.example/datenotation/impl.monthDays" = some mdCells := tab_of_laid hL
  have hlt := (md_of_laid hL).lt
  obtain ⟨g, t, cs, fuel, d, p, rfl, h1, h2, h3, h4, _⟩ := trodVars_one hV
  obtain rfl := Option.some.inj (gMd.symm.trans h1)
  obtain rfl := Option.some.inj (tMd.symm.trans h2)
  rw [hvar] at h3
  obtain rfl := Option.some.inj h3
  have hd : (d, p) = (Lib.tabData .i64 mdList, []) := by
    match fuel, h4 with
    | 0, h4 => rw [reads_md0] at h4; cases h4
    | 1, h4 => rw [reads_md1] at h4; cases h4
    | n + 2, h4 => rw [reads_md] at h4; exact (Option.some.inj h4).symm
  obtain ⟨rfl, rfl⟩ := Prod.mk.inj hd
  exact ⟨_, _, rfl, fun W' bel sp => trodVars_mk1 h1 h2 (md_var_below hvar h1 bel hlt) (reads_md W' sp 0)⟩
end
end Go.Proofs.YtinemkjoohgmjaaDoor
