/- Contracts: instants, rounding (the reference's). -/
import Derived.Test.YtinemkjoohgmjaaDoorSt3
import Derived.Test.YtinemkjoohgmjaaDoorRoPl
namespace Go.Proofs.YtinemkjoohgmjaaDoor
open Go.RowKit
attribute [local go_sem] lt_cell

/-- The instant of a valid stamp (the reference's). -/
theorem spec_l12i (x : S8) (w : World) (hok : x.ok = true) :
    Calls Tryd.prog 41 #[.agg x.v] w fun e w' => e = .returned (.int .i64 x.ins) ∧ Below w.heap.size w w' := by
  obtain ⟨y, mo, d, h, mi, s, ms, o⟩ := x
  have h1 : vld y mo d = true := (S8.ok_in hok).1
  have h2 : cvB h mi s ms = true := (S8.ok_in hok).2.1
  have h3 : offB o = true := (S8.ok_in hok).2.2
  have hn := num_bd h1
  have hc := cvB_bd h2
  have ho := offB_iff.1 h3
  obtain ⟨n, en⟩ : ∃ n, n = num y mo d := ⟨_, rfl⟩
  obtain ⟨c, ec⟩ : ∃ c, c = cms h mi s ms := ⟨_, rfl⟩
  have hD : ∀ W : World, Calls Tryd.prog 68 #[.agg #[.int .i64 y, .int .i64 mo, .int .i64 d]] W fun e w' => e = .returned (.int .i64 n) ∧ Below W.heap.size W w' := fun W => by
    rw [en, ← dnum_yes h1]; exact spec_dayNumber y mo d W
  have hC : ∀ W : World, Calls Tryd.prog 69 #[.agg #[.int .i64 h, .int .i64 mi, .int .i64 s, .int .i64 ms]] W fun e w' => e = .returned (.int .i64 c) ∧ Below W.heap.size W w' := fun W => by
    have := spec_cm h mi s ms W
    rw [show cmV h mi s ms = c by unfold cmV; rw [h2, ec]; rfl] at this
    exact this
  have HI := hide (show n * 86400000 + c - 60000 * o = S8.ins ⟨y, mo, d, h, mi, s, ms, o⟩ by rw [en, ec]; rfl)
  rw [← en] at hn
  obtain ⟨_, _, _, _, _, _, _, _, hc0, hc1⟩ := hc
  rw [← ec] at hc0 hc1
  clear en ec h1 h2 h3 hok
  have e1 : IntKind.i64.wrap (n * 86400000) = n * 86400000 := IntWalk.i64_in _ (by omega)
  have e2 : IntKind.i64.wrap (n * 86400000 + c) = n * 86400000 + c := IntWalk.i64_in _ (by omega)
  have e3 : IntKind.i64.wrap (60000 * o) = 60000 * o := IntWalk.i64_in _ (by omega)
  have e4 : IntKind.i64.wrap (n * 86400000 + c - 60000 * o) = n * 86400000 + c - 60000 * o := IntWalk.i64_in _ (by omega)
  have B0 := bal (Below.refl w.heap.size w) (.cells #[.int .i64 y, .int .i64 mo, .int .i64 d, .int .i64 h, .int .i64 mi, .int .i64 s, .int .i64 ms, .int .i64 o] 28)
  simp only [S8.v]
  go_enter Tryd.func41, Tryd.ntmps41
  go_wp2_with fail
  refine region_below (by kernel_rfl) (by kernel_rfl) ?_
  repeat (go_big_quiet_step (first | (go_at_call 68; exact lt_call (hD _)) | (go_at_call 69; exact lt_call (hC _))))
  refine wpQuiet_nil ?_
  rintro wq ⟨⟨_, hq⟩, rfl⟩
  go_wp2
  go_ret
  exact ⟨ret_int (by first | exact HI.out | (rw [e1, e2, e3, e4]; exact HI.out)), bto B0 hq⟩

end Go.Proofs.YtinemkjoohgmjaaDoor
