/- slices.Values at ranges: the call, and the iterator's contract. -/
import Derived.RangeFuncNested
import Derived.RangeFuncBound
import Derived.RangeFuncCalls
import Derived.RangeFuncLeaves
import Derived.Shelf.Abstract
import Derived.Shelf.RegionOpen
import Derived.WalkKit
import Derived.OwnWalkIn
import Derived.TacticsInMore
import Derived.LoopNIn
import Derived.LoopIn
import Derived.Test.YtakccgajnmkplaaJf1
import Derived.Test.YtakccgajnmkplaaCh2
namespace Go.Proofs.Ytakccgajnmkplaa
open Go.RowKit Go.Shelf

abbrev encR (x : R2) : Array Value := #[.agg #[.int .i64 x.1, .int .i64 x.2]]
theorem values_any (v : Value) (A : Option Addr) (len cap : Nat) (w : World) (hv : v = .slice A len cap) :
    Calls Try.prog 53 #[v] w fun e w' => e = .returned (.func (.func 68) #[] #[.pointer (some ⟨w.heap.size, 0, none⟩)]) ∧ w'.cell? ⟨w.heap.size, 0, none⟩ = some (.slice A len cap) ∧ w.heap.size < w'.heap.size ∧ Below w.heap.size w w' := by
  subst hv
  have hmf : ∀ (fn : Fn) (first cap : Array Value) (w : World), (Instr.makeFunc fn first cap).run Try.prog w = .ok (.func fn first cap) w := fun _ _ _ _ => rfl
  go_enter Try.func53, Try.ntmps53
  go_wp2_with fail
  go_ret
  exact ⟨rfl, by simp, by simp, bal (Below.refl _ _) _⟩
section
attribute [local go_sem] Oper.semAt_some
set_option maxRecDepth 100000 in
set_option maxHeartbeats 4000000 in
theorem values_stops (n : Nat) (hn : 2 ≤ n) (l : List R2) (len cap b B : Nat) (A : Option Addr) (w : World) (hl : l.length = len) (hP : Prs B w A l) (hB : B ≤ w.heap.size) (hm : len ≤ 1000) (hb : w.cell? ⟨b, 0, none⟩ = some (.slice A len cap)) :
    SeqStopsK Fence.wide n Try.prog 68 #[.pointer (some ⟨b, 0, none⟩)] encR (Below w.heap.size) (fun ys => ys = l) (fun pre => pre <+: l) len w := fun fn0 J Jx W hW hJ _ hY h0 => by
  have hJa : ∀ pre A B, J pre A → A.grownBy B none → J pre B := fun pre A B hA hg => hJ pre A B none hA hg (fun r e => by cases e)
  have hbl := World.block_lt_of_cell? w _ hb
  have hb0 : W.cell? ⟨b, 0, none⟩ = some (.slice A len cap) := (hW.cell (p := ⟨b, 0, none⟩) hbl).trans hb
  have HL := hide hl
  have HW := hide hW
  rcases hP.view' with hz | ⟨b1, o1, rfl, hbB, hc⟩
  · obtain rfl : len = 0 := by omega
    obtain rfl : l = [] := List.length_eq_zero_iff.1 hz
    clear hl hz hP hb hJ hbl
    refine callsIn_of_wp Try.func68 rfl trivial ?_ rfl
    simp only [Try.ntmps68, List.size_toArray, List.length_cons, List.length_nil, Nat.reduceAdd, Nat.reduceSub, Array.replicate_succ, Array.replicate_zero, List.push_toArray, List.append_toArray, List.nil_append, List.cons_append]
    gi_wp2
    gi_loopw [7] (fun i wr => i = .int .i64 0 ∧ J [] wr) (fun _ _ => 0)
    case atStart => exact ⟨rfl, h0⟩
    case round =>
      obtain ⟨rfl, hJs⟩ := hrel
      gi_wp2
      go_end0
      exact ⟨⟨_, rfl⟩, .inl ⟨[], rfl, hJs⟩⟩
  · have HC := hide hc
    clear hc hP hl hb hJ hbl
    refine callsIn_of_wp Try.func68 rfl trivial ?_ rfl
    simp only [Try.ntmps68, List.size_toArray, List.length_cons, List.length_nil, Nat.reduceAdd, Nat.reduceSub, Array.replicate_succ, Array.replicate_zero, List.push_toArray, List.append_toArray, List.nil_append, List.cons_append]
    gi_wp2
    gi_loopw [7] (fun i wr => ∃ k : Nat, k ≤ len ∧ i = .int .i64 k ∧ J (l.take k) wr ∧ Hid (Below w.heap.size w wr)) (fun i _ => len - (intOf i).toNat)
    case atStart => exact ⟨0, by omega, rfl, h0, HW⟩
    case round =>
      obtain ⟨k, hk, rfl, hJs, hBr⟩ := hrel
      by_cases hlt : k < len
      · obtain ⟨x, y, hxy⟩ := pair_ex l k
        have c0 := (hBr.out.cell (p := ⟨b1, o1 + k * 2, none⟩) (show b1 < w.heap.size by omega)).trans (HC.out k (by rw [HL.out]; omega)).1
        have c1 := (hBr.out.cell (p := ⟨b1, o1 + k * 2 + 1, none⟩) (show b1 < w.heap.size by omega)).trans (HC.out k (by rw [HL.out]; omega)).2
        rw [hxy] at c0 c1
        have HT := hide (take_snoc (by rw [HL.out]; exact hlt) hxy)
        have hJ3 : J (l.take k) (wr.alloc (.cells #[.int .i64 x, .int .i64 y] 36)) := hJa _ wr _ hJs (only_alloc (only_refl wr none) _)
        have hB3 := hide (hBr.out.alloc hBr.out.size (.cells #[.int .i64 x, .int .i64 y] 36))
        obtain ⟨fn, tmps, assign, body, hy, hR⟩ := hY (l.take k) (x, y) _ hJ3 (by rw [List.length_take, HL.out]; omega)
        simp only [encR] at hy
        clear hY hJs
        gi_wp2
        refine ⟨fun _ => by omega, ?_⟩
        refine hR.mono ?_
        rintro e W3 (⟨rfl, hJ4, hk4⟩ | ⟨rfl, hJx4⟩)
        · gi_wp2
          go_roundw
          case rel => exact ⟨k + 1, by omega, by simp, by rw [HT.out]; exact hJ4, hide (hB3.out.trans hk4)⟩
          case measure => simp [intOf]; omega
        · gi_wp2
          refine bodyPost_ret (results_none rfl _ _ _) rfl ?_
          exact ⟨⟨_, rfl⟩, .inr ⟨l.take k ++ [(x, y)], by rw [← HT.out]; exact List.take_prefix _ _, hJx4⟩⟩
      · obtain rfl : k = len := by omega
        gi_wp2
        go_end0
        exact ⟨⟨_, rfl⟩, .inl ⟨l.take k, by rw [List.take_of_length_le (by rw [HL.out]; omega)], hJs⟩⟩
end
end Go.Proofs.Ytakccgajnmkplaa
