/- The times of a repeat: the program's iterator. -/
import Derived.RangeFuncNested
import Derived.RangeFuncBound
import Derived.RangeFuncCalls
import Derived.RangeFuncLeaves
import Derived.Shelf.Abstract
import Derived.Shelf.RegionOpen
import Derived.WalkKit
import Derived.OwnWalkIn
import Derived.TacticsInMore
import Derived.LoopNIn
import Derived.LoopIn
import Derived.Test.YtaagomchjklgaaaDoorRn1
namespace Go.Proofs.YtaagomchjklgaaaDoor
open Go.RowKit Go.Shelf

/-- A time: its number, its stamp. -/
abbrev Tm := { p : Int × S8 // p.2.ok = true }
abbrev encT (x : Tm) : Array Value := #[.int .i64 x.1.1, .agg x.1.2.v]
/-- The times from the k-th on, r rounds left, up to the first one that there is not. -/
def tms (f : Nat → S8 × Bool) (hf : ∀ k, (f k).2 = true → (f k).1.ok = true) : Nat → Nat → List Tm
  | _, 0 => []
  | k, r + 1 => if h : (f k).2 = true then ⟨((k : Int), (f k).1), hf k h⟩ :: tms f hf (k + 1) r else []
section
variable {f : Nat → S8 × Bool} {hf : ∀ k, (f k).2 = true → (f k).1.ok = true} {ix : Int}
theorem tms_no {k r : Nat} (h : (f k).2 = false) : tms f hf k (r + 1) = [] := by simp [tms, h]
theorem tms_yes {k r : Nat} (h : (f k).2 = true) : tms f hf k (r + 1) = ⟨((k : Int), (f k).1), hf k h⟩ :: tms f hf (k + 1) r := by simp [tms, h]
theorem tms_len (k r : Nat) : (tms f hf k r).length ≤ r := by
  induction r generalizing k with
  | zero => simp [tms]
  | succ r ih =>
    cases h : (f k).2 with
    | false => rw [tms_no h]; simp
    | true => rw [tms_yes h]; simp only [List.length_cons]; have := ih (k + 1); omega
theorem nx_all {k r : Nat} (h : ∀ z ∈ tms f hf k r, ¬ ix < z.1.2.ins) : nxF f ix k r = (0, false) := by
  induction r generalizing k with
  | zero => rfl
  | succ r ih =>
    cases e : (f k).2 with
    | false => exact nx_stop e
    | true =>
      rw [tms_yes e] at h
      rw [nx_on e (show ¬ ix < (f k).1.ins from h ⟨((k : Int), (f k).1), hf k e⟩ List.mem_cons_self)]
      exact ih fun z hz => h z (List.mem_cons_of_mem _ hz)
theorem nx_first {pre : List Tm} {z : Tm} {k r : Nat} (hp : pre ++ [z] <+: tms f hf k r) (h : ∀ z ∈ pre, ¬ ix < z.1.2.ins) (h2 : ix < z.1.2.ins) : nxF f ix k r = (z.1.1, true) := by
  induction r generalizing k pre with
  | zero => exact absurd hp.length_le (by show ¬ (pre ++ [z]).length ≤ 0; simp)
  | succ r ih =>
    cases e : (f k).2 with
    | false => rw [tms_no e] at hp; exact absurd hp.length_le (by show ¬ (pre ++ [z]).length ≤ 0; simp)
    | true =>
      rw [tms_yes e] at hp
      cases pre with
      | nil =>
        obtain ⟨rfl, _⟩ := List.cons_prefix_cons.1 hp
        exact nx_hit e (show ix < (f k).1.ins from h2)
      | cons q pre =>
        obtain ⟨rfl, hp2⟩ := List.cons_prefix_cons.1 hp
        rw [nx_on e (show ¬ ix < (f k).1.ins from h ⟨((k : Int), (f k).1), hf k e⟩ List.mem_cons_self)]
        exact ih hp2 fun z hz => h z (List.mem_cons_of_mem _ hz)
end
theorem raT (x : S8) (p1 p2 p3 p4 p5 p6 t : Int) : ∀ k : Nat, (raP x p1 p2 p3 p4 p5 p6 t k).2 = true → (raP x p1 p2 p3 p4 p5 p6 t k).1.ok = true := fun k h =>
  (raP_ok (x := x) (out := (raP x p1 p2 p3 p4 p5 p6 t k).1) (p1 := p1) (p2 := p2) (p3 := p3) (p4 := p4) (p5 := p5) (p6 := p6) (t := t) (k := k) (Prod.ext rfl h)).1
theorem all_any (y mo d h mi s ms o p1 p2 p3 p4 p5 p6 t : Int) (w : World) :
    Calls Tryd.prog 30 #[.agg #[.int .i64 y, .int .i64 mo, .int .i64 d, .int .i64 h, .int .i64 mi, .int .i64 s, .int .i64 ms, .int .i64 o, .int .i64 p1, .int .i64 p2, .int .i64 p3, .int .i64 p4, .int .i64 p5, .int .i64 p6, .int .i64 t]] w fun e w' => e = .returned (.func (.func 57) #[] #[.pointer (some ⟨w.heap.size, 0, none⟩)]) ∧ Blk w' w.heap.size 40 #[.int .i64 y, .int .i64 mo, .int .i64 d, .int .i64 h, .int .i64 mi, .int .i64 s, .int .i64 ms, .int .i64 o, .int .i64 p1, .int .i64 p2, .int .i64 p3, .int .i64 p4, .int .i64 p5, .int .i64 p6, .int .i64 t] ∧ Below w.heap.size w w' := by
  have hmf : ∀ (fn : Fn) (first cap : Array Value) (w : World), (Instr.makeFunc fn first cap).run Tryd.prog w = .ok (.func fn first cap) w := fun _ _ _ _ => rfl
  go_enter Tryd.func30, Tryd.ntmps30
  go_wp2_with fail
  go_ret
  exact ⟨rfl, Blk.new _ _ _, (by repeat' (first | (with_reducible exact Below.refl _ _) | (with_reducible assumption) | (with_reducible refine bal ?_ _) | (with_reducible refine bdrewN ?_ _) | (with_reducible refine bdrew ?_) | (with_reducible refine bset ?_ ?_ _) | (with_reducible refine brow ?_ ?_ _) | omega | (simp; done) | (simp; omega)))⟩
section
attribute [local go_sem] Oper.semAt_some
attribute [local go_sem ↓] loadR_eq
set_option maxRecDepth 100000 in
set_option maxHeartbeats 4000000 in
theorem all_stops (n : Nat) (hn : 3 ≤ n) (y mo d h mi s ms o p1 p2 p3 p4 p5 p6 t : Int) (T b : Nat) (w : World) (hv : rpB ⟨y, mo, d, h, mi, s, ms, o⟩ p1 p2 p3 p4 p5 p6 t = true) (hT : t = (T : Int)) (hb : Blk w b 40 #[.int .i64 y, .int .i64 mo, .int .i64 d, .int .i64 h, .int .i64 mi, .int .i64 s, .int .i64 ms, .int .i64 o, .int .i64 p1, .int .i64 p2, .int .i64 p3, .int .i64 p4, .int .i64 p5, .int .i64 p6, .int .i64 t]) (hM : MD w) :
    SeqStopsK Fence.wide n Tryd.prog 57 #[.pointer (some ⟨b, 0, none⟩)] encT (Below w.heap.size) (fun ys => ys = tms (fun k => raP ⟨y, mo, d, h, mi, s, ms, o⟩ p1 p2 p3 p4 p5 p6 t k) (raT ⟨y, mo, d, h, mi, s, ms, o⟩ p1 p2 p3 p4 p5 p6 t) 0 (T + 1)) (fun pre => pre <+: tms (fun k => raP ⟨y, mo, d, h, mi, s, ms, o⟩ p1 p2 p3 p4 p5 p6 t k) (raT ⟨y, mo, d, h, mi, s, ms, o⟩ p1 p2 p3 p4 p5 p6 t) 0 (T + 1)) (T + 1) w := fun l J Jx W hW hJ _ hY h0 => by
  have hJa : ∀ pre A B, J pre A → A.grownBy B none → J pre B := fun pre A B hA hg => hJ pre A B none hA hg (fun r e => by cases e)
  have ht := (rpB_iff.1 hv).2.2.2.2
  have hT99 : T ≤ 99 := by omega
  have hA : ∀ (k : Nat) W, MD W → k ≤ T → Calls Tryd.prog 34 #[.agg #[.int .i64 y, .int .i64 mo, .int .i64 d, .int .i64 h, .int .i64 mi, .int .i64 s, .int .i64 ms, .int .i64 o, .int .i64 p1, .int .i64 p2, .int .i64 p3, .int .i64 p4, .int .i64 p5, .int .i64 p6, .int .i64 t], .int .i64 k] W (RetS (raP ⟨y, mo, d, h, mi, s, ms, o⟩ p1 p2 p3 p4 p5 p6 t k) W) := fun k W hW hk => by
    rw [raP_st hv (show 0 ≤ (k : Int) ∧ (k : Int) ≤ t by omega)]
    exact impl_at y mo d h mi s ms o p1 p2 p3 p4 p5 p6 t k (k * p1) (k * p2) (k * p3) (k * p4) (k * p5) (k * p6) W hW (Int.mul_comm _ _) (Int.mul_comm _ _) (Int.mul_comm _ _) (Int.mul_comm _ _) (Int.mul_comm _ _) (Int.mul_comm _ _) (rp_in hv (show 0 ≤ (k : Int) ∧ (k : Int) ≤ t by omega)).2
  have c14 : W.cell? ⟨b, 14, none⟩ = some (.int .i64 (T : Int)) := by have := (hb.below hW hb.lt).cell 14; simp at this; rw [hT] at this; exact this
  have HT := hide hT
  have HB := hide hb
  clear hT ht hb hJ hv
  refine callsIn_of_wp Tryd.func57 rfl trivial ?_ rfl
  simp only [Tryd.ntmps57, List.size_toArray, List.length_cons, List.length_nil, Nat.reduceAdd, Nat.reduceSub, Array.replicate_succ, Array.replicate_zero, List.push_toArray, List.append_toArray, List.nil_append, List.cons_append]
  gi_wp2
  gi_loopw [9] (fun i wr => ∃ (k : Nat) (pre : List Tm), k ≤ T + 1 ∧ i = .int .i64 k ∧ Hid (tms (fun k => raP ⟨y, mo, d, h, mi, s, ms, o⟩ p1 p2 p3 p4 p5 p6 t k) (raT ⟨y, mo, d, h, mi, s, ms, o⟩ p1 p2 p3 p4 p5 p6 t) 0 (T + 1) = pre ++ tms (fun k => raP ⟨y, mo, d, h, mi, s, ms, o⟩ p1 p2 p3 p4 p5 p6 t k) (raT ⟨y, mo, d, h, mi, s, ms, o⟩ p1 p2 p3 p4 p5 p6 t) k (T + 1 - k)) ∧ J pre wr ∧ Hid (Below w.heap.size w wr)) (fun i _ => T + 1 - (intOf i).toNat)
  case atStart => exact ⟨0, [], by omega, rfl, hide rfl, h0, hide hW⟩
  case round =>
    obtain ⟨k, pre, hk, rfl, hx, hJs, hB⟩ := hrel
    by_cases hkT : k = T + 1
    · subst hkT
      gi_wp2
      go_end0
      exact ⟨⟨_, rfl⟩, .inl ⟨pre, by rw [hx.out, Nat.sub_self]; simp [tms], hJs⟩⟩
    · have hkT2 : k ≤ T := by omega
      have hkI : (k : Int) ≤ (T : Int) := by omega
      have XR := hide (HB.out.below hB.out HB.out.lt)
      have hld := loadR_row XR.out
      have hMr := hM.below hB.out
      have eN : T + 1 - k = (T - k) + 1 := by omega
      rw [eN] at hx
      obtain ⟨⟨⟨Y, M, D, H, I, S, L, O⟩, okb⟩, hq⟩ : ∃ r, raP ⟨y, mo, d, h, mi, s, ms, o⟩ p1 p2 p3 p4 p5 p6 t k = r := ⟨_, rfl⟩
      have hAk : ∀ W, MD W → Calls Tryd.prog 34 #[.agg #[.int .i64 y, .int .i64 mo, .int .i64 d, .int .i64 h, .int .i64 mi, .int .i64 s, .int .i64 ms, .int .i64 o, .int .i64 p1, .int .i64 p2, .int .i64 p3, .int .i64 p4, .int .i64 p5, .int .i64 p6, .int .i64 t], .int .i64 k] W fun e w' => e = .returned (.tuple #[.agg #[.int .i64 Y, .int .i64 M, .int .i64 D, .int .i64 H, .int .i64 I, .int .i64 S, .int .i64 L, .int .i64 O], .bool okb]) ∧ Below W.heap.size W w' := fun W hW => by
        have q := hA k W hW hkT2
        rw [hq] at q
        exact q
      have HQ := hide hq
      clear hq hA c14 eN
      gi_wp2_with fail
      refine ⟨trivial, fun _ => by omega, ?_⟩
      refine (callsIn_wide.2 (hAk _ hMr)).mono ?_
      rintro e w3 ⟨rfl, hb3⟩
      have hJ3 : J pre (w3.alloc (.cells #[.int .i64 Y, .int .i64 M, .int .i64 D, .int .i64 H, .int .i64 I, .int .i64 S, .int .i64 L, .int .i64 O] 37)) := hJa pre wr _ hJs (only_alloc (only_below (only_refl wr none) hb3) (.cells #[.int .i64 Y, .int .i64 M, .int .i64 D, .int .i64 H, .int .i64 I, .int .i64 S, .int .i64 L, .int .i64 O] 37))
      have hB3 := hide (bal (hb3.mono (Nat.le_refl _)) (.cells #[.int .i64 Y, .int .i64 M, .int .i64 D, .int .i64 H, .int .i64 I, .int .i64 S, .int .i64 L, .int .i64 O] 37))
      clear hAk hMr hld XR hJs
      cases okb with
      | false =>
        gi_wp2
        refine ⟨fun _ h => (by cases h), ?_⟩
        gi_wp2
        refine bodyPost_ret (results_none rfl _ _ _) rfl ?_
        exact ⟨⟨_, rfl⟩, .inl ⟨pre, by rw [hx.out, tms_no (show (raP ⟨y, mo, d, h, mi, s, ms, o⟩ p1 p2 p3 p4 p5 p6 t k).2 = false by rw [HQ.out]), List.append_nil], hJ3⟩⟩
      | true =>
        have hok := (raP_ok HQ.out).1
        have hcons : tms (fun k => raP ⟨y, mo, d, h, mi, s, ms, o⟩ p1 p2 p3 p4 p5 p6 t k) (raT ⟨y, mo, d, h, mi, s, ms, o⟩ p1 p2 p3 p4 p5 p6 t) k (T - k + 1) = ⟨((k : Int), ⟨Y, M, D, H, I, S, L, O⟩), hok⟩ :: tms (fun k => raP ⟨y, mo, d, h, mi, s, ms, o⟩ p1 p2 p3 p4 p5 p6 t k) (raT ⟨y, mo, d, h, mi, s, ms, o⟩ p1 p2 p3 p4 p5 p6 t) (k + 1) (T - k) := by
          rw [tms_yes (show (raP ⟨y, mo, d, h, mi, s, ms, o⟩ p1 p2 p3 p4 p5 p6 t k).2 = true by rw [HQ.out])]
          congr 1
          apply Subtype.ext
          show ((k : Int), (raP ⟨y, mo, d, h, mi, s, ms, o⟩ p1 p2 p3 p4 p5 p6 t k).1) = _
          rw [HQ.out]
        have HC := hide hcons
        have hlen : pre.length < T + 1 := by
          have h1 := congrArg List.length hx.out
          have h2 := tms_len (f := fun k => raP ⟨y, mo, d, h, mi, s, ms, o⟩ p1 p2 p3 p4 p5 p6 t k) (hf := raT ⟨y, mo, d, h, mi, s, ms, o⟩ p1 p2 p3 p4 p5 p6 t) 0 (T + 1)
          rw [hcons] at h1
          simp only [List.length_append, List.length_cons] at h1
          omega
        obtain ⟨fn, tmps, assign, body, hy, hR⟩ := hY pre ⟨((k : Int), ⟨Y, M, D, H, I, S, L, O⟩), hok⟩ _ hJ3 hlen
        simp only [encT, S8.v] at hy
        clear hcons hY
        gi_wp2
        refine ⟨fun _ => by omega, ?_⟩
        refine hR.mono ?_
        rintro e W3 (⟨rfl, hJ4, hk4⟩ | ⟨rfl, hJx4⟩)
        · gi_wp2
          go_roundw
          case rel =>
            refine ⟨k + 1, pre ++ [⟨((k : Int), ⟨Y, M, D, H, I, S, L, O⟩), hok⟩], by omega, by simp, hide ?_, hJ4, hide ?_⟩
            · rw [hx.out, HC.out, show T + 1 - (k + 1) = T - k by omega]
              simp
            · exact (bto hB.out hB3.out).trans hk4
          case measure => simp [intOf]; omega
        · gi_wp2
          refine bodyPost_ret (results_none rfl _ _ _) rfl ?_
          refine ⟨⟨_, rfl⟩, .inr ⟨pre ++ [⟨((k : Int), ⟨Y, M, D, H, I, S, L, O⟩), hok⟩], ?_, hJx4⟩⟩
          rw [hx.out, HC.out]
          exact ⟨tms (fun k => raP ⟨y, mo, d, h, mi, s, ms, o⟩ p1 p2 p3 p4 p5 p6 t k) (raT ⟨y, mo, d, h, mi, s, ms, o⟩ p1 p2 p3 p4 p5 p6 t) (k + 1) (T - k), by simp⟩
end
end Go.Proofs.YtaagomchjklgaaaDoor
