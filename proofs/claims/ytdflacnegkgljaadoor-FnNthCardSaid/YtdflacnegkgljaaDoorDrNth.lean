/- DrawNthWeekday returns some numbers. -/
import Derived.Test.YtdflacnegkgljaaDoorDr
namespace Go.Proofs.YtdflacnegkgljaaDoor
open Go.RowKit

theorem results_tmp4 {fn : Func} {t u v x : Tmp} (h : fn.results = #[.tmp t, .tmp u, .tmp v, .tmp x]) (tmps : Array Value) (P : Program) (w : World) :
    (results fn tmps).run P w = .ok (.tuple #[tmps.getD t undef, tmps.getD u undef, tmps.getD v undef, tmps.getD x undef]) w := by simp [results, h]

def Drawn4 (w : World) (e : Ending) (w' : World) : Prop :=
  ∃ a b c d : Int, e = .returned (.tuple #[.int .i64 a, .int .i64 b, .int .i64 c, .int .i64 d]) ∧ Below w.heap.size w w'

/-- The list of four numbers lies in block b, which is not the reader's. -/
def L4 (w : World) (b g : Nat) (n : Int) : Prop := b < w.heap.size ∧ ¬ b = g ∧ ∀ v : Int, 0 ≤ v → v < 4 → w.cell? ⟨b, v.toNat, none⟩ = some (.int .i64 (([0, 6, -2, n] : List Int).getD v.toNat 0))

theorem L4.on {W w' : World} {b g : Nat} {n : Int} (h : L4 W b g n) (hg : W.grownBy w' (some g)) : L4 w' b g n := by
  obtain ⟨h1, h2, h3⟩ := h
  obtain ⟨hc, _, hl⟩ := gcell hg
  exact ⟨hl _ h1, h2, fun v a c => (hc _ _ h1 h2).trans (h3 v a c)⟩

theorem L4.fresh {W w' : World} {b g : Nat} {n : Int} {T : TypeId} (e : W.heap.size = b) (hn : ¬ b = g) (hg : (W.alloc (.cells #[.int .i64 0, .int .i64 6, .int .i64 (-2), .int .i64 n] T (0, 0))).grownBy w' (some g)) : L4 w' b g n := by
  subst e
  refine L4.on ⟨by simp, hn, fun v h1 h2 => ?_⟩ hg
  have hb := Blk.new W T #[.int .i64 0, .int .i64 6, .int .i64 (-2), .int .i64 n]
  rcases (show v = 0 ∨ v = 1 ∨ v = 2 ∨ v = 3 by omega) with rfl | rfl | rfl | rfl
  · exact hb.cell 0
  · exact hb.cell 1
  · exact hb.cell 2
  · exact hb.cell 3

theorem L4.freshD {W w' : World} {b g : Nat} {n : Int} {T : TypeId} (e : W.heap.size = b) (hn : ¬ b = g) (hg : (W.alloc (.cells #[.int .i64 0, .int .i64 6, .int .i64 (-2), .int .i64 n] T (0, 0))).drew.grownBy w' (some g)) : L4 w' b g n :=
  L4.fresh e hn ⟨hg.os, hg.tape, hg.output, hg.size, hg.block⟩

set_option maxHeartbeats 4000000 in
theorem drawNth {B len cap : Nat} {A : Option Addr} {w : World} (hs : Src B w A len) (hB : B ≤ w.heap.size) (hc : len ≤ cap) (hm : cap ≤ maxLen) :
    Calls Tryd.prog 21 #[.slice A len cap] w (Drawn4 w) := by
  go_enter Tryd.func21, Tryd.ntmps21
  go_wp2_with fail
  refine (l6Open_any hs hB hc hm).mono ?_
  rintro e w1 ⟨g, rfl, hg, hr1, hb1⟩
  have hgl1 := hr1.lt
  go_wp2_with fail
  refine (pick_any (hr1.alloc _) (by omega) (by omega)).mono ?_
  rintro e w2 ⟨v2, a2, b2, rfl, hr2, hg2⟩
  have hb2 := bonly (bal hb1 _) hg2 hg
  have hgl2 := hr2.lt
  have hbl := (Blk.new w1 3 (([1, 2, 3, 4, 5, -1] : List Int).map (Value.int .i64)).toArray).grown' hg2 (by omega)
  obtain ⟨k2, rfl⟩ := Int.eq_ofNat_of_zero_le a2
  have hk2 := int_at hbl k2 (by simp; omega)
  generalize ([1, 2, 3, 4, 5, -1] : List Int).getD k2 0 = n at hk2
  clear hbl
  go_wp2_with fail
  refine (pick_any hr2 (by omega) (by omega)).mono ?_
  rintro e w3 ⟨v3, a3, b3, rfl, hr3, hg3⟩
  have hb3 := bonly hb2 hg3 hg
  by_cases h0 : v3 = 0
  · subst h0
    clear hc hs
    have hgl3 := hr3.lt
    have hne3 : ¬ w3.heap.size = g := by omega
    have hidx : ∀ v : Int, 0 ≤ v → v < 4 → ([Value.int .i64 0, .int .i64 6, .int .i64 (-2), .int .i64 n] : List Value)[v.toNat]? = some (.int .i64 (([0, 6, -2, n] : List Int).getD v.toNat 0)) := by
      intro v h1 h2
      rcases (show v = 0 ∨ v = 1 ∨ v = 2 ∨ v = 3 by omega) with rfl | rfl | rfl | rfl <;> rfl
    have hidx' : ∀ (v : Int) (h : v.toNat < [Value.int .i64 0, .int .i64 6, .int .i64 (-2), .int .i64 n].length), [Value.int .i64 0, .int .i64 6, .int .i64 (-2), .int .i64 n][v.toNat] = .int .i64 (([0, 6, -2, n] : List Int).getD v.toNat 0) := by
      intro v h
      have h' : v.toNat < 4 := h
      generalize v.toNat = k at h h' ⊢
      rcases (show k = 0 ∨ k = 1 ∨ k = 2 ∨ k = 3 by omega) with rfl | rfl | rfl | rfl <;> rfl
    clear hk2 hg2 hr2 hr1 hb1 hb2
    go_wp2_with fail
    go_region_with (first | (go_at_call 45; refine (l91Year_any (by first | assumption | exact Rd.alloc (by assumption) _) (by omega)).mono ?_; rintro e w' ⟨v, hv0, hv1, rfl, hr, hg'⟩; obtain ⟨hcc, hff, hll⟩ := gcell hg'; have hgl := hr.lt; have hne : ¬ w'.heap.size = g := (by omega); (first | (have hL := L4.freshD (b := w3.heap.size) rfl hne3 hg') | (have hL := L4.fresh rfl (by assumption) hg') | (have hL := L4.on (by assumption) hg') | skip); (first | (have hLc := hL.2.2 v hv0 hv1) | skip); clear hcc hff) | (go_at_call 36; refine (pick_any (by first | assumption | exact Rd.alloc (by assumption) _) (by omega) (by omega)).mono ?_; rintro e w' ⟨v, hv0, hv1, rfl, hr, hg'⟩; obtain ⟨hcc, hff, hll⟩ := gcell hg'; have hgl := hr.lt; have hne : ¬ w'.heap.size = g := (by omega); (first | (have hL := L4.freshD (b := w3.heap.size) rfl hne3 hg') | (have hL := L4.fresh rfl (by assumption) hg') | (have hL := L4.on (by assumption) hg') | skip); (first | (have hLc := hL.2.2 v hv0 hv1) | skip); clear hcc hff))
    all_goals
      go_wp2_with fail
      refine bodyPost_ret (results_tmp4 rfl _ _ _) rfl ?_
      refine ⟨_, _, _, _, rfl, ?_⟩
      repeat' first | exact hb3 | (refine bonly ?_ (by assumption) hg) | refine bdrew ?_ | refine bal ?_ _
  · have g0 : (v3 == 0) = false := by simpa using h0
    go_wp2_with fail
    refine (l91Year_any hr3 (by omega)).mono ?_
    rintro e w4 ⟨v4, a4, b4, rfl, hr4, hg4⟩
    have hb4 := bonly hb3 hg4 hg
    go_wp2_with fail
    refine (pick_any hr4 (by omega) (by omega)).mono ?_
    rintro e w5 ⟨v5, a5, b5, rfl, hr5, hg5⟩
    have hb5 := bonly hb4 hg5 hg
    go_wp2_with fail
    refine (pick_any hr5 (by omega) (by omega)).mono ?_
    rintro e w6 ⟨v6, a6, b6, rfl, hr6, hg6⟩
    have hb6 := bonly hb5 hg6 hg
    go_wp2_with fail
    refine bodyPost_ret (results_tmp4 rfl _ _ _) rfl ?_
    exact ⟨_, _, _, _, rfl, hb6⟩
end Go.Proofs.YtdflacnegkgljaaDoor
