/- Contracts: slices of ranges marked and held; the same ranges twice. -/
import Derived.Test.YtakccgajnmkplaaMt
import Derived.Test.YtakccgajnmkplaaRg4
import Derived.Test.YtakccgajnmkplaaDrV
namespace Go.Proofs.Ytakccgajnmkplaa
open Go.RowKit

/-- A slice of ranges whose block, if it has one, lies from lo on below hi. -/
structure Row (w : World) (lo hi : Nat) (A : Option Addr) (n cap : Nat) (l : List R2) : Prop where
  own : w.ownsRow lo 36 2 (.slice A n cap) n (flatP l)
  top : ∀ k, (Value.slice A n cap).ownBlock = some k → k < hi
/-- Only a block between lo and hi has turned, and what is new. -/
def Only (lo hi : Nat) (w w' : World) : Prop := ∃ row, w.grownBy w' row ∧ ∀ k, row = some k → lo ≤ k ∧ k < hi
section
variable {w w' w0 : World} {lo hi lo' hi' n cap : Nat} {A : Option Addr} {l : List R2}
theorem Row.len (h : Row w lo hi A n cap l) : l.length = n := by
  have := h.own.1
  rw [flatP_len] at this
  omega
theorem Row.prs (h : Row w lo hi A n cap l) : Prs w.heap.size w A l := Prs.own h.own
theorem Row.below (h : Row w lo hi A n cap l) (hb : Below w.heap.size w w') : Row w' lo hi A n cap l := ⟨own_below h.own hb, h.top⟩
theorem Row.made {w1 : World} (ho : w1.ownsRow w.heap.size 36 2 (.slice A n cap) n (flatP l)) : Row w1 w.heap.size w1.heap.size A n cap l := ⟨ho, fun k hk => (ho.lt k hk).2⟩
theorem Row.far (h : Row w lo hi A n cap l) (ho : Only lo' hi' w w') (hd : hi ≤ lo' ∨ hi' ≤ lo) : Row w' lo hi A n cap l := by
  obtain ⟨row, hg, hr⟩ := ho
  refine ⟨h.own.kept hg ?_, h.top⟩
  by_cases e : (Value.slice A n cap).ownBlock = none
  · exact .inl e
  · refine .inr fun e' => ?_
    obtain ⟨k, hk⟩ : ∃ k, (Value.slice A n cap).ownBlock = some k := Option.ne_none_iff_exists'.1 e
    have h1 := h.top k hk
    have h2 := (h.own.lt k hk).1
    have h3 := hr k (by rw [← e', hk])
    omega
theorem Only.bel (hb : Below w0.heap.size w0 w) (ho : Only lo hi w w') (hl : w0.heap.size ≤ lo) : Below w0.heap.size w0 w' := by
  obtain ⟨row, hg, hr⟩ := ho
  exact hb.grown hg hb.size (fun k hk => by have := hr k hk; omega)
end
/-- The marks from k on. -/
def ladder (k : Int) (n : Nat) : List R2 := (List.range n).map fun (i : Nat) => (k + 2 * (i : Int), k + 2 * (i : Int) + 1)
theorem ladder_len (k : Int) (n : Nat) : (ladder k n).length = n := by simp [ladder]
theorem ladder_get (k : Int) (n i : Nat) (h : i < n) : (ladder k n).getD i (0, 0) = (k + 2 * (i : Int), k + 2 * (i : Int) + 1) := by
  simp [ladder, List.getD, h]
theorem ladder_set {k : Int} {n i : Nat} {l : List R2} (h : i < l.length) (hn : l.length = n) : ((ladder k n).take i ++ l.drop i).set i (k + 2 * (i : Int), k + 2 * (i : Int) + 1) = (ladder k n).take (i + 1) ++ l.drop (i + 1) := by
  have hm : ((ladder k n).take i).length = i := by rw [List.length_take, ladder_len]; omega
  rw [take_snoc (by rw [ladder_len]; omega) (ladder_get k n i (by omega)), List.set_append, if_neg (by omega), hm, Nat.sub_self, List.drop_eq_getElem_cons h, List.append_assoc]
  rfl

set_option maxHeartbeats 1000000 in
theorem mark_any (w : World) (lo hi n cap : Nat) (A : Option Addr) (l : List R2) (k : Int) (h : Row w lo hi A n cap l) (hn : n ≤ 1048576) (hk0 : 0 ≤ k) (hk : k ≤ 100000000) :
    Calls Try.prog 32 #[.slice A n cap, .int .i64 k] w fun e w' => e = .returned (.int .i64 (k + 2 * (n : Int))) ∧ Row w' lo hi A n cap (ladder k n) ∧ Only lo hi w w' := by
  by_cases h0 : n = 0
  · subst h0
    have hl := h.len
    obtain rfl : l = [] := by cases l; rfl; simp at hl
    have HH := hide h
    clear h hl
    go_enter Try.func32, Try.ntmps32
    go_wp2
    refine wp_loop_rounds 1 ?_
    rw [rounds_succ]
    go_wp2
    go_ret
    exact ⟨by simp, HH.out, none, only_refl _ _, fun k hk => by cases hk⟩
  · obtain ⟨g, cap', e, hlo, hg⟩ := h.own.form (by omega)
    cases e
    have hhi := h.top g rfl
    have HL := hide h.len
    have HO := hide (show w.ownsRow lo 36 2 (.slice (some ⟨g, 0, none⟩) n cap) n (flatP ((ladder k n).take 0 ++ l.drop 0)) from h.own)
    clear h
    go_enter Try.func32, Try.ntmps32
    go_wp2
    go_loopw [1, 5] (fun u i wr => ∃ j : Nat, j ≤ n ∧ i = .int .i64 j ∧ u = .int .i64 (k + 2 * (j : Int)) ∧ Hid (wr.ownsRow lo 36 2 (.slice (some ⟨g, 0, none⟩) n cap) n (flatP ((ladder k n).take j ++ l.drop j))) ∧ w.grownBy wr (some g)) (fun _ i _ => n - (intOf i).toNat)
    case atStart => exact ⟨0, by omega, rfl, by simp, HO, only_refl _ _⟩
    case round =>
      obtain ⟨j, hj, rfl, rfl, hO, hG⟩ := hrel
      by_cases hlt : j < n
      · have hO1 := hO.out
        have d0 := hO1.cellAt (j * 2) (by omega)
        have d1 := hO1.cellAt (j * 2 + 1) (by omega)
        have f0 := hO1.frozenAt (j * 2)
        have f1 := hO1.frozenAt (j * 2 + 1)
        have hll : ((ladder k n).take j ++ l.drop j).length = n := by have := HL.out; rw [List.length_append, List.length_take, List.length_drop, ladder_len]; omega
        have hgt := flatP_get ((ladder k n).take j ++ l.drop j) j (by omega)
        rw [hgt.1] at d0
        rw [hgt.2] at d1
        have s1 := hO1.stored (j * 2) (.int .i64 (k + 2 * (j : Int)))
        have s2 := s1.1.stored (j * 2 + 1) (.int .i64 (k + 2 * (j : Int) + 1))
        have H2 := hide (⟨s1, s2, hll⟩ : _ ∧ _ ∧ _)
        clear hO1 hgt s1 s2 hO hll
        go_wp2
        go_roundw
        case rel =>
          obtain ⟨s1, s2, hll⟩ := H2.out
          have h3 := s2.1
          rw [flatP_set _ j (k + 2 * (j : Int), k + 2 * (j : Int) + 1) (by omega), ladder_set (by have := HL.out; omega) HL.out] at h3
          exact ⟨j + 1, by omega, by go_num, by (congr 1; omega), hide h3, only_trans (only_trans hG s1.2) s2.2⟩
        case measure => simp [intOf]; omega
      · obtain rfl : j = n := by omega
        go_wp2
        go_ret
        have h3 := hO.out
        rw [List.take_of_length_le (by rw [ladder_len]; omega), List.drop_eq_nil_of_le (by have := HL.out; omega), List.append_nil] at h3
        exact ⟨rfl, ⟨h3, fun k' hk' => by simp [Value.ownBlock] at hk'; omega⟩, some g, hG, fun k' hk' => by injection hk' with hk'; omega⟩

set_option maxHeartbeats 1000000 in
theorem held_any (w : World) (n cap B : Nat) (A : Option Addr) (k : Int) (h : Prs B w A (ladder k n)) (hn : n ≤ 1048576) (hk0 : 0 ≤ k) (hk : k ≤ 100000000) :
    Calls Try.prog 33 #[.slice A n cap, .int .i64 k] w fun e w' => e = .returned (.int .i64 (k + 2 * (n : Int))) ∧ w = w' := by
  rcases h.view with h0 | ⟨b, o, rfl, _, hc⟩
  · rw [ladder_len] at h0
    subst h0
    clear h
    go_enter Try.func33, Try.ntmps33
    go_wp2
    refine wp_loop_rounds 1 ?_
    rw [rounds_succ]
    go_wp2
    go_ret
    exact ⟨by simp, rfl⟩
  · have HC := hide (show ∀ j, j < n → w.cell? ⟨b, o + j * 2, none⟩ = some (.int .i64 (k + 2 * (j : Int))) ∧ w.cell? ⟨b, o + j * 2 + 1, none⟩ = some (.int .i64 (k + 2 * (j : Int) + 1)) from fun j hj => by
      have := hc j (by rw [ladder_len]; exact hj)
      rwa [ladder_get k n j hj] at this)
    clear h hc
    go_enter Try.func33, Try.ntmps33
    go_wp2
    go_loopw [1, 5] (fun u i wr => ∃ j : Nat, j ≤ n ∧ i = .int .i64 j ∧ u = .int .i64 (k + 2 * (j : Int)) ∧ w = wr) (fun _ i _ => n - (intOf i).toNat)
    case atStart => exact ⟨0, by omega, rfl, by simp, rfl⟩
    case round =>
      obtain ⟨j, hj, rfl, rfl, rfl⟩ := hrel
      by_cases hlt : j < n
      · obtain ⟨c0, c1⟩ := HC.out j hlt
        go_wp2
        go_roundw
        case rel => exact ⟨j + 1, by omega, by go_num, by (congr 1; omega), trivial⟩
        case measure => simp [intOf]; omega
      · obtain rfl : j = n := by omega
        go_wp2
        go_ret
        exact ⟨rfl, rfl⟩

set_option maxHeartbeats 1000000 in
theorem sameR_any (l : List R2) (len cap cap' B : Nat) (A A' : Option Addr) (w : World) (hl : l.length = len) (hP : Prs B w A l) (hP' : Prs B w A' l) (hB : B ≤ w.heap.size) (hm : len ≤ 1048576) :
    Calls Try.prog 35 #[.slice A len cap, .slice A' len cap'] w (RetB true w) := by
  have HL := hide hl
  rcases hP.view with h0 | ⟨b, o, rfl, hbB, hc⟩
  · obtain rfl : len = 0 := by omega
    clear hl h0 hP hP'
    go_enter Try.func35, Try.ntmps35
    go_wp2
    refine wp_loop_rounds 1 ?_
    rw [rounds_succ]
    go_wp2
    go_ret
    exact ⟨rfl, Below.refl _ _⟩
  rcases hP'.view with h0 | ⟨b', o', rfl, hbB', hc'⟩
  · obtain rfl : len = 0 := by omega
    clear hl h0 hP hP' hc
    go_enter Try.func35, Try.ntmps35
    go_wp2
    refine wp_loop_rounds 1 ?_
    rw [rounds_succ]
    go_wp2
    go_ret
    exact ⟨rfl, Below.refl _ _⟩
  have HC := hide hc
  have HC' := hide hc'
  have g1 : ((len : Int) != (len : Int)) = false := by simp
  clear hc hc' hP hP' hl
  go_enter Try.func35, Try.ntmps35
  go_wp2
  go_loopw [5] (fun i wr => ∃ k : Nat, k ≤ len ∧ i = .int .i64 k ∧ Below w.heap.size w wr) (fun i _ => len - (intOf i).toNat)
  case atStart => exact ⟨0, by omega, rfl, Below.refl _ _⟩
  case round =>
    obtain ⟨k, hk, rfl, hb⟩ := hrel
    by_cases hlt : k < len
    · obtain ⟨x, y, hxy⟩ := pair_ex l k
      have hs := hb.size
      have c0 := (hb.cell (p := ⟨b, o + k * 2, none⟩) (show b < w.heap.size by omega)).trans (HC.out k (by rw [HL.out]; omega)).1
      have c1 := (hb.cell (p := ⟨b, o + k * 2 + 1, none⟩) (show b < w.heap.size by omega)).trans (HC.out k (by rw [HL.out]; omega)).2
      have c2 := (hb.cell (p := ⟨b', o' + k * 2, none⟩) (show b' < w.heap.size by omega)).trans (HC'.out k (by rw [HL.out]; omega)).1
      have c3 := (hb.cell (p := ⟨b', o' + k * 2 + 1, none⟩) (show b' < w.heap.size by omega)).trans (HC'.out k (by rw [HL.out]; omega)).2
      rw [hxy] at c0 c1 c2 c3
      clear hxy
      go_wp2_with fail
      first | go_quiet (fail) | fail
      go_wp2
      go_roundw
      case rel => exact ⟨k + 1, by omega, by go_num, bdrewN hb _⟩
      case measure => simp [intOf]; omega
    · obtain rfl : k = len := by omega
      go_wp2
      go_ret
      exact ⟨rfl, hb⟩

/-- Two drawn slices. -/
def DrawnLL (w : World) (e : Ending) (w' : World) : Prop :=
  ∃ (b1 c1 b2 c2 : Nat) (l l' : List R2), e = .returned (.tuple #[.slice (some ⟨b1, 0, none⟩) l.length c1, .slice (some ⟨b2, 0, none⟩) l'.length c2]) ∧
    w'.ownsRow w.heap.size 36 2 (.slice (some ⟨b1, 0, none⟩) l.length c1) l.length (flatP l) ∧ w'.ownsRow w.heap.size 36 2 (.slice (some ⟨b2, 0, none⟩) l'.length c2) l'.length (flatP l') ∧
    l.length ≤ 9 ∧ l'.length ≤ 9 ∧ Bd 1030 l ∧ Bd 1030 l' ∧ Below w.heap.size w w'
theorem drawMeet {B len cap : Nat} {A : Option Addr} {w : World} (hs : Src B w A len) (hB : B ≤ w.heap.size) (hc : len ≤ cap) (hm : cap ≤ maxLen) :
    Calls Try.prog 34 #[.slice A len cap] w (DrawnLL w) := by
  go_enter Try.func34, Try.ntmps34
  go_wp2_with fail
  refine (l6Open_any hs hB hc hm).mono ?_
  rintro e w1 ⟨g, rfl, hg, hr1, hb1⟩
  have hgl := hr1.lt
  go_wp2_with fail
  refine (l92Joined_any hr1 (by omega)).mono ?_
  rintro e w2 ⟨b, cap', l, rfl, ho, hl, hbd, hr2, hg2⟩
  go_wp2_with fail
  refine (l92Joined_any hr2 (by omega)).mono ?_
  rintro e w3 ⟨b', cap'', l', rfl, ho', hl', hbd', hr3, hg3⟩
  have hs2 := hg2.size
  have hs1 := hb1.size
  go_wp2_with fail
  go_returns
  exact ⟨b, cap', b', cap'', l, l', rfl, own_more (own_rd ho hg3 hgl) hb1.size, own_more ho' (by omega), hl, hl', hbd, hbd', bonly (bonly hb1 hg2 hg) hg3 hg⟩
end Go.Proofs.Ytakccgajnmkplaa
