/- Contracts: the statements' own words on slices of ranges: made, measured, compared. -/
import Derived.Test.YtakccgajnmkplaaRg1
import Derived.Test.YtakccgajnmkplaaQt
namespace Go.Proofs.Ytakccgajnmkplaa
open Go.RowKit
attribute [local go_sem] lt_cell

theorem own_below {B : Nat} {e : TypeId} {k : Nat} {v : Value} {n : Nat} {xs : List Value} {w w' : World} (h : w.ownsRow B e k v n xs) (hb : Below w.heap.size w w') : w'.ownsRow B e k v n xs :=
  ⟨h.1, h.2.imp id fun ⟨g, cap, cur, a, b, c, d⟩ => ⟨g, cap, cur, a, b, (hb.block g (Array.getElem?_eq_some_iff.1 c).1).trans c, d⟩⟩
theorem made_pairs (n : Nat) : (madeCells #[Value.int .i64 0, Value.int .i64 0] (n * 2)).toList = flatP (List.replicate n (0, 0)) := by
  refine List.ext_getElem? fun j => ?_
  have e : (madeCells #[Value.int .i64 0, Value.int .i64 0] (n * 2)).toList[j]? = if j < n * 2 then some (.int .i64 0) else none := by
    unfold madeCells
    by_cases h : j < n * 2
    · rw [if_pos h]
      rcases (show j % 2 = 0 ∨ j % 2 = 1 by omega) with h' | h' <;> simp [h, h']
    · rw [if_neg h]
      simp [h]
  rw [e]
  by_cases h : j < n * 2
  · rw [if_pos h]
    have hg := flatP_get (List.replicate n (0, 0)) (j / 2) (by simp; omega)
    rw [show (List.replicate n ((0 : Int), (0 : Int))).getD (j / 2) (0, 0) = (0, 0) by simp [List.getD, List.getElem?_replicate]; split <;> rfl] at hg
    rcases (show j = j / 2 * 2 ∨ j = j / 2 * 2 + 1 by omega) with h' | h' <;> rw [h']
    · exact hg.1.symm
    · exact hg.2.symm
  · rw [if_neg h, List.getElem?_eq_none (by rw [flatP_len]; simp; omega)]
theorem flatP_set (l : List R2) : ∀ (k : Nat) (r : R2), k < l.length → ((flatP l).set (k * 2) (.int .i64 r.1)).set (k * 2 + 1) (.int .i64 r.2) = flatP (l.set k r) := by
  induction l with
  | nil => intro k r hk; simp at hk
  | cons s t ih =>
    intro k r hk
    have e : flatP (s :: t) = Value.int .i64 s.1 :: Value.int .i64 s.2 :: flatP t := rfl
    cases k with
    | zero => rfl
    | succ k =>
      have := ih k r (by simpa using hk)
      rw [e, show (k + 1) * 2 = k * 2 + 1 + 1 by omega, show (s :: t).set (k + 1) r = s :: t.set k r from rfl]
      show _ :: _ :: ((flatP t).set (k * 2) _).set (k * 2 + 1) _ = _ :: _ :: flatP (t.set k r)
      rw [this]

theorem set_step {l : List R2} {n k : Nat} {r z : R2} (h : k < l.length) (e : l.getD k (0, 0) = r) (hn : k < n) : (l.take k ++ List.replicate (n - k) z).set k r = l.take (k + 1) ++ List.replicate (n - (k + 1)) z := by
  have ex : l[k] = r := by simpa [List.getD, h] using e
  have hm : (l.take k).length = k := by simp; omega
  rw [List.take_succ_eq_append_getElem h, ex, show n - k = (n - (k + 1)) + 1 by omega, List.replicate_succ, List.set_append, if_neg (by omega), hm, Nat.sub_self, List.append_assoc]
  rfl

/-- A new slice of pairs. -/
def Made (E : TypeId) (l : List R2) (w : World) (e : Ending) (w' : World) : Prop :=
  ∃ g cap : Nat, e = .returned (.slice (some ⟨g, 0, none⟩) l.length cap) ∧ w'.ownsRow w.heap.size E 2 (.slice (some ⟨g, 0, none⟩) l.length cap) l.length (flatP l) ∧ Below w.heap.size w w'

theorem info_impl : (Try.prog.info? 36).map (fun i => (i.zero, i.size, i.bytes)) = some (some (.agg #[.int .i64 0, .int .i64 0]), 2, 16) := by kernel_rfl
theorem toRange_any (a b : Int) (w : World) :
    Calls Try.prog 40 #[.agg #[.int .i64 a, .int .i64 b]] w fun e w' => e = .returned (.agg #[.int .i64 a, .int .i64 b]) ∧ Below w.heap.size w w' := by
  go_enter Try.func40, Try.ntmps40
  go_wp2
  go_returns
  exact ⟨rfl, by go_grown⟩

theorem sz_any (len cap : Nat) (A : Option Addr) (n : Int) (w : World) (h0 : 0 ≤ n) (h1 : n ≤ 1048576) (hm : len ≤ 9223372036854775807) :
    Calls Try.prog 18 #[.slice A len cap, .int .i64 n] w fun e w' => e = .returned (.int .i64 (if n < len then -1 else n - len)) ∧ w = w' := by
  by_cases h : n < len
  · rw [if_pos h]
    go_enter Try.func18, Try.ntmps18
    go_wp2
    go_ret
    exact ⟨rfl, rfl⟩
  · rw [if_neg h]
    go_enter Try.func18, Try.ntmps18
    go_wp2
    go_ret
    exact ⟨rfl, rfl⟩

set_option maxHeartbeats 1000000 in
theorem toS_any (l : List R2) (len cap B : Nat) (A : Option Addr) (w : World) (hl : l.length = len) (hP : Prs B w A l) (hB : B ≤ w.heap.size) (hm : len ≤ 1048576) :
    Calls Try.prog 20 #[.slice A len cap] w (Made 36 l w) := by
  obtain ⟨i0, hi, hz0, hz1, hz2⟩ := info_parts info_impl
  have HL := hide hl
  have HC := hide hP
  have hz : len = 0 ∨ ∃ b o, A = some ⟨b, o, none⟩ ∧ b < B ∧ ∀ i, i < l.length → w.cell? ⟨b, o + i * 2, none⟩ = some (.int .i64 (l.getD i (0, 0)).1) ∧ w.cell? ⟨b, o + i * 2 + 1, none⟩ = some (.int .i64 (l.getD i (0, 0)).2) := by
    by_cases h0 : len = 0
    · exact .inl h0
    · exact .inr (hP (by omega))
  clear hl hP
  rcases hz with rfl | ⟨b, o, rfl, hbB, hc⟩
  · go_enter Try.func20, Try.ntmps20
    go_wp2_with (at_make; refine wpList_make_full _ rfl _ _ 25 rfl w.heap.size 36 i0 (.agg #[.int .i64 0, .int .i64 0]) 2 Try.underlying25 hi hz0 hz1 .i64 .i64 0 0 0 rfl rfl rfl rfl (by rw [hz2]; omega) (by unfold maxLen; omega) (Nat.le_refl _) ?_; intro w1 hown1 hgrow1)
    refine wp_loop_rounds 1 ?_
    rw [rounds_succ]
    go_wp2
    go_ret
    refine ⟨w.heap.size, 0, by rw [HL.out]; rfl, ?_, (Below.refl _ _).grown hgrow1 (Nat.le_refl _) (by intro k hk; cases hk)⟩
    have e : l = [] := by have := HL.out; cases l; rfl; simp at this
    have e2 := made_pairs 0
    subst e
    rw [show flatP [] = (madeCells #[Value.int .i64 0, Value.int .i64 0] (0 * 2)).toList from e2.symm]
    exact hown1
  have HC' := hide hc
  clear hc
  go_enter Try.func20, Try.ntmps20
  go_wp2_with (at_make; refine wpList_make_full _ rfl _ _ 25 rfl w.heap.size 36 i0 (.agg #[.int .i64 0, .int .i64 0]) 2 Try.underlying25 hi hz0 hz1 .i64 .i64 len len len rfl rfl rfl rfl (by rw [hz2]; omega) (by unfold maxLen; omega) (Nat.le_refl _) ?_; intro w1 hown1 hgrow1)
  have hown0 : w1.ownsRow w.heap.size 36 2 (.slice (some ⟨w.heap.size, 0, none⟩) len len) len (flatP (l.take 0 ++ List.replicate (len - 0) (0, 0))) := by
    have e := made_pairs len
    rw [List.take_zero, List.nil_append, Nat.sub_zero, ← e]
    exact hown1
  have hb0 : Below w.heap.size w w1 := (Below.refl _ _).grown hgrow1 (Nat.le_refl _) (by intro k hk; cases hk)
  have HO := hide hown0
  clear hown1 hgrow1 hown0
  go_loopw [4] (fun i wr => ∃ k : Nat, k ≤ len ∧ i = .int .i64 k ∧ Hid (wr.ownsRow w.heap.size 36 2 (.slice (some ⟨w.heap.size, 0, none⟩) len len) len (flatP (l.take k ++ List.replicate (len - k) (0, 0)))) ∧ Below w.heap.size w wr) (fun i _ => len - (intOf i).toNat)
  case atStart => exact ⟨0, by omega, rfl, HO, hb0⟩
  case round =>
    obtain ⟨k, hk, rfl, hO, hb⟩ := hrel
    by_cases hlt : k < len
    · obtain ⟨x, y, hxy⟩ := pair_ex l k
      have hbw : b < w.heap.size := by omega
      have c0 := (hb.cell (p := ⟨b, o + k * 2, none⟩) hbw).trans (HC'.out k (by rw [HL.out]; omega)).1
      have c1 := (hb.cell (p := ⟨b, o + k * 2 + 1, none⟩) hbw).trans (HC'.out k (by rw [HL.out]; omega)).2
      rw [hxy] at c0 c1
      have HX := hide hxy
      clear hxy
      go_wp2_with fail
      refine (toRange_any _ _ _).mono ?_
      rintro e w2 ⟨rfl, hb2⟩
      have hO2 := own_below hO.out hb2
      have hH2 := bto hb hb2
      have d0 := hO2.cellAt (k * 2) (by omega)
      have d1 := hO2.cellAt (k * 2 + 1) (by omega)
      have f0 := hO2.frozenAt (k * 2)
      have f1 := hO2.frozenAt (k * 2 + 1)
      have hg := flatP_get (l.take k ++ List.replicate (len - k) (0, 0)) k (by simp; rw [HL.out]; omega)
      rw [hg.1] at d0
      rw [hg.2] at d1
      have s1 := hO2.stored (k * 2) (.int .i64 x)
      have s2 := s1.1.stored (k * 2 + 1) (.int .i64 y)
      have H2 := hide (⟨hH2, s1, s2⟩ : _ ∧ _ ∧ _)
      clear hO2 hH2 hg s1 s2 hO hb2 c0 c1
      go_wp2
      go_roundw
      case rel =>
        obtain ⟨hH2, s1, s2⟩ := H2.out
        have hset := set_step (z := (0, 0)) (show k < l.length by rw [HL.out]; exact hlt) HX.out hlt
        refine ⟨k + 1, by omega, by go_num, ?_, ?_⟩
        · have h3 := s2.1
          rw [flatP_set _ k (x, y) (by simp; rw [HL.out]; omega), hset] at h3
          exact hide h3
        · exact (hH2.setCell (by simp) _).setCell (by simp) _
      case measure => simp [intOf]; omega
    · obtain rfl : k = len := by omega
      go_wp2
      go_ret
      refine ⟨w.heap.size, k, by rw [HL.out]; rfl, ?_, hb⟩
      have h3 := hO.out
      rw [List.take_of_length_le (by rw [HL.out]; omega), Nat.sub_self, List.replicate_zero, List.append_nil] at h3
      rw [HL.out]
      exact h3

theorem eq_same (a b : Int) (w : World) :
    Calls Try.prog 42 #[.agg #[.int .i64 a, .int .i64 b], .agg #[.int .i64 a, .int .i64 b]] w fun e w' => e = .returned (.bool true) ∧ Below w.heap.size w w' := by
  go_enter Try.func42, Try.ntmps42
  go_wp2
  go_ret
  exact ⟨rfl, bal (bal (Below.refl _ _) _) _⟩

set_option maxHeartbeats 1000000 in
theorem eqS_same (l : List R2) (len cap cap' B : Nat) (A A' : Option Addr) (w : World) (hl : l.length = len) (hP : Prs B w A l) (hP' : Prs B w A' l) (hB : B ≤ w.heap.size) (hm : len ≤ 1048576) :
    Calls Try.prog 22 #[.slice A len cap, .slice A' len cap'] w (RetB true w) := by
  have HL := hide hl
  rcases hP.view with h0 | ⟨b, o, rfl, hbB, hc⟩
  · obtain rfl : len = 0 := by omega
    clear hl h0 hP hP'
    go_enter Try.func22, Try.ntmps22
    go_wp2
    refine wp_loop_rounds 1 ?_
    rw [rounds_succ]
    go_wp2
    go_ret
    exact ⟨rfl, Below.refl _ _⟩
  rcases hP'.view with h0 | ⟨b', o', rfl, hbB', hc'⟩
  · obtain rfl : len = 0 := by omega
    clear hl h0 hP hP' hc
    go_enter Try.func22, Try.ntmps22
    go_wp2
    refine wp_loop_rounds 1 ?_
    rw [rounds_succ]
    go_wp2
    go_ret
    exact ⟨rfl, Below.refl _ _⟩
  have HC := hide hc
  have HC' := hide hc'
  have g1 : ((len : Int) != (len : Int)) = false := by simp
  clear hc hc' hP hP' hl
  go_enter Try.func22, Try.ntmps22
  go_wp2
  go_loopw [5] (fun i wr => ∃ k : Nat, k ≤ len ∧ i = .int .i64 k ∧ Below w.heap.size w wr) (fun i _ => len - (intOf i).toNat)
  case atStart => exact ⟨0, by omega, rfl, Below.refl _ _⟩
  case round =>
    obtain ⟨k, hk, rfl, hb⟩ := hrel
    by_cases hlt : k < len
    · obtain ⟨x, y, hxy⟩ := pair_ex l k
      have hs := hb.size
      have c0 := (hb.cell (p := ⟨b, o + k * 2, none⟩) (show b < w.heap.size by omega)).trans (HC.out k (by rw [HL.out]; omega)).1
      have c1 := (hb.cell (p := ⟨b, o + k * 2 + 1, none⟩) (show b < w.heap.size by omega)).trans (HC.out k (by rw [HL.out]; omega)).2
      have c2 := (hb.cell (p := ⟨b', o' + k * 2, none⟩) (show b' < w.heap.size by omega)).trans (HC'.out k (by rw [HL.out]; omega)).1
      have c3 := (hb.cell (p := ⟨b', o' + k * 2 + 1, none⟩) (show b' < w.heap.size by omega)).trans (HC'.out k (by rw [HL.out]; omega)).2
      rw [hxy] at c0 c1 c2 c3
      have hn1 : b < wr.heap.size := by omega
      have hn2 : b' < wr.heap.size := by omega
      clear hxy
      go_wp2_with fail
      refine region_below (by kernel_rfl) (by kernel_rfl) ?_
      repeat (go_big_quiet_step ((go_at_call 42; exact lt_call (eq_same _ _ _))))
      refine wpQuiet_nil ?_
      rintro wq ⟨⟨_, hq⟩, rfl⟩
      go_wp2
      go_roundw
      case rel => exact ⟨k + 1, by omega, by go_num, bto hb hq⟩
      case measure => simp [intOf]; omega
    · obtain rfl : k = len := by omega
      go_wp2
      go_ret
      exact ⟨rfl, hb⟩
end Go.Proofs.Ytakccgajnmkplaa
