/- Contracts: whether ranges have an instant (the program's and the reference's). -/
import Derived.Test.YtakccgajnmkplaaRg3
namespace Go.Proofs.Ytakccgajnmkplaa
open Go.RowKit
attribute [local go_sem] lt_cell

def inR (n : Int) (r : R2) : Bool := decide (r.1 ≤ n) && decide (n < r.2)
def hasB (l : List R2) (n : Int) : Bool := rvB l && l.any (inR n)
theorem hasB_no {l : List R2} {n : Int} (h : rvB l = false) : hasB l n = false := by unfold hasB; rw [h]; rfl
theorem hasB_hit {l : List R2} {n : Int} {k : Nat} (h : rvB l = true) (hk : k < l.length) (hr : inR n (l.getD k (0, 0)) = true) : hasB l n = true := by
  unfold hasB
  rw [h, Bool.true_and, List.any_eq_true]
  exact ⟨l[k], List.getElem_mem hk, by simpa [List.getD, hk] using hr⟩
theorem hasB_miss {l : List R2} {n : Int} (hr : ∀ k, k < l.length → inR n (l.getD k (0, 0)) = false) : hasB l n = false := by
  unfold hasB
  have : l.any (inR n) = false := by
    rw [List.any_eq_false]
    intro x hx
    obtain ⟨k, hk, rfl⟩ := List.getElem_of_mem hx
    have := hr k hk
    simpa [List.getD, hk] using this
  rw [this]; simp
theorem Prs.view' {B : Nat} {w : World} {A : Option Addr} {l : List R2} (h : Prs B w A l) : l.length = 0 ∨ ∃ b o, A = some ⟨b, o, none⟩ ∧ b < B ∧ ∀ i, i < l.length → w.cell? ⟨b, o + i * 2, none⟩ = some (.int .i64 (l.getD i (0, 0)).1) ∧ w.cell? ⟨b, o + i * 2 + 1, none⟩ = some (.int .i64 (l.getD i (0, 0)).2) := by
  by_cases h0 : l.length = 0
  · exact .inl h0
  · exact .inr (h (by omega))

set_option maxHeartbeats 1000000 in
theorem spec_has (l : List R2) (n : Int) (len cap B : Nat) (A : Option Addr) (w : World) (hl : l.length = len) (hP : Prs B w A l) (hB : B ≤ w.heap.size) (hm : len ≤ 2305843009213693951) :
    Calls Try.prog 25 #[.slice A len cap, .int .i64 n] w (RetB (hasB l n) w) := by
  have HL := hide hl
  have HP := hide hP
  rcases hP.view' with h0 | ⟨b, o, rfl, hbB, hc⟩
  · obtain rfl : len = 0 := by omega
    have HF := hide (hasB_miss (l := l) (n := n) (by omega))
    clear hl h0 hP
    go_enter Try.func25, Try.ntmps25
    go_wp2
    refine wp_loop_rounds 1 ?_
    rw [rounds_succ]
    go_wp2
    go_ret
    exact ⟨by rw [HF.out]; rfl, Below.refl _ _⟩
  have HC := hide hc
  clear hc hP
  rcases rvB_bool l with hv | hv
  · have HV := hide hv
    clear hv hl
    go_enter Try.func25, Try.ntmps25
    go_wp2
    go_loopw [5] (fun i wr => ∃ k : Nat, k ≤ len ∧ i = .int .i64 k ∧ Hid (∀ j, j < k → inR n (l.getD j (0, 0)) = false) ∧ Below w.heap.size w wr) (fun i _ => len - (intOf i).toNat)
    case atStart => exact ⟨0, by omega, rfl, hide (by omega), Below.refl _ _⟩
    case round =>
      obtain ⟨k, hk, rfl, hno, hb⟩ := hrel
      by_cases hlt : k < len
      · obtain ⟨x, y, hxy⟩ := pair_ex l k
        have hs := hb.size
        go_wp2_with fail
        refine (spec_rv l len cap B _ wr HL.out (HP.out.below (hb.mono hB)) (by omega) hm).mono ?_
        rintro e w1 ⟨rfl, hb1⟩
        rw [HV.out]
        have hb' := bto hb hb1
        have c0 := (hb'.cell (p := ⟨b, o + k * 2, none⟩) (show b < w.heap.size by omega)).trans (HC.out k (by rw [HL.out]; omega)).1
        have c1 := (hb'.cell (p := ⟨b, o + k * 2 + 1, none⟩) (show b < w.heap.size by omega)).trans (HC.out k (by rw [HL.out]; omega)).2
        rw [hxy] at c0 c1
        have HX := hide hxy
        clear hxy
        have hi : inR n (x, y) = (decide (x ≤ n) && decide (n < y)) := rfl
        by_cases h1 : x ≤ n
        · by_cases h2 : n < y
          · have HF := hide (hasB_hit HV.out (k := k) (by rw [HL.out]; exact hlt) (by rw [HX.out, hi]; simp [h1, h2]))
            clear hi
            go_wp2
            go_ret
            exact ⟨by rw [HF.out]; rfl, hb'⟩
          · have HN := hide (show inR n (l.getD k (0, 0)) = false by rw [HX.out, hi]; simp [h2])
            clear hi
            go_wp2
            go_roundw
            case rel => exact ⟨k + 1, by omega, by go_num, hide (upto hno.out HN.out), hb'⟩
            case measure => simp [intOf]; omega
        · have HN := hide (show inR n (l.getD k (0, 0)) = false by rw [HX.out, hi]; simp [h1])
          clear hi
          go_wp2
          go_roundw
          case rel => exact ⟨k + 1, by omega, by go_num, hide (upto hno.out HN.out), hb'⟩
          case measure => simp [intOf]; omega
      · obtain rfl : k = len := by omega
        have HF := hide (hasB_miss (l := l) (n := n) (by rw [HL.out]; exact hno.out))
        go_wp2
        go_ret
        exact ⟨by rw [HF.out]; rfl, hb⟩
  · have HV := hide hv
    have HF := hide (hasB_no (n := n) hv)
    have h0 : 0 < len ∨ len = 0 := by omega
    clear hv hl
    rcases h0 with h0 | rfl
    · go_enter Try.func25, Try.ntmps25
      go_wp2
      refine wp_loop_rounds 1 ?_
      rw [rounds_succ]
      go_wp2_with fail
      refine (spec_rv l len cap B _ w HL.out HP.out hB hm).mono ?_
      rintro e w1 ⟨rfl, hb1⟩
      rw [HV.out]
      go_wp2
      go_ret
      exact ⟨by rw [HF.out]; rfl, hb1⟩
    · go_enter Try.func25, Try.ntmps25
      go_wp2
      refine wp_loop_rounds 1 ?_
      rw [rounds_succ]
      go_wp2_with fail
      go_ret
      exact ⟨by rw [HF.out]; rfl, Below.refl _ _⟩

theorem hasFn_any (x y n : Int) (c : Nat) (w : World) (hc : w.cell? ⟨c, 0, none⟩ = some (.int .i64 n)) (hcl : c < w.heap.size) :
    Calls Try.prog 44 #[.agg #[.int .i64 x, .int .i64 y], .pointer (some ⟨c, 0, none⟩)] w (RetB (inR n (x, y)) w) := by
  have hi : inR n (x, y) = (decide (x ≤ n) && decide (n < y)) := rfl
  by_cases h1 : x ≤ n
  · have HI := hide (show inR n (x, y) = decide (n < y) by rw [hi]; simp [h1])
    clear hi
    go_enter Try.func44, Try.ntmps44
    go_wp2
    go_ret
    exact ⟨by rw [HI.out]; rfl, bal (Below.refl _ _) _⟩
  · have HI := hide (show inR n (x, y) = false by rw [hi]; simp [h1])
    clear hi
    go_enter Try.func44, Try.ntmps44
    go_wp2
    go_ret
    exact ⟨by rw [HI.out]; rfl, bal (Below.refl _ _) _⟩


/-- A place in a list, or -1. -/
def IdxB (b : Bool) (w : World) (e : Ending) (w' : World) : Prop := ∃ z : Int, -1 ≤ z ∧ z ≤ 2305843009213693951 ∧ decide (0 ≤ z) = b ∧ e = .returned (.int .i64 z) ∧ Below w.heap.size w w'
set_option maxHeartbeats 1000000 in
theorem idxHas (l : List R2) (n : Int) (c : Nat) (len cap B : Nat) (A : Option Addr) (w : World) (hl : l.length = len) (hP : Prs B w A l) (hB : B ≤ w.heap.size) (hm : len ≤ 2305843009213693951) (hcc : w.cell? ⟨c, 0, none⟩ = some (.int .i64 n)) :
    Calls Try.prog 59 #[.slice A len cap, .func (.func 44) #[] #[.pointer (some ⟨c, 0, none⟩)]] w (IdxB (l.any (inR n)) w) := by
  have HL := hide hl
  have HF1 : ∀ k : Nat, k < l.length → (inR n) (l.getD k (0, 0)) = true → l.any (inR n) = true := fun k hk hr => List.any_eq_true.2 ⟨l[k], List.getElem_mem hk, by simpa [List.getD, hk] using hr⟩
  have HF0 : (∀ k : Nat, k < l.length → (inR n) (l.getD k (0, 0)) = false) → l.any (inR n) = false := fun h => List.any_eq_false.2 fun x hx => by
    obtain ⟨k, hk, rfl⟩ := List.getElem_of_mem hx
    have := h k hk
    simpa [List.getD, hk] using this
  have HF1 := hide HF1
  have HF0 := hide HF0
  rcases hP.view' with h0 | ⟨b, o, rfl, hbB, hc⟩
  · obtain rfl : len = 0 := by omega
    have HN := hide (HF0.out (by omega))
    clear hl h0 hP
    go_enter Try.func59, Try.ntmps59
    go_wp2
    refine wp_loop_rounds 1 ?_
    rw [rounds_succ]
    go_wp2
    go_ret
    exact ⟨-1, by omega, by omega, by rw [HN.out]; rfl, rfl, Below.refl _ _⟩
  have HC := hide hc
  clear hc hP hl
  go_enter Try.func59, Try.ntmps59
  go_wp2
  go_loopw [8] (fun i wr => ∃ k : Nat, k ≤ len ∧ i = .int .i64 k ∧ Hid (∀ j, j < k → (inR n) (l.getD j (0, 0)) = false) ∧ Below w.heap.size w wr) (fun i _ => len - (intOf i).toNat)
  case atStart => exact ⟨0, by omega, rfl, hide (by omega), Below.refl _ _⟩
  case round =>
    obtain ⟨k, hk, rfl, hno, hb⟩ := hrel
    by_cases hlt : k < len
    · obtain ⟨x, y, hxy⟩ := pair_ex l k
      have hs := hb.size
      have c0 := (hb.cell (p := ⟨b, o + k * 2, none⟩) (show b < w.heap.size by omega)).trans (HC.out k (by rw [HL.out]; omega)).1
      have c1 := (hb.cell (p := ⟨b, o + k * 2 + 1, none⟩) (show b < w.heap.size by omega)).trans (HC.out k (by rw [HL.out]; omega)).2
      rw [hxy] at c0 c1
      have HX := hide hxy
      clear hxy
      go_wp2_with fail
      refine (hasFn_any x y n c _ ((hb.cell (p := ⟨c, 0, none⟩) (World.block_lt_of_cell? w _ hcc)).trans hcc) (by have := World.block_lt_of_cell? w _ hcc; simp at this; omega)).mono ?_
      rintro e w1 ⟨rfl, hb1⟩
      have hb' := bto hb hb1
      cases hp : (inR n) (x, y) with
      | true =>
        have HT := hide (HF1.out k (by rw [HL.out]; exact hlt) (by rw [HX.out]; exact hp))
        go_wp2
        go_ret
        exact ⟨k, by omega, by omega, by rw [HT.out]; simp, rfl, hb'⟩
      | false =>
        have HN := hide (show (inR n) (l.getD k (0, 0)) = false by rw [HX.out]; exact hp)
        go_wp2
        go_roundw
        case rel => exact ⟨k + 1, by omega, by go_num, hide (upto hno.out HN.out), hb'⟩
        case measure => simp [intOf]; omega
    · obtain rfl : k = len := by omega
      have HN := hide (HF0.out (by rw [HL.out]; exact hno.out))
      go_wp2
      go_ret
      exact ⟨-1, by omega, by omega, by rw [HN.out]; rfl, rfl, hb⟩
theorem contHas (l : List R2) (n : Int) (c : Nat) (len cap B : Nat) (A : Option Addr) (w : World) (hl : l.length = len) (hP : Prs B w A l) (hB : B ≤ w.heap.size) (hm : len ≤ 2305843009213693951) (hcc : w.cell? ⟨c, 0, none⟩ = some (.int .i64 n)) :
    Calls Try.prog 43 #[.slice A len cap, .func (.func 44) #[] #[.pointer (some ⟨c, 0, none⟩)]] w (RetB (l.any (inR n)) w) := by
  go_enter Try.func43, Try.ntmps43
  go_wp2_with fail
  refine (idxHas l n c len cap B A w hl hP hB hm hcc).mono ?_
  rintro e w1 ⟨z, h1, h2, hz, rfl, hb1⟩
  have HZ := hide hz
  clear hz
  go_wp2_with fail
  go_ret
  exact ⟨ret_bool HZ.out, hb1⟩

theorem impl_has (l : List R2) (n : Int) (len cap B : Nat) (A : Option Addr) (w : World) (hl : l.length = len) (hP : Prs B w A l) (hB : B ≤ w.heap.size) (hm : len ≤ 2305843009213693951) :
    Calls Try.prog 26 #[.slice A len cap, .int .i64 n] w (RetB (hasB l n) w) := by
  have HL := hide hl
  have HP := hide hP
  rcases rvB_bool l with hv | hv
  · have HV := hide hv
    have HF := hide (show hasB l n = l.any (inR n) by unfold hasB; rw [hv]; rfl)
    clear hv hl hP
    go_enter Try.func26, Try.ntmps26
    go_wp2_with fail
    refine (impl_rv l len cap B A _ HL.out (HP.out.alloc hB _) (by simp; omega)).mono ?_
    rintro e w1 ⟨rfl, hb1⟩
    rw [HV.out]
    have H1 := bto (bal (Below.refl _ _) _) hb1
    obtain ⟨hc1, hf1⟩ := bcell hb1
    have hz1 := bsz hb1
    have hcc : w1.cell? ⟨w.heap.size, 0, none⟩ = some (.int .i64 n) := (hc1 w.heap.size 0 (by simp)).trans (World.cell?_alloc_new w #[.int .i64 n] _ 0)
    clear hc1 hf1
    go_wp2_with fail
    refine (contHas l n _ len cap B A _ HL.out (HP.out.below (H1.mono hB)) (by omega) hm hcc).mono ?_
    rintro e w2 ⟨rfl, hb2⟩
    go_wp2_with fail
    go_ret
    exact ⟨by rw [HF.out]; rfl, bto H1 hb2⟩
  · have HV := hide hv
    have HF := hide (hasB_no (n := n) hv)
    clear hv hl hP
    go_enter Try.func26, Try.ntmps26
    go_wp2_with fail
    refine (impl_rv l len cap B A _ HL.out (HP.out.alloc hB _) (by simp; omega)).mono ?_
    rintro e w1 ⟨rfl, hb1⟩
    rw [HV.out]
    go_wp2_with fail
    go_ret
    exact ⟨by rw [HF.out]; rfl, bto (bal (Below.refl _ _) _) hb1⟩
end Go.Proofs.Ytakccgajnmkplaa
