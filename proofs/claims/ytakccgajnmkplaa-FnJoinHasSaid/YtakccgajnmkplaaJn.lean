/- Contracts: ranges are joined (the reference's). -/
import Derived.Test.YtakccgajnmkplaaPut
import Derived.Test.YtakccgajnmkplaaRg2
namespace Go.Proofs.Ytakccgajnmkplaa
open Go.RowKit

def joinOk (l : List R2) : Bool := decide (l.length ≤ 8) && l.all rB
/-- A new slice that is just this list, and whether it went well. -/
def MadeJ (E : TypeId) (l : List R2) (ok : Bool) (w : World) (e : Ending) (w' : World) : Prop :=
  ∃ b cap : Nat, e = .returned (.tuple #[.slice (some ⟨b, 0, none⟩) l.length cap, .bool ok]) ∧ w'.ownsRow w.heap.size E 2 (.slice (some ⟨b, 0, none⟩) l.length cap) l.length (flatP l) ∧ Below w.heap.size w w'
theorem joinOk_in {l : List R2} (h : joinOk l = true) : l.length ≤ 8 ∧ ∀ r ∈ l, rB r = true := by
  unfold joinOk at h
  simp only [Bool.and_eq_true, decide_eq_true_eq, List.all_eq_true] at h
  exact h
theorem joinOk_long {l : List R2} (h : 8 < l.length) : joinOk l = false := by unfold joinOk; simp; omega
theorem joinOk_bad {l : List R2} {k : Nat} {r : R2} (hk : k < l.length) (e : l.getD k (0, 0) = r) (h : rB r = false) : joinOk l = false := by
  unfold joinOk
  have : l.all rB = false := by
    rw [List.all_eq_false]
    refine ⟨l[k], List.getElem_mem hk, ?_⟩
    have ex : l[k] = r := by simpa [List.getD, hk] using e
    rw [ex, h]
    simp
  rw [this]; simp
theorem joinOk_good {l : List R2} (h : l.length ≤ 8) (hk : ∀ i, i < l.length → rB (l.getD i (0, 0)) = true) : joinOk l = true := by
  unfold joinOk
  have : l.all rB = true := by
    rw [List.all_eq_true]
    intro x hx
    obtain ⟨i, hi, rfl⟩ := List.getElem_of_mem hx
    have := hk i hi
    simpa [List.getD, hi] using this
  rw [this]; simp [h]
theorem take_rB {l : List R2} {k : Nat} (hk : ∀ i, i < k → rB (l.getD i (0, 0)) = true) : ∀ r ∈ l.take k, rB r = true := by
  intro r hr
  obtain ⟨i, hi, rfl⟩ := List.getElem_of_mem hr
  have hi' : i < k ∧ i < l.length := by simp at hi; omega
  have := hk i hi'.1
  simpa [List.getD, hi'.2] using this

set_option maxHeartbeats 2000000 in
theorem spec_join (l : List R2) (len cap B : Nat) (A : Option Addr) (w : World) (hl : l.length = len) (hP : Prs B w A l) (hB : B ≤ w.heap.size) :
    Calls Try.prog 38 #[.slice A len cap] w (MadeJ 36 (if joinOk l then joinS l else []) (joinOk l) w) := by
  have HL := hide hl
  have HP := hide hP
  have ho0 := World.ownsRow_lit (base := w.heap.size) (size := 2) (e := 36) w #[] 0 (Nat.le_refl _) (by simp [maxLen]) (by simp)
  have HO0 := hide ho0
  clear ho0
  by_cases h8 : 8 < len
  · have HF := hide (joinOk_long (l := l) (by omega))
    clear hl hP
    rw [HF.out]
    go_enter Try.func38, Try.ntmps38
    go_wp2
    go_ret2
    exact ⟨w.heap.size, 0, rfl, HO0.out, (Below.refl _ _).alloc (Nat.le_refl _) _⟩
  rcases hP.view with h0 | ⟨b, o, rfl, hbB, hc⟩
  · obtain rfl : len = 0 := by omega
    have e : l = [] := by cases l; rfl; simp at h0
    subst e
    clear hl hP h0
    go_enter Try.func38, Try.ntmps38
    go_wp2
    refine wp_loop_rounds 1 ?_
    rw [rounds_succ]
    go_wp2
    go_ret2
    exact ⟨w.heap.size, 0, rfl, HO0.out, (Below.refl _ _).alloc (Nat.le_refl _) _⟩
  have HC := hide hc
  have h8' : len ≤ 8 := by omega
  have hbw : b < w.heap.size := by omega
  clear hc hP hl
  have goal : ∀ b1 (l1 : List R2), b1 = joinOk l → l1 = (if joinOk l then joinS l else []) → Calls Try.prog 38 #[.slice (some ⟨b, o, none⟩) len cap] w (MadeJ 36 l1 b1 w) := by
    intro b1 l1 hb1 hl1
    have HB1 := hide hb1
    have HL1 := hide hl1
    clear hb1 hl1
    go_enter Try.func38, Try.ntmps38
    go_wp2_with fail
    go_loopw [4, 5] (fun v i wr => ∃ (k : Nat) (b' cap' : Nat) (ou : List R2), k ≤ len ∧ i = .int .i64 k ∧ v = .slice (some ⟨b', 0, none⟩) ou.length cap' ∧ Hid (ou = (l.take k).foldl put []) ∧ Hid (wr.ownsRow w.heap.size 36 2 (.slice (some ⟨b', 0, none⟩) ou.length cap') ou.length (flatP ou)) ∧ Hid (∀ j, j < k → rB (l.getD j (0, 0)) = true) ∧ Below w.heap.size w wr) (fun _ i _ => len - (intOf i).toNat)
    case atStart => exact ⟨0, _, _, [], by omega, rfl, rfl, hide rfl, HO0, hide (by omega), (Below.refl _ _).alloc (Nat.le_refl _) _⟩
    case round =>
      obtain ⟨k, b', cap', ou, hk, rfl, rfl, hf, hO, hrb, hb⟩ := hrel
      have hsz := hb.size
      by_cases hlt : k < len
      · obtain ⟨x, y, hxy⟩ := pair_ex l k
        have c0 := (hb.cell (p := ⟨b, o + k * 2, none⟩) hbw).trans (HC.out k (by rw [HL.out]; omega)).1
        have c1 := (hb.cell (p := ⟨b, o + k * 2 + 1, none⟩) hbw).trans (HC.out k (by rw [HL.out]; omega)).2
        rw [hxy] at c0 c1
        have HXY := hide hxy
        clear hxy
        cases hr : rB (x, y) with
        | false =>
          have HF := hide (joinOk_bad (by rw [HL.out]; exact hlt) HXY.out hr)
          go_wp2_with fail
          refine (l32Range_any _ _ _).mono ?_
          rintro e w1 ⟨rfl, hb1⟩
          rw [hr]
          go_wp2_with fail
          go_ret2
          have e1 := HB1.out
          have e2 := HL1.out
          rw [HF.out] at e1 e2
          subst e1
          simp at e2
          subst e2
          have hbo := bto hb hb1
          exact ⟨w1.heap.size, 0, rfl, World.ownsRow_lit (base := w.heap.size) (size := 2) (e := 36) w1 #[] 0 hbo.size (by simp [maxLen]) (by simp), bal hbo _⟩
        | true =>
          have hj := joinS_law (l.take k) (take_rB hrb.out)
          have hou : ou.length ≤ 8 := by
            have h1 := hj.2.2.2
            have h2 : (l.take k).length ≤ k := List.length_take_le _ _
            rw [hf.out]
            show (joinS (l.take k)).length ≤ 8
            omega
          have HR := hide (show rB (l.getD k (0, 0)) = true by rw [HXY.out]; exact hr)
          have HFo := hide ((fold_take put [] (by rw [HL.out]; exact hlt) HXY.out).symm)
          clear hj
          go_wp2_with fail
          refine (l32Range_any _ _ _).mono ?_
          rintro e w1 ⟨rfl, hb1⟩
          rw [hr]
          have hb' := bto hb hb1
          have hO1 := own_below hO.out hb1
          replace c0 := (hb'.cell (p := ⟨b, o + k * 2, none⟩) hbw).trans ((hb.cell (p := ⟨b, o + k * 2, none⟩) hbw).symm.trans c0)
          replace c1 := (hb'.cell (p := ⟨b, o + k * 2 + 1, none⟩) hbw).trans ((hb.cell (p := ⟨b, o + k * 2 + 1, none⟩) hbw).symm.trans c1)
          go_wp2_with fail
          refine (put_any ou x y ou.length cap' _ _ _ rfl (Prs.own hO1) (Nat.le_refl _) (by omega)).mono ?_
          rintro e w2 ⟨b2, cap2, rfl, ho2, hb2⟩
          have hs1 := hb'.size
          have hb'' := bto hb' hb2
          have H := hide (own_more ho2 hs1)
          clear ho2 hO1 c0 c1
          go_wp2_with fail
          go_roundw
          case rel =>
            refine ⟨k + 1, b2, cap2, put ou (x, y), by omega, by go_num, rfl, hide ?_, H, hide (upto hrb.out HR.out), hb''⟩
            rw [hf.out]
            exact HFo.out
          case measure => simp [intOf]; omega
      · obtain rfl : k = len := by omega
        have HF := hide (joinOk_good (l := l) (by rw [HL.out]; exact h8') (by rw [HL.out]; exact hrb.out))
        go_wp2
        go_ret2
        have e1 := HB1.out
        have e2 := HL1.out
        rw [HF.out] at e1 e2
        subst e1
        simp at e2
        have e3 := hf.out
        rw [List.take_of_length_le (by rw [HL.out]; omega)] at e3
        have e4 : l1 = ou := by rw [e2, e3]; rfl
        subst e4
        exact ⟨b', cap', rfl, hO.out, hb⟩
  exact goal _ _ rfl rfl
end Go.Proofs.Ytakccgajnmkplaa
