/- Contracts: the offset of a zone at an instant (the program's and the reference's). -/
import Derived.Test.YtjdlffkbhaieaaaDoorZn7
import Derived.Test.YtjdlffkbhaieaaaDoorZn3
namespace Go.Proofs.YtjdlffkbhaieaaaDoor
open Go.RowKit
attribute [local go_sem] lt_cell

def RetI (n : Int) (w : World) (e : Ending) (w' : World) : Prop := e = .returned (.int .i64 n) ∧ Below w.heap.size w w'

set_option maxHeartbeats 2000000 in
theorem offsetAt_any (o t : Int) (l : List R2) (len cap B : Nat) (A : Option Addr) (w : World) (hu : Up l) (hl : l.length = len) (hP : Prs B w A l) (hB : B ≤ w.heap.size) (hc : len ≤ cap) (hm : cap ≤ 9223372036854775807) :
    Calls Tryd.prog 55 #[.agg #[.int .i64 o, .slice A len cap], .int .i64 t] w (RetI (offAt o l t) w) := by
  have HL := hide hl
  have HP := hide hP
  have HU := hide hu
  clear hl hP hu
  go_enter Tryd.func55, Tryd.ntmps55
  go_wp2_with fail
  refine (treeOf_any len l len cap B A _ (Nat.le_refl _) HL.out (HP.out.alloc hB _) (by simp; omega) hc hm).mono ?_
  rintro e w1 ⟨p, T, rfl, tr, el, hb1⟩
  have H1 := bto (bal (Below.refl w.heap.size w) (.cells #[.int .i64 o, .slice A len cap] 36)) hb1
  have HT := hide tr
  have HE := hide (show T.at o t = offAt o l t by rw [Tree.at_eq (by rw [el]; exact HU.out), el])
  have HZ := hide (⟨H1, hb1⟩ : _ ∧ _)
  clear tr el hb1 H1
  go_wp2_with fail
  go_loopw [5, 6] (fun u v wr => ∃ (T' : Tree) (o' : Int) (p' : Option Addr), u = .int .i64 o' ∧ v = .pointer p' ∧ Hid (Tr w1 p' T') ∧ Hid (T'.at o' t = offAt o l t) ∧ Below w1.heap.size w1 wr) (fun _ v _ => pv v)
  case atStart => exact ⟨T, o, p, rfl, rfl, HT, HE, Below.refl _ _⟩
  case round =>
    obtain ⟨T', o', p', rfl, rfl, tr, ea, hb⟩ := hrel
    cases T' with
    | leaf =>
      obtain rfl : p' = none := tr.out
      go_wp2
      go_ret
      exact ⟨by rw [← ea.out]; rfl, bto HZ.out.1 hb⟩
    | node x y L R =>
      obtain ⟨b, pl, pr, rfl, hpl, hpr, hB', tl, trr⟩ := tr.out
      have hBr := hB'.below hb hB'.lt
      have c0 := hBr.cell 0
      have c1 := hBr.cell 1
      have c2 := hBr.cell 2
      have c3 := hBr.cell 3
      have hlt := hBr.lt
      simp at c0 c1 c2 c3
      have HTL := hide tl
      have HTR := hide trr
      have EA := hide (show (if x ≤ t then R.at y t else L.at o' t) = offAt o l t from ea.out)
      clear tl trr hBr hB' tr ea
      by_cases h : x ≤ t
      · have EA' := hide (show R.at y t = offAt o l t by have := EA.out; rwa [if_pos h] at this)
        go_wp2
        first | (go_quiet (fail)) | fail
        go_wp2
        go_roundw
        case rel => exact ⟨R, y, pr, rfl, rfl, HTR, EA', bdrewN hb _⟩
        case measure => exact Nat.lt_succ_of_le hpr
      · have EA' := hide (show L.at o' t = offAt o l t by have := EA.out; rwa [if_neg h] at this)
        go_wp2
        go_roundw
        case rel => exact ⟨L, o', pl, rfl, rfl, HTL, EA', hb⟩
        case measure => exact Nat.lt_succ_of_le hpl

theorem offAt_at {o t : Int} {l : List R2} {k : Nat} (hk : k ≤ l.length) (h : ∀ i, i < k → tA l i ≤ t) (hs : k = l.length ∨ (k < l.length ∧ t < tA l k)) : offAt o l t = oA o l k := by
  rw [offAt_drop k hk h]
  rcases hs with rfl | ⟨hs, hlt⟩
  · rw [List.drop_length]; rfl
  · rw [List.drop_eq_getElem_cons hs]
    unfold offAt
    rw [if_neg]
    have : tA l k = l[k].1 := by unfold tA; simp [List.getD, hs]
    omega

set_option maxHeartbeats 2000000 in
theorem l22Offset_any (o t : Int) (l : List R2) (len cap B : Nat) (A : Option Addr) (w : World) (hl : l.length = len) (hP : Prs B w A l) (hB : B ≤ w.heap.size) (hm : len ≤ 1048576) :
    Calls Tryd.prog 45 #[.agg #[.int .i64 o, .slice A len cap], .int .i64 t] w (RetI (offAt o l t) w) := by
  have HL := hide hl
  have HV := hide hP.view
  have hs : len = 0 ∨ ∃ b o, A = some ⟨b, o, none⟩ := by
    rcases hP.view with h | ⟨b, o, h, _⟩
    · exact .inl (by omega)
    · exact .inr ⟨b, o, h⟩
  clear hP hl
  have main : ∀ A' : Option Addr, A' = A → (len = 0 ∨ ∃ b o, A' = some ⟨b, o, none⟩) → Calls Tryd.prog 45 #[.agg #[.int .i64 o, .slice A' len cap], .int .i64 t] w (RetI (offAt o l t) w) := by
    intro A' hA' hs
    have HA := hide hA'
    clear hA'
    go_enter Tryd.func45, Tryd.ntmps45
    go_wp2_with fail
    have hx0 := hide (Blk.new w 36 #[.int .i64 o, .slice A' len cap])
    have hb0 := bal (Below.refl w.heap.size w) (.cells #[.int .i64 o, .slice A' len cap] 36)
    go_loopw [5, 6] (fun u i wr => ∃ (k : Nat) (p : Int), k ≤ len ∧ i = .int .i64 k ∧ u = .int .i64 p ∧ Hid (p = oA o l k) ∧ Hid (Blk wr w.heap.size 36 #[.int .i64 o, .slice A' len cap]) ∧ Hid (∀ j, j < k → tA l j ≤ t) ∧ Below w.heap.size w wr) (fun _ i _ => len - (intOf i).toNat)
    case atStart => exact ⟨0, o, by omega, rfl, rfl, hide (oA_0 o l).symm, hx0, hide (by omega), hb0⟩
    case round =>
      obtain ⟨k, p, hk, rfl, rfl, hp, hX, HK, hb⟩ := hrel
      have hsz := hb.size
      have x0 := hX.out.cell 0
      have x1 := hX.out.cell 1
      have xl := hX.out.lt
      simp at x0 x1
      by_cases hlt : k < len
      · rcases hs with hs | ⟨b0, o0, rfl⟩
        · omega
        have hcs : ∀ i, i < l.length → b0 < B ∧ w.cell? ⟨b0, o0 + i * 2, none⟩ = some (.int .i64 (l.getD i (0, 0)).1) ∧ w.cell? ⟨b0, o0 + i * 2 + 1, none⟩ = some (.int .i64 (l.getD i (0, 0)).2) := by
          rcases HV.out with h | ⟨b1, o1, e1, h1, h2⟩
          · intro i hi; omega
          · rw [← HA.out] at e1
            cases e1
            exact fun i hi => ⟨h1, h2 i hi⟩
        obtain ⟨x, y, hxy⟩ := pair_ex l k
        obtain ⟨hbB, c0, c1⟩ := hcs k (by rw [HL.out]; exact hlt)
        rw [hxy] at c0 c1
        have hbw : b0 < w.heap.size := by omega
        replace c0 := (hb.cell (p := ⟨b0, o0 + k * 2, none⟩) hbw).trans c0
        replace c1 := (hb.cell (p := ⟨b0, o0 + k * 2 + 1, none⟩) hbw).trans c1
        have hkl : Hid (k < l.length) := hide (by rw [HL.out]; exact hlt)
        have HX := hide hxy
        have HT := hide (show tA l k = x by unfold tA; rw [hxy])
        have HY := hide (show y = oA o l (k + 1) by rw [oA_succ hkl.out, hxy])
        clear hxy hcs
        by_cases h : x ≤ t
        · have HN := hide (upto HK.out (show tA l k ≤ t by rw [HT.out]; exact h))
          go_wp2
          go_roundw
          case rel => exact ⟨k + 1, y, by omega, by go_num, rfl, HY, hX, HN, hb⟩
          case measure => simp [intOf]; omega
        · have HR := hide (offAt_at (o := o) (Nat.le_of_lt hkl.out) HK.out (.inr ⟨hkl.out, by rw [HT.out]; omega⟩))
          have hd : decide (x ≤ t) = false := by simp; omega
          go_wp2
          go_ret
          exact ⟨by rw [HR.out, ← hp.out]; rfl, hb⟩
      · obtain rfl : k = len := by omega
        have HR := hide (offAt_at (o := o) (k := k) (by rw [HL.out]; omega) HK.out (.inl HL.out.symm))
        go_wp2
        go_ret
        exact ⟨by rw [HR.out, ← hp.out]; rfl, hb⟩
  exact main A rfl hs

/-- What both tell of an instant. -/
def zoV (o : Int) (l : List R2) (t : Int) : Int × Bool := if zvB o l && insB t then (offAt o l t, true) else (0, false)
theorem zoV_no1 {o : Int} {l : List R2} {t : Int} (h : zvB o l = false) : zoV o l t = (0, false) := by unfold zoV; rw [h]; rfl
theorem zoV_no2 {o : Int} {l : List R2} {t : Int} (h : insB t = false) : zoV o l t = (0, false) := by unfold zoV; rw [h]; simp
theorem zoV_yes {o : Int} {l : List R2} {t : Int} (h : zvB o l = true) (h' : insB t = true) : zoV o l t = (offAt o l t, true) := by unfold zoV; rw [h, h']; rfl
def RetIB (r : Int × Bool) (w : World) (e : Ending) (w' : World) : Prop := e = .returned (.tuple #[.int .i64 r.1, .bool r.2]) ∧ Below w.heap.size w w'

theorem impl_zo (o t : Int) (l : List R2) (len cap B : Nat) (A : Option Addr) (w : World) (hl : l.length = len) (hP : Prs B w A l) (hB : B ≤ w.heap.size) (hc : len ≤ cap) (hm : cap ≤ 9223372036854775807) :
    Calls Tryd.prog 22 #[.agg #[.int .i64 o, .slice A len cap], .int .i64 t] w (RetIB (zoV o l t) w) := by
  have HL := hide hl
  have HP := hide hP
  clear hl hP
  go_enter Tryd.func22, Tryd.ntmps22
  go_wp2_with fail
  refine (impl_zv o l len cap B A _ HL.out (HP.out.alloc hB _) (by simp; omega)).mono ?_
  rintro e w1 ⟨rfl, hb1⟩
  have X1 : Blk w1 w.heap.size 36 #[.int .i64 o, .slice A len cap] := (Blk.new w _ _).below hb1 (by simp)
  have c0 := X1.cell 0
  have c1 := X1.cell 1
  have hs1 := X1.lt
  simp at c0 c1
  have H1 := bto (bal (Below.refl w.heap.size w) (.cells #[.int .i64 o, .slice A len cap] 36)) hb1
  clear X1
  cases hv : zvB o l with
  | false =>
    have HR := hide (zoV_no1 (t := t) hv)
    go_wp2_with fail
    go_ret2
    exact ⟨by rw [HR.out]; rfl, H1⟩
  | true =>
    cases hi : insB t with
    | false =>
      have HR := hide (zoV_no2 (o := o) (l := l) hi)
      go_wp2_with (go_at_call 54; refine (instantValid_any _ _).mono ?_; rintro e w' ⟨rfl, rfl⟩)
      go_ret2
      exact ⟨by rw [HR.out]; rfl, H1⟩
    | true =>
      have HR := hide (zoV_yes hv hi)
      have HU := hide (up_of (zv_of hv))
      go_wp2_with (go_at_call 54; refine (instantValid_any _ _).mono ?_; rintro e w' ⟨rfl, rfl⟩)
      refine (offsetAt_any o t l len cap B A _ HU.out HL.out (HP.out.below (H1.mono hB)) (by omega) hc hm).mono ?_
      rintro e w2 ⟨rfl, hb2⟩
      go_wp2_with fail
      go_ret2
      exact ⟨by rw [HR.out]; rfl, bto H1 hb2⟩

end Go.Proofs.YtjdlffkbhaieaaaDoor
