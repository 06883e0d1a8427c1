/- The law FnWorkPlusLast returns true. -/
import Derived.Test.YtdflacnegkgljaaDoorWp4
import Derived.Test.YtdflacnegkgljaaDoorDrW2
import Derived.Test.YtdflacnegkgljaaDoorEq
namespace Go.Proofs.YtdflacnegkgljaaDoor
open Go.RowKit
attribute [local go_sem] lt_cell

theorem wk_parts {l : List D3} {n : Int} (h : wkB (nums l) n = true) : n % 7 < 5 ∧ ∀ k, k < l.length → num3 (l.getD k (0, 0, 0)) ≠ n := by
  unfold wkB at h
  simp only [Bool.and_eq_true, decide_eq_true_eq, Bool.not_eq_true'] at h
  refine ⟨h.1, fun k hk e => ?_⟩
  have h2 := h.2
  rw [nums_has] at h2
  have := List.any_eq_false.1 h2 (l.getD k (0, 0, 0)) (by rw [List.getD_eq_getElem?_getD, List.getElem?_eq_getElem hk]; exact List.getElem_mem hk)
  simp at this
  exact this e
/-- No holiday is that day. -/
theorem hol_ne {l : List D3} {n : Int} (h : wkB (nums l) n = true) (h0 : 0 ≤ n) (h1 : n ≤ 3652058) {k : Nat} (hk : k < l.length) {x y z : Int} (e : l.getD k (0, 0, 0) = (x, y, z)) : ((x == yOf n) && ((y == mOf n) && (z == dOf n))) = false := by
  cases hb : ((x == yOf n) && ((y == mOf n) && (z == dOf n))) with
  | false => rfl
  | true =>
    exfalso
    simp only [Bool.and_eq_true, beq_iff_eq] at hb
    refine (wk_parts h).2 k hk ?_
    rw [e]
    unfold num3
    simp only
    rw [hb.1, hb.2.1, hb.2.2]
    exact (dateD_in h0 h1).2

theorem wpv_key {y mo d n : Int} {l : List D3} {r1 r2 r3 : Int} {ok : Bool} (hV : WpV y mo d n l (r1, r2, r3) ok) (ho : ok = true) (hn : n ≠ 0) :
    vld r1 r2 r3 = true ∧ num r1 r2 r3 % 7 < 5 ∧ ∀ k, k < l.length → ∀ x y z, l.getD k (0, 0, 0) = (x, y, z) → ((x == r1) && ((y == r2) && (z == r3))) = false := by
  generalize hr : ((r1, r2, r3) : D3) = r at hV
  cases hV with
  | bad h => cases ho
  | zero h1 h2 h3 => exact absurd h3 hn
  | no h1 h2 hn1 hn2 M hM hN => cases ho
  | yes h1 h2 hn1 hn2 k hk hN =>
    obtain ⟨rfl, rfl, rfl⟩ : r1 = yOf (num y mo d + 1 + k) ∧ r2 = mOf (num y mo d + 1 + k) ∧ r3 = dOf (num y mo d + 1 + k) := by
      simp only [Prod.mk.injEq] at hr
      exact hr
    have hb := num_bd h1
    have hd := dateD_in (n := num y mo d + 1 + k) (by omega) hk
    refine ⟨hd.1, by rw [hd.2]; exact (wk_parts hN.1).1, fun j hj x y z e => hol_ne hN.1 (by omega) hk hj e⟩

set_option maxRecDepth 100000 in
set_option maxHeartbeats 2000000 in
theorem w_FnWorkPlusLast (w : World) (hM : MD w) (A : Option Addr) (len cap : Nat) (hs : Src w.heap.size w A len) (hc : len ≤ cap) (hm : cap ≤ maxLen) :
    Calls Tryd.prog 11 #[.slice A len cap] w fun e w' => e = .returned (.bool true) ∧ Below w.heap.size w w' := by
  have hm' := hm
  unfold maxLen at hm'
  by_cases hbig : 1048576 < len
  · go_enter Tryd.func11, Tryd.ntmps11
    go_wp2_with fail
    go_ret
    exact ⟨rfl, Below.refl _ _⟩
  · go_enter Tryd.func11, Tryd.ntmps11
    go_wp2_with fail
    refine (drawWP hs (Nat.le_refl _) hc hm).mono ?_
    rintro e w1 ⟨y, mo, d, n, b, cap1, l, rfl, ho1, hl6, hn1, hn2, hb1⟩
    obtain ⟨⟨r1, r2, r3⟩, ok, hV⟩ := wpv_ex y mo d n l
    have HV := hide hV
    have gb : (ok != ok) = false := by simp
    have HB2 := hide (bal hb1 (.cells #[.int .i64 y, .int .i64 mo, .int .i64 d] 25))
    have HO2 := hide (own_belowD ho1 (bal (Below.refl _ _) (.cells #[.int .i64 y, .int .i64 mo, .int .i64 d] 25)))
    have X2 := hide (Blk.new w1 25 #[.int .i64 y, .int .i64 mo, .int .i64 d])
    clear hV hs hc hm hm' ho1 hb1
    go_wp2_with fail
    refine (impl_wp y mo d n l _ _ (w1.alloc (.cells #[.int .i64 y, .int .i64 mo, .int .i64 d] 25)).heap.size _ _ (hM.below HB2.out) rfl (Drs.own HO2.out) (Nat.le_refl _) (by omega) _ _ HV.out).mono ?_
    rintro e w3 ⟨rfl, hb3⟩
    have HB3 := hide (bal (bto HB2.out hb3) (.cells #[.int .i64 r1, .int .i64 r2, .int .i64 r3] 25))
    have HO3 := hide (own_belowD HO2.out (bal hb3 (.cells #[.int .i64 r1, .int .i64 r2, .int .i64 r3] 25)))
    have X3 := hide ((X2.out.below hb3 X2.out.lt).alloc (.cells #[.int .i64 r1, .int .i64 r2, .int .i64 r3] 25))
    have Y3 := hide (Blk.new w3 25 #[.int .i64 r1, .int .i64 r2, .int .i64 r3])
    clear hb3 HB2 HO2 X2
    obtain ⟨c0, c1, c2⟩ := X3.out.cs3
    go_wp2_with fail
    refine (spec_wp y mo d n l _ _ (w3.alloc (.cells #[.int .i64 r1, .int .i64 r2, .int .i64 r3] 25)).heap.size _ _ rfl (Drs.own HO3.out) (Nat.le_refl _) (by omega) _ _ HV.out).mono ?_
    rintro e w4 ⟨rfl, hb4⟩
    have HB4 := hide (bal (bto HB3.out hb4) (.cells #[.int .i64 r1, .int .i64 r2, .int .i64 r3] 25))
    have HO4 := hide (own_belowD HO3.out (bal hb4 (.cells #[.int .i64 r1, .int .i64 r2, .int .i64 r3] 25)))
    have Y4 := hide ((Y3.out.below hb4 Y3.out.lt).alloc (.cells #[.int .i64 r1, .int .i64 r2, .int .i64 r3] 25))
    have Z4 := hide (Blk.new w4 25 #[.int .i64 r1, .int .i64 r2, .int .i64 r3])
    clear hb4 HB3 HO3 X3 Y3 c0 c1 c2
    obtain ⟨c0, c1, c2⟩ := Y4.out.cs3
    obtain ⟨d0, d1, d2⟩ := Z4.out.cs3
    by_cases hk : ok = true ∧ n ≠ 0
    · obtain ⟨rfl, hn⟩ := hk
      obtain ⟨q1, q2, q3⟩ := wpv_key HV.out rfl hn
      have g1 : (n == 0) = false := by simpa using hn
      have HQ1 := hide q1
      have HQ3 := hide q3
      have q4 : num r1 r2 r3 % 7 + 1 < 6 := by omega
      have HQ4 := hide q4
      clear q1 q2 q3 q4 HV
      obtain ⟨WL, hWL⟩ : ∃ W, W = w4.alloc (.cells #[.int .i64 r1, .int .i64 r2, .int .i64 r3] 25) := ⟨_, rfl⟩
      rw [← hWL] at HB4 HO4 Y4 Z4 c0 c1 c2 d0 d1 d2
      have lb := (HO4.out.lt b rfl).2
      have ly := Y4.out.lt
      have HC : Hid (∀ k, k < l.length → ∀ x y z, l.getD k (0, 0, 0) = (x, y, z) → WL.cell? ⟨b, k * 3, none⟩ = some (.int .i64 x) ∧ WL.cell? ⟨b, k * 3 + 1, none⟩ = some (.int .i64 y) ∧ WL.cell? ⟨b, k * 3 + 2, none⟩ = some (.int .i64 z)) := hide fun k hk x y z e => by
        have hg := flatD_get l k hk
        rw [e] at hg
        exact ⟨(HO4.out.cellAt (k * 3) (by omega)).trans hg.1, (HO4.out.cellAt (k * 3 + 1) (by omega)).trans hg.2.1, (HO4.out.cellAt (k * 3 + 2) (by omega)).trans hg.2.2⟩
      have HW := hide hWL
      clear hWL
      go_upto_region 6 with fail
      rw [← HW.out]
      clear HW
      go_wp2_with fail
      clear c0 c1 c2 d0 d1 d2
      go_loopw [10] (fun i wr => ∃ k : Nat, k ≤ l.length ∧ i = .int .i64 k ∧ Below WL.heap.size WL wr) (fun i _ => l.length - (intOf i).toNat)
      case atStart => exact ⟨0, by omega, rfl, Below.refl _ _⟩
      case round =>
        obtain ⟨k, hk, rfl, hb⟩ := hrel
        have hsr := hb.size
        have Yr := Y4.out.below hb ly
        obtain ⟨u0, u1, u2⟩ := Yr.cs3
        by_cases hlt : k < l.length
        · obtain ⟨x, y', z, hxy⟩ := date_ex l k
          obtain ⟨p0, p1, p2⟩ := HC.out k hlt x y' z hxy
          have hne := HQ3.out k hlt x y' z hxy
          have c0 := (hb.cell (p := ⟨b, k * 3, none⟩) lb).trans p0
          have c1 := (hb.cell (p := ⟨b, k * 3 + 1, none⟩) lb).trans p1
          have c2 := (hb.cell (p := ⟨b, k * 3 + 2, none⟩) lb).trans p2
          clear p0 p1 p2 hxy
          cases h1 : x == r1 with
          | false =>
            clear hne
            go_wp2_with fail
            go_quiet (fail)
            go_wp2
            go_roundw
            case rel => exact ⟨k + 1, by omega, by go_num, bdrewN hb _⟩
            case measure => simp [intOf]; omega
          | true =>
            cases h2 : y' == r2 with
            | false =>
              clear hne
              go_wp2_with fail
              go_quiet (fail)
              go_wp2
              go_roundw
              case rel => exact ⟨k + 1, by omega, by go_num, bdrewN hb _⟩
              case measure => simp [intOf]; omega
            | true =>
              have h3 : (z == r3) = false := by
                rw [h1, h2] at hne
                simpa using hne
              clear hne
              go_wp2_with fail
              go_quiet (fail)
              go_wp2
              go_roundw
              case rel => exact ⟨k + 1, by omega, by go_num, bdrewN hb _⟩
              case measure => simp [intOf]; omega
        · obtain rfl : k = l.length := by omega
          have hMr := (hM.below HB4.out).below hb
          have h7 := HQ4.out
          go_wp2_with fail
          refine (impl_weekday r1 r2 r3 wr hMr HQ1.out).mono ?_
          rintro e w7 ⟨rfl, hb7⟩
          have HF := hide (HB4.out.trans ((bto hb hb7).mono HB4.out.size))
          clear u0 u1 u2
          go_wp2_with fail
          go_ret
          exact ⟨rfl, HF.out⟩
    · cases ok with
      | false =>
        clear hk HV
        go_wp2_with fail
        go_ret
        exact ⟨rfl, HB4.out⟩
      | true =>
        obtain rfl : n = 0 := by
          by_cases h : n = 0
          · exact h
          · exact absurd ⟨rfl, h⟩ hk
        clear hk HV
        go_wp2_with fail
        go_ret
        exact ⟨rfl, HB4.out⟩
end Go.Proofs.YtdflacnegkgljaaDoor
