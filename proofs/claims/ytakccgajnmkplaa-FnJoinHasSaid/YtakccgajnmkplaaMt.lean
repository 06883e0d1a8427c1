/- Contracts: what is in both of two lists of ranges. -/
import Derived.Test.YtakccgajnmkplaaCh2
import Derived.Test.YtakccgajnmkplaaRg3
import Derived.Test.YtakccgajnmkplaaRg2
namespace Go.Proofs.Ytakccgajnmkplaa
open Go.RowKit

theorem meetS_app (x y b : List R2) : meetS (x ++ y) b = meetS x b ++ meetS y b := by unfold meetS; rw [List.flatMap_append]
theorem meetR_app (r : R2) (x y : List R2) : meetR r (x ++ y) = meetR r x ++ meetR r y := by unfold meetR; rw [List.flatMap_append]
theorem meetS_one (r : R2) (b : List R2) : meetS [r] b = meetR r b := by unfold meetS; simp
theorem meetR_one (r s : R2) : meetR r [s] = meet1 r s := by unfold meetR; simp
/-- What has been found when place j of row i is next. -/
def mpre (a b : List R2) (i : Nat) (r : R2) (j : Nat) : List R2 := meetS (a.take i) b ++ meetR r (b.take j)
theorem mpre_0 (a b : List R2) (i : Nat) (r : R2) : mpre a b i r 0 = meetS (a.take i) b := by unfold mpre; simp [meetR]
theorem mpre_step {a b : List R2} {i j : Nat} {r s : R2} (hj : j < b.length) (e : b.getD j (0, 0) = s) : mpre a b i r (j + 1) = mpre a b i r j ++ meet1 r s := by
  unfold mpre
  rw [take_snoc hj e, meetR_app, meetR_one, List.append_assoc]
theorem mpre_end {a b : List R2} {i : Nat} {r : R2} (hi : i < a.length) (e : a.getD i (0, 0) = r) : mpre a b i r b.length = meetS (a.take (i + 1)) b := by
  unfold mpre
  rw [take_snoc hi e, meetS_app, meetS_one, List.take_length]
theorem mpre_asc {a b : List R2} (ha : Asc a) (hb : Asc b) {i : Nat} {r : R2} (hi : i < a.length) (e : a.getD i (0, 0) = r) (j : Nat) : Asc (mpre a b i r j) := by
  have h := meet_asc ha hb
  have e1 : meetS a b = mpre a b i r j ++ (meetR r (b.drop j) ++ meetS (a.drop (i + 1)) b) := by
    have e2 : a = a.take (i + 1) ++ a.drop (i + 1) := (List.take_append_drop _ _).symm
    have e3 : meetS a b = meetS (a.take (i + 1)) b ++ meetS (a.drop (i + 1)) b := by rw [← meetS_app, ← e2]
    have e4 : meetR r b = meetR r (b.take j) ++ meetR r (b.drop j) := by rw [← meetR_app, List.take_append_drop]
    rw [e3, take_snoc hi e, meetS_app, meetS_one, e4]
    unfold mpre
    simp [List.append_assoc]
  rw [e1] at h
  exact (asc_app.1 h).1
theorem meetR_len (r : R2) : ∀ b : List R2, (meetR r b).length ≤ b.length
  | [] => by simp [meetR]
  | s :: t => by
    have h1 : meetR r (s :: t) = meet1 r s ++ meetR r t := by unfold meetR; simp
    have h2 : (meet1 r s).length ≤ 1 := by unfold meet1; split <;> simp
    have := meetR_len r t
    rw [h1]
    simp
    omega
theorem meetS_len (b : List R2) (hb : b.length ≤ 8) : ∀ a : List R2, (meetS a b).length ≤ 8 * a.length
  | [] => by simp [meetS]
  | r :: t => by
    have h1 : meetS (r :: t) b = meetR r b ++ meetS t b := by unfold meetS; simp
    have h2 := meetR_len r b
    have := meetS_len b hb t
    rw [h1]
    simp
    omega
theorem mpre_len {a b : List R2} (ha : a.length ≤ 8) (hb : b.length ≤ 8) (i : Nat) (r : R2) (j : Nat) : (mpre a b i r j).length ≤ 100 := by
  unfold mpre
  have h1 := meetS_len b hb (a.take i)
  have h2 := meetR_len r (b.take j)
  have h3 : (a.take i).length ≤ a.length := by rw [List.length_take]; omega
  have h4 : (b.take j).length ≤ b.length := by rw [List.length_take]; omega
  rw [List.length_append]
  omega
theorem addC_asc {c : List R2} {x : R2} (h : Asc (c ++ [x])) : addC c x = c ++ [x] := by simpa using chain_asc [x] c h
/-- What the call gives. -/
def meetV (a b : List R2) : List R2 := if rvB a && rvB b then meetS a b else []
theorem meetV_yes {a b : List R2} (ha : rvB a = true) (hb : rvB b = true) : meetV a b = meetS a b := by unfold meetV; rw [ha, hb]; rfl
theorem meetV_no1 {a b : List R2} (ha : rvB a = false) : meetV a b = [] := by unfold meetV; rw [ha]; rfl
theorem meetV_no2 {a b : List R2} (hb : rvB b = false) : meetV a b = [] := by unfold meetV; rw [hb]; simp
/-- A slice that is just this list, made by the call or nil. -/
def MadeN (E : TypeId) (l : List R2) (w : World) (e : Ending) (w' : World) : Prop :=
  ∃ (A : Option Addr) (cap : Nat), e = .returned (.slice A l.length cap) ∧ w'.ownsRow w.heap.size E 2 (.slice A l.length cap) l.length (flatP l) ∧ Below w.heap.size w w'
theorem own_nil (w : World) (base : Nat) (E : TypeId) : w.ownsRow base E 2 (.slice none 0 0) 0 (flatP []) := ⟨rfl, .inl ⟨rfl, rfl⟩⟩

set_option maxRecDepth 100000 in
set_option maxHeartbeats 4000000 in
theorem impl_meet (a b : List R2) (cap cap' B : Nat) (A A' : Option Addr) (w : World) (hPa : Prs B w A a) (hPb : Prs B w A' b) (hB : B ≤ w.heap.size) :
    Calls Try.prog 31 #[.slice A a.length cap, .slice A' b.length cap'] w (MadeN 36 (meetV a b) w) := by
  have HPb := hide hPb
  have HPa := hide hPa
  have VA := hide hPa.view
  have VB := hide hPb.view
  clear hPa hPb
  go_enter Try.func31, Try.ntmps31
  go_wp2_with fail
  refine (impl_rv a _ _ _ _ _ rfl HPa.out hB).mono ?_
  rintro e w1 ⟨rfl, hb1⟩
  rcases rvB_bool a with hva | hva
  · have hs1 := hb1.size
    go_wp2_with fail
    refine (impl_rv b _ _ _ _ _ rfl (HPb.out.below (hb1.mono (by omega))) (by omega)).mono ?_
    rintro e w2 ⟨rfl, hb2⟩
    have hb02 := bto hb1 hb2
    rcases rvB_bool b with hvb | hvb
    · have hs2 := hb02.size
      have HV := hide (meetV_yes hva hvb)
      obtain ⟨ha8, haa⟩ := rvB_in hva
      obtain ⟨hb8, hba⟩ := rvB_in hvb
      have HAA := hide (asc_of haa)
      have HBA := hide (asc_of hba)
      have HZ := hide hs2
      have C0 := hide (Ch.nil (Blk.new w2 64 #[.pointer none, .pointer none, .pointer none, .nilIface, .int .i64 0]))
      have H0 := bal hb02 (.cells #[.pointer none, .pointer none, .pointer none, .nilIface, .int .i64 0] 64)
      clear hb1 hb2 hb02 hs1 haa hba
      go_wp2_with fail
      go_loopw [22] (fun u wr => ∃ i : Nat, i ≤ a.length ∧ u = .int .i64 i ∧ Hid (Ch wr w2.heap.size (meetS (a.take i) b)) ∧ Below w.heap.size w wr) (fun u _ => a.length - (intOf u).toNat)
      case atStart => exact ⟨0, by omega, rfl, C0, H0⟩
      case round =>
        obtain ⟨i, hi, rfl, hC, hb⟩ := hrel
        obtain ⟨wo, hwo⟩ : ∃ wo : World, wo = wr := ⟨_, rfl⟩
        subst hwo
        by_cases hlt : i < a.length
        · obtain ⟨x, y, hxy⟩ := pair_ex a i
          have HX := hide hxy
          rcases VA.out with h0 | ⟨b0, o0, rfl, hb0, hcs⟩
          · omega
          obtain ⟨c0, c1⟩ := hcs i hlt
          rw [hxy] at c0 c1
          have hbw : b0 < w.heap.size := by omega
          replace c0 := (hb.cell (p := ⟨b0, o0 + i * 2, none⟩) hbw).trans c0
          replace c1 := (hb.cell (p := ⟨b0, o0 + i * 2 + 1, none⟩) hbw).trans c1
          have R0 := hide (Blk.new wo 36 #[.int .i64 x, .int .i64 y])
          have C1 := hide (show Ch (wo.alloc (.cells #[.int .i64 x, .int .i64 y] 36)) w2.heap.size (mpre a b i (x, y) 0) by rw [mpre_0]; exact hC.out.below (bal (Below.refl _ _) _))
          have H1 := bal hb (.cells #[.int .i64 x, .int .i64 y] 36)
          clear hxy hcs hC
          go_wp2_with fail
          go_loopw [28] (fun u wr => ∃ j : Nat, j ≤ b.length ∧ u = .int .i64 j ∧ Hid (Ch wr w2.heap.size (mpre a b i (x, y) j)) ∧ Hid (Blk wr wo.heap.size 36 #[.int .i64 x, .int .i64 y]) ∧ Below w.heap.size w wr) (fun u _ => b.length - (intOf u).toNat)
          case atStart => exact ⟨0, by omega, rfl, C1, R0, H1⟩
          case round =>
            obtain ⟨j, hj, rfl, hC, hR, hb2⟩ := hrel
            have r0 := hR.out.cell 0
            have r1 := hR.out.cell 1
            have rl := hR.out.lt
            simp at r0 r1
            by_cases hlt2 : j < b.length
            · obtain ⟨p, q, hpq⟩ := pair_ex b j
              rcases VB.out with h0 | ⟨b1, o1, rfl, hb1, hcs⟩
              · omega
              obtain ⟨d0, d1⟩ := hcs j hlt2
              rw [hpq] at d0 d1
              have hbw1 : b1 < w.heap.size := by omega
              replace d0 := (hb2.cell (p := ⟨b1, o1 + j * 2, none⟩) hbw1).trans d0
              replace d1 := (hb2.cell (p := ⟨b1, o1 + j * 2 + 1, none⟩) hbw1).trans d1
              have HMx := hide (show (if x < p then p else x) = max x p by split <;> omega)
              have HMn := hide (show (if q < y then q else y) = min y q by split <;> omega)
              go_wp2_with fail
              first | go_region | fail
              rw [HMx.out, HMn.out]
              have hsz := hb2.size
              have HW := hide (bdrew (bal (Below.refl wr.heap.size wr) (.cells #[.int .i64 p, .int .i64 q] 36)))
              have HW0 := hide (bdrew (bal hb2 (.cells #[.int .i64 p, .int .i64 q] 36)))
              have HS := hide (mpre_step (a := a) (i := i) (r := (x, y)) hlt2 hpq)
              have HN := hide (mpre_asc HAA.out HBA.out hlt HX.out (j + 1))
              have HL := hide (mpre_len ha8 hb8 i (x, y) j)
              obtain ⟨f, hf⟩ : ∃ f, f = max x p := ⟨_, rfl⟩
              obtain ⟨g, hg⟩ : ∃ g, g = min y q := ⟨_, rfl⟩
              have HF := hide (show meet1 (x, y) (p, q) = if f < g then [(f, g)] else [] by rw [hf, hg]; rfl)
              rw [← hf, ← hg]
              clear HMx HMn hf hg hpq hcs d0 d1
              by_cases hfg : f < g
              · rw [if_pos hfg] at HF
                rw [HS.out, HF.out] at HN
                have HA := hide (addC_asc HN.out)
                go_wp2_with fail
                refine (add_any w2.heap.size (mpre a b i (x, y) j) f g _ (by have := HL.out; omega) (hC.out.below HW.out)).mono ?_
                rintro e w5 ⟨⟨v, rfl⟩, hch, hbc, hkeep⟩
                have hR5 := hkeep _ _ (hR.out.below HW.out rl)
                have HH := hide (⟨hch, hR5⟩ : _ ∧ _)
                have hz := (hC.out).lt
                have hb5 : Below w.heap.size w w5 := HW0.out.trans (hbc.mono (by have := HZ.out; omega))
                clear hch hR5 hkeep hbc
                go_wp2_with fail
                go_roundw
                case rel =>
                  obtain ⟨hch, hR5⟩ := HH.out
                  rw [HA.out, ← HF.out, ← HS.out] at hch
                  exact ⟨j + 1, by omega, by go_num, hide hch, hide hR5, hb5⟩
                case measure => simp [intOf]; omega
              · rw [if_neg hfg] at HF
                rw [HF.out, List.append_nil] at HS
                go_wp2_with fail
                go_roundw
                case rel => exact ⟨j + 1, by omega, by go_num, hide (by rw [HS.out]; exact hC.out.below HW.out), hide (hR.out.below HW.out rl), HW0.out⟩
                case measure => simp [intOf]; omega
            · obtain rfl : j = b.length := by omega
              go_wp2_with fail
              go_roundw
              case rel => exact ⟨i + 1, by omega, by go_num, by rw [mpre_end hlt HX.out] at hC; exact hC, hb2⟩
              case measure => simp [intOf]; omega
        · obtain rfl : i = a.length := by omega
          have hC1 := hC.out
          rw [List.take_length] at hC1
          go_wp2_with fail
          refine (all_any w2.heap.size _ _ (by have := meetS_len b hb8 a; omega) hC1).mono ?_
          rintro e w5 ⟨g, cap5, rfl, ho5, hb5⟩
          have hs := hb.size
          have HO := hide (own_more ho5 hs)
          have H5 := bto hb hb5
          clear ho5 hb5
          go_wp2_with fail
          go_ret
          rw [MadeN, HV.out]
          exact ⟨_, _, rfl, HO.out, H5⟩
    · have HV := hide (meetV_no2 (a := a) hvb)
      go_wp2_with fail
      go_ret
      rw [MadeN, HV.out]
      exact ⟨none, 0, rfl, own_nil _ _ _, hb02⟩
  · have HV := hide (meetV_no1 (b := b) hva)
    go_wp2_with fail
    go_ret
    rw [MadeN, HV.out]
    exact ⟨none, 0, rfl, own_nil _ _ _, hb1⟩

set_option maxRecDepth 100000 in
set_option maxHeartbeats 4000000 in
theorem spec_meet (a b : List R2) (cap cap' B : Nat) (A A' : Option Addr) (w : World) (hPa : Prs B w A a) (hPb : Prs B w A' b) (hB : B ≤ w.heap.size) (hma : a.length ≤ 1048576) (hmb : b.length ≤ 1048576) :
    Calls Try.prog 30 #[.slice A a.length cap, .slice A' b.length cap'] w (MadeN 36 (meetV a b) w) := by
  obtain ⟨i0, hi, hz0, hz1, hz2⟩ := info_parts info_impl
  have HPb := hide hPb
  have HPa := hide hPa
  have VA := hide hPa.view
  have VB := hide hPb.view
  clear hPa hPb
  have E0 := hide (show (w.alloc (.cells #[] 36)).ownsRow w.heap.size 36 2 (.slice (some ⟨w.heap.size, 0, none⟩) 0 0) 0 (flatP []) from World.ownsRow_lit (base := w.heap.size) (size := 2) (e := 36) w #[] 0 (Nat.le_refl _) (by simp [maxLen]) (by simp))
  have H0 := bal (Below.refl w.heap.size w) (.cells #[] 36)
  go_enter Try.func30, Try.ntmps30
  go_wp2_with fail
  refine (spec_rv a _ _ _ _ _ rfl (HPa.out.below (H0.mono hB)) (Nat.le_trans hB (by simp)) (by omega)).mono ?_
  rintro e w1 ⟨rfl, hb1⟩
  have H1 := bto H0 hb1
  have E1 := hide (own_below E0.out hb1)
  rcases rvB_bool a with hva | hva
  · have hs1 := H1.size
    go_wp2_with fail
    refine (spec_rv b _ _ _ _ _ rfl (HPb.out.below (H1.mono hB)) (by omega) (by omega)).mono ?_
    rintro e w2 ⟨rfl, hb2⟩
    have H2 := bto H1 hb2
    have E2 := hide (own_below E1.out hb2)
    rcases rvB_bool b with hvb | hvb
    · have HV := hide (meetV_yes hva hvb)
      obtain ⟨ha8, haa⟩ := rvB_in hva
      obtain ⟨hb8, hba⟩ := rvB_in hvb
      have E3 := hide (show w2.ownsRow w.heap.size 36 2 (.slice (some ⟨w.heap.size, 0, none⟩) (meetS (a.take 0) b).length 0) (meetS (a.take 0) b).length (flatP (meetS (a.take 0) b)) from E2.out)
      clear hb1 hb2 H0 H1 hs1 haa hba E0 E1 E2
      go_wp2_with fail
      go_loopw [5, 6] (fun v u wr => ∃ (i g c : Nat) (L : List R2), i ≤ a.length ∧ u = .int .i64 i ∧ L.length ≤ 100 ∧ Hid (L = meetS (a.take i) b) ∧ v = .slice (some ⟨g, 0, none⟩) L.length c ∧ Hid (wr.ownsRow w.heap.size 36 2 (.slice (some ⟨g, 0, none⟩) L.length c) L.length (flatP L)) ∧ Below w.heap.size w wr) (fun _ u _ => a.length - (intOf u).toNat)
      case atStart => exact ⟨0, _, _, _, by omega, rfl, by simp [meetS], hide rfl, rfl, E3, H2⟩
      case round =>
        obtain ⟨i, g, c, L, hi', rfl, hL, eL, rfl, hO, hb⟩ := hrel
        obtain ⟨wo, hwo⟩ : ∃ wo : World, wo = wr := ⟨_, rfl⟩
        subst hwo
        by_cases hlt : i < a.length
        · obtain ⟨x, y, hxy⟩ := pair_ex a i
          have HX := hide hxy
          rcases VA.out with h0 | ⟨b0, o0, rfl, hb0, hcs⟩
          · omega
          have HCA := hide (show ∀ W : World, Below w.heap.size w W → W.cell? ⟨b0, o0 + i * 2, none⟩ = some (.int .i64 x) ∧ W.cell? ⟨b0, o0 + i * 2 + 1, none⟩ = some (.int .i64 y) from fun W hW => by
            obtain ⟨c0, c1⟩ := hcs i hlt
            rw [hxy] at c0 c1
            exact ⟨(hW.cell (p := ⟨b0, o0 + i * 2, none⟩) (by show b0 < _; omega)).trans c0, (hW.cell (p := ⟨b0, o0 + i * 2 + 1, none⟩) (by show b0 < _; omega)).trans c1⟩)
          have eM := hide (show L = mpre a b i (x, y) 0 by rw [mpre_0]; exact eL.out)
          clear hxy hcs eL
          go_wp2_with fail
          go_loopw [5, 7] (fun v u wr => ∃ (j g c : Nat) (L : List R2), j ≤ b.length ∧ u = .int .i64 j ∧ L.length ≤ 100 ∧ Hid (L = mpre a b i (x, y) j) ∧ v = .slice (some ⟨g, 0, none⟩) L.length c ∧ Hid (wr.ownsRow w.heap.size 36 2 (.slice (some ⟨g, 0, none⟩) L.length c) L.length (flatP L)) ∧ Below w.heap.size w wr) (fun _ u _ => b.length - (intOf u).toNat)
          case atStart => exact ⟨0, _, _, _, by omega, rfl, hL, eM, rfl, hO, hb⟩
          case round =>
            clear eM hL hO hb
            obtain ⟨j, g, c, L, hj, rfl, hL, eL, rfl, hO, hb2⟩ := hrel
            by_cases hlt2 : j < b.length
            · obtain ⟨p, q, hpq⟩ := pair_ex b j
              rcases VB.out with h0 | ⟨b1, o1, rfl, hb1, hcs⟩
              · omega
              have HCB := hide (show ∀ W : World, Below w.heap.size w W → W.cell? ⟨b1, o1 + j * 2, none⟩ = some (.int .i64 p) ∧ W.cell? ⟨b1, o1 + j * 2 + 1, none⟩ = some (.int .i64 q) from fun W hW => by
                obtain ⟨c0, c1⟩ := hcs j hlt2
                rw [hpq] at c0 c1
                exact ⟨(hW.cell (p := ⟨b1, o1 + j * 2, none⟩) (by show b1 < _; omega)).trans c0, (hW.cell (p := ⟨b1, o1 + j * 2 + 1, none⟩) (by show b1 < _; omega)).trans c1⟩)
              obtain ⟨c0, c1⟩ := HCA.out wr hb2
              obtain ⟨d0, d1⟩ := HCB.out wr hb2
              have HMx := hide (show (if x < p then p else x) = max x p by split <;> omega)
              have HMn := hide (show (if q < y then q else y) = min y q by split <;> omega)
              go_wp2_with fail
              go_region_held3 (fun w' => w'.cell? ⟨b0, o0 + i * 2, none⟩ = some (.int .i64 x) ∧ w'.cell? ⟨b0, o0 + i * 2 + 1, none⟩ = some (.int .i64 y) ∧ w'.cell? ⟨b1, o1 + j * 2, none⟩ = some (.int .i64 p) ∧ w'.cell? ⟨b1, o1 + j * 2 + 1, none⟩ = some (.int .i64 q)) (first | assumption | exact (fun h => ⟨(HCA.out _ h).1, (HCA.out _ h).2, (HCB.out _ h).1, (HCB.out _ h).2⟩) (by repeat' (first | (with_reducible exact Below.refl _ _) | (with_reducible assumption) | (with_reducible refine bal ?_ _) | (with_reducible refine bdrewN ?_ _) | (with_reducible refine bdrew ?_) | (with_reducible refine bset ?_ ?_ _) | (with_reducible refine brow ?_ ?_ _) | omega | (simp; done) | (simp; omega)))) (fail)
              all_goals
                rw [HMx.out, HMn.out]
                have hsz := hb2.size
                have HW0 := hide (bdrew (bal hb2 (.cells #[.int .i64 (max x p), .int .i64 (min y q)] 36)))
                have HS := hide (mpre_step (a := a) (i := i) (r := (x, y)) hlt2 hpq)
                obtain ⟨f, hf⟩ : ∃ f, f = max x p := ⟨_, rfl⟩
                obtain ⟨u, hu⟩ : ∃ u, u = min y q := ⟨_, rfl⟩
                have HF := hide (show meet1 (x, y) (p, q) = if f < u then [(f, u)] else [] by rw [hf, hu]; rfl)
                rw [← hf, ← hu] at HW0 ⊢
                clear HMx HMn hf hu hpq hcs c0 c1 d0 d1
                have hO1 := hO.out.alloc (.cells #[.int .i64 f, .int .i64 u] 36)
                by_cases hfg : f < u
                · rw [if_pos hfg] at HF
                  rw [HF.out, ← eL.out] at HS
                  have hL2 := mpre_len ha8 hb8 i (x, y) (j + 1)
                  rw [HS.out] at hL2
                  go_wp2_with (at_builtin; refine wpList_append_lies _ rfl (.tmp 59) (.tmp 61) _ rfl w.heap.size 36 i0 (.agg #[.int .i64 0, .int .i64 0]) 2 16 Try.underlying25 hi hz0 hz1 hz2 rfl (by omega) _ L.length (flatP L) rfl ((hO1.drew).alloc _) ⟨wr.heap.size + 1, 0, none⟩ 1 1 [.int .i64 f, .int .i64 u] rfl rfl (news2e _ _ _ _ _ (by simp)) (pair_one _ _) (by omega) (by unfold maxLen; omega) (by omega) (by simp; omega) _ rfl ?_; intro b' cap'' w3 hown' hgrow' hat' hlt')
                  have hgb := (hO1.lt g rfl).1
                  have hB3 : Below w.heap.size w w3 := below_only (HW0.out.alloc (by simp; omega) _) (show World.grownBy _ w3 (some g) from hgrow') hgb (by simp; omega)
                  have HO3 := hide (own_app hown')
                  clear hown' hgrow' hat' hlt' hO1
                  go_roundw
                  case rel =>
                    refine ⟨j + 1, b', cap'', L ++ [(f, u)], by omega, by go_num, hL2, hide HS.out.symm, by rw [slen], hide ?_, hB3⟩
                    rw [slen]
                    exact HO3.out
                  case measure => simp [intOf]; omega
                · rw [if_neg hfg] at HF
                  rw [HF.out, List.append_nil, ← eL.out] at HS
                  go_wp2_with fail
                  go_roundw
                  case rel => exact ⟨j + 1, g, c, L, by omega, by go_num, hL, hide HS.out.symm, rfl, hide hO1.drew, HW0.out⟩
                  case measure => simp [intOf]; omega
            · obtain rfl : j = b.length := by omega
              go_wp2_with fail
              go_roundw
              case rel => exact ⟨i + 1, g, c, L, by omega, by go_num, hL, by rw [mpre_end hlt HX.out] at eL; exact eL, rfl, hO, hb2⟩
              case measure => simp [intOf]; omega
        · obtain rfl : i = a.length := by omega
          have e1 := eL.out
          rw [List.take_length] at e1
          have HE := hide e1
          clear e1
          go_wp2_with fail
          go_ret
          rw [MadeN, HV.out, ← HE.out]
          exact ⟨_, _, rfl, hO.out, hb⟩
    · have HV := hide (meetV_no2 (a := a) hvb)
      go_wp2_with fail
      go_ret
      rw [MadeN, HV.out]
      exact ⟨_, _, rfl, E2.out, H2⟩
  · have HV := hide (meetV_no1 (b := b) hva)
    go_wp2_with fail
    go_ret
    rw [MadeN, HV.out]
    exact ⟨_, _, rfl, E1.out, H1⟩
end Go.Proofs.Ytakccgajnmkplaa
