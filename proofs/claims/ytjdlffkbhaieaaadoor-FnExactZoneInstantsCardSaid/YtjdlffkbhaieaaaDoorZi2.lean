/- Contracts: the instants of a local time (the reference's). -/
import Derived.Test.YtjdlffkbhaieaaaDoorZi
namespace Go.Proofs.YtjdlffkbhaieaaaDoor
open Go.RowKit

theorem own_far {base : Nat} {e : TypeId} {k n c b g : Nat} {xs : List Value} {w w' : World} (h : w.ownsRow base e k (.slice (some ⟨b, 0, none⟩) n c) n xs) (hg : w.grownBy w' (some g)) (hne : b ≠ g) : w'.ownsRow base e k (.slice (some ⟨b, 0, none⟩) n c) n xs :=
  h.kept hg (.inr fun e => hne (by simp [Value.ownBlock] at e; omega))
theorem insS_len (o : Int) (l : List R2) (loc : Int) (k : Nat) : (insS o l loc k).length ≤ k := (ins_len o l loc k).1
theorem insS_yes {o : Int} {l : List R2} {loc : Int} {k : Nat} (h : segB l k (iA o l loc k) = true) : insS o l loc (k + 1) = insS o l loc k ++ [iA o l loc k] := by rw [insS_succ, if_pos h]
theorem insS_no {o : Int} {l : List R2} {loc : Int} {k : Nat} (h : segB l k (iA o l loc k) = false) : insS o l loc (k + 1) = insS o l loc k := by rw [insS_succ, h]; simp

set_option maxRecDepth 100000 in
set_option maxHeartbeats 4000000 in
theorem l22Instants_any (o loc : Int) (l : List R2) (len cap B : Nat) (A : Option Addr) (w : World) (hl : l.length = len) (hP : Prs B w A l) (hB : B ≤ w.heap.size) (hZ : ZV o l) (hl0 : 0 ≤ loc) (hl1 : loc ≤ 315537984000000) :
    Calls Tryd.prog 60 #[.agg #[.int .i64 o, .slice A len cap], .int .i64 loc] w (MadeI (insS o l loc (l.length + 1)) w) := by
  obtain ⟨i0, hi, hz0, hz1, hz2⟩ := info_int'
  have HL := hide hl
  have HP := hide hP
  have HV := hide hP.view
  have hlen : len ≤ 6 := by have := hZ.len; omega
  have hs : len = 0 ∨ ∃ b o, A = some ⟨b, o, none⟩ := by
    rcases hP.view with h | ⟨b, o, h, _⟩
    · exact .inl (by omega)
    · exact .inr ⟨b, o, h⟩
  clear hP hl
  have main : ∀ A' : Option Addr, A' = A → (len = 0 ∨ ∃ b o, A' = some ⟨b, o, none⟩) → Calls Tryd.prog 60 #[.agg #[.int .i64 o, .slice A' len cap], .int .i64 loc] w (MadeI (insS o l loc (l.length + 1)) w) := by
    intro A' hA' hs
    have HA := hide hA'
    clear hA'
    have hx0 := (Blk.new w 36 #[.int .i64 o, .slice A' len cap]).alloc (.cells #[] 3)
    have hb0 := bal (bal (Below.refl w.heap.size w) (.cells #[.int .i64 o, .slice A' len cap] 36)) (.cells #[] 3)
    have hr0 : ((w.alloc (.cells #[.int .i64 o, .slice A' len cap] 36)).alloc (.cells #[] 3)).ownsRow (w.heap.size + 1) 3 1 (.slice (some ⟨w.heap.size + 1, 0, none⟩) 0 0) 0 (flatI []) := by
      have := World.ownsRow_lit (base := w.heap.size + 1) (size := 1) (e := 3) (w.alloc (.cells #[.int .i64 o, .slice A' len cap] 36)) #[] 0 (by simp) (by simp [maxLen]) (by simp)
      simpa [flatI] using this
    go_enter Tryd.func60, Tryd.ntmps60
    go_wp2_with fail
    refine (l22Offsets_any o l len cap B A' _ HL.out ?_ (by simp; omega) (by omega)).mono ?_
    · exact (show Prs B w A' l by rw [HA.out]; exact HP.out).below (hb0.mono hB)
    rintro e w1 ⟨ob, oc, rfl, ho1, hb1⟩
    have hob := ho1.lt ob rfl
    have hx1 := hide (hx0.below hb1 hx0.lt)
    have hr1 := hide (own_below hr0 hb1)
    have H1 := hide (bto hb0 hb1)
    have HO1 := hide ho1
    simp at hob
    clear hx0 hb0 hr0 ho1 hb1
    rw [show (offs o l).length = len + 1 by rw [offs_len, HL.out]] at HO1 ⊢
    go_wp2_with fail
    go_loopw [5, 7] (fun u i wr => ∃ (k b c n : Nat), k ≤ len + 1 ∧ i = .int .i64 k ∧ u = .slice (some ⟨b, 0, none⟩) n c ∧ Hid ((insS o l loc k).length = n) ∧ n ≤ k ∧ b ≠ ob ∧ Hid (wr.ownsRow (w.heap.size + 1) 3 1 (.slice (some ⟨b, 0, none⟩) n c) n (flatI (insS o l loc k))) ∧ Hid (Blk wr w.heap.size 36 #[.int .i64 o, .slice A' len cap]) ∧ Hid (wr.ownsRow (w.heap.size + 1 + 1) 3 1 (.slice (some ⟨ob, 0, none⟩) (len + 1) oc) (len + 1) (flatI (offs o l))) ∧ Hid (Below w.heap.size w wr)) (fun _ i _ => len + 1 - (intOf i).toNat)
    case atStart => exact ⟨0, w.heap.size + 1, 0, 0, by omega, rfl, rfl, hide rfl, by omega, by omega, hr1, hx1, hide (by simpa using HO1.out), H1⟩
    case round =>
      obtain ⟨k, b, c, n, hk, rfl, rfl, hn, hnk, hbo, hR, hX, hO, hB'⟩ := hrel
      have hsz := hB'.out.size
      have x0 := hX.out.cell 0
      have x1 := hX.out.cell 1
      have xl := hX.out.lt
      simp at x0 x1
      by_cases hlt : k < len + 1
      · obtain ⟨p, hp⟩ : ∃ p, p = oA o l k := ⟨_, rfl⟩
        have co : wr.cell? ⟨ob, k, none⟩ = some (.int .i64 p) := by
          have h1 := hO.out.cellAt k (by omega)
          rw [flatI_get _ k (by rw [offs_len, HL.out]; omega)] at h1
          rw [hp]
          exact h1
        have hpb := hZ.off k (by rw [HL.out]; omega)
        rw [← hp] at hpb
        obtain ⟨t, ht⟩ : ∃ t, t = iA o l loc k := ⟨_, rfl⟩
        have ht' : loc - 60000 * p = t := by rw [ht, hp]; rfl
        have Ht := hide ht
        have e1 : IntKind.i64.wrap (60000 * p) = 60000 * p := IntWalk.i64_in _ (by omega)
        have e2 : IntKind.i64.wrap (loc - 60000 * p) = loc - 60000 * p := IntWalk.i64_in _ (by omega)
        have Hp := hide hp
        have Ht' := hide ht'
        have HSg := hide (segB_eq (k := k) (t := t) HL.out)
        have hbb := (hR.out.lt b rfl)
        have hobl := (hO.out.lt ob rfl)
        have hh : w.heap.size + 1 ≤ (wr.alloc (.cells #[.int .i64 (loc - 60000 * p)] 3)).heap.size := by simp; omega
        have hR1 := hR.out.alloc (.cells #[.int .i64 (loc - 60000 * p)] 3)
        clear hp ht ht'
        by_cases hk0 : k = 0
        · have gk0 : ((k : Int) == 0) = true := by simp; omega
          have gn0 : (k == 0) = true := by simp; omega
          clear hk0
          by_cases hke : k = len
          · have gke : ((k : Int) == (len : Int)) = true := by simp; omega
            have gne : (k == len) = true := by simp; omega
            clear hke
            have HS := hide (show segB l k t = true by rw [HSg.out, ← Ht'.out, gn0, gne]; simp)
            clear HSg gn0 gne 
            go_wp2_with (at_builtin; refine wpList_append_lies _ rfl _ _ _ rfl (w.heap.size + 1) 3 i0 (.int .i64 0) 1 8 Tryd.underlying50 hi hz0 hz1 hz2 rfl (by omega) _ n (flatI (insS o l loc k)) rfl hR1 ⟨wr.heap.size, 0, none⟩ 1 1 [.int .i64 (loc - 60000 * p)] rfl rfl (news1e _ _ _ _ rfl) (int_one _) (by omega) (by unfold maxLen; omega) (by omega) hh _ rfl ?_; intro b' cap' w3 hown' hgrow' hat' hlt')
            have hg3 : (wr.alloc (.cells #[.int .i64 (loc - 60000 * p)] 3)).grownBy w3 (some b) := hgrow'
            have hX3 := hide ((hX.out.alloc (.cells #[.int .i64 (loc - 60000 * p)] 3)).grown' hg3 (by omega))
            have hb3 := hide (bonly (bal hB'.out (.cells #[.int .i64 (loc - 60000 * p)] 3)) hg3 (by omega))
            have hO3 := hide (own_far (hO.out.alloc (.cells #[.int .i64 (loc - 60000 * p)] 3)) hg3 (Ne.symm hbo))
            have hR3 := hide hown'
            have hb' : b' ≠ ob := by
              have hat2 : some b = some b' ∨ b' = (wr.alloc (.cells #[.int .i64 (loc - 60000 * p)] 3)).heap.size := hat'
              rcases hat2 with h | h
              · injection h with h; omega
              · simp at h; omega
            clear hown' hgrow' hat' hR1 x0 x1
            go_wp2
            go_roundw
            case rel =>
              have hss := insS_yes (o := o) (loc := loc) (by rw [← Ht.out]; exact HS.out)
              rw [← Ht.out, ← Ht'.out] at hss
              refine ⟨k + 1, b', cap', n + 1, by omega, by go_num, rfl, hide (by rw [hss, List.length_append, hn.out]; rfl), by omega, hb', ?_, hX3, hO3, hb3⟩
              have h3 := hR3.out
              rw [hss, flatI_app]
              exact hide h3
            case measure => simp [intOf]; omega
          · have gke : ((k : Int) == (len : Int)) = false := by simp; omega
            have gne : (k == len) = false := by simp; omega
            rcases hs with hs | ⟨b0, o0, rfl⟩
            · omega
            have hcs : ∀ i, i < l.length → b0 < B ∧ w.cell? ⟨b0, o0 + i * 2, none⟩ = some (.int .i64 (l.getD i (0, 0)).1) := by
              rcases HV.out with h | ⟨b1, o1, e1, h1, h2⟩
              · intro i hi; rw [HL.out] at h; omega
              · rw [← HA.out] at e1
                cases e1
                exact fun i hi => ⟨h1, (h2 i hi).1⟩
            obtain ⟨x, hx⟩ : ∃ x, x = tA l k := ⟨_, rfl⟩
            obtain ⟨hbB, c0⟩ := hcs k (by rw [HL.out]; omega)
            rw [show (l.getD k (0, 0)).1 = x from hx.symm] at c0
            replace c0 := (hB'.out.cell (p := ⟨b0, o0 + k * 2, none⟩) (show b0 < w.heap.size by omega)).trans c0
            have n1 : b0 < wr.heap.size := by omega
            have hkl : (k : Int) < (len : Int) := by omega
            rw [← hx] at HSg
            clear hcs hx
            by_cases hc : loc - 60000 * p < x
            · have g1 : decide (loc - 60000 * p < x) = true := decide_eq_true hc
              have HS := hide (show segB l k t = true by rw [HSg.out, ← Ht'.out, g1, gn0, gne]; simp)
              clear HSg gn0 gne hc
              go_wp2_with (at_builtin; refine wpList_append_lies _ rfl _ _ _ rfl (w.heap.size + 1) 3 i0 (.int .i64 0) 1 8 Tryd.underlying50 hi hz0 hz1 hz2 rfl (by omega) _ n (flatI (insS o l loc k)) rfl hR1 ⟨wr.heap.size, 0, none⟩ 1 1 [.int .i64 (loc - 60000 * p)] rfl rfl (news1e _ _ _ _ rfl) (int_one _) (by omega) (by unfold maxLen; omega) (by omega) hh _ rfl ?_; intro b' cap' w3 hown' hgrow' hat' hlt')
              have hg3 : (wr.alloc (.cells #[.int .i64 (loc - 60000 * p)] 3)).grownBy w3 (some b) := hgrow'
              have hX3 := hide ((hX.out.alloc (.cells #[.int .i64 (loc - 60000 * p)] 3)).grown' hg3 (by omega))
              have hb3 := hide (bonly (bal hB'.out (.cells #[.int .i64 (loc - 60000 * p)] 3)) hg3 (by omega))
              have hO3 := hide (own_far (hO.out.alloc (.cells #[.int .i64 (loc - 60000 * p)] 3)) hg3 (Ne.symm hbo))
              have hR3 := hide hown'
              have hb' : b' ≠ ob := by
                have hat2 : some b = some b' ∨ b' = (wr.alloc (.cells #[.int .i64 (loc - 60000 * p)] 3)).heap.size := hat'
                rcases hat2 with h | h
                · injection h with h; omega
                · simp at h; omega
              clear hown' hgrow' hat' hR1 x0 x1
              go_wp2
              go_roundw
              case rel =>
                have hss := insS_yes (o := o) (loc := loc) (by rw [← Ht.out]; exact HS.out)
                rw [← Ht.out, ← Ht'.out] at hss
                refine ⟨k + 1, b', cap', n + 1, by omega, by go_num, rfl, hide (by rw [hss, List.length_append, hn.out]; rfl), by omega, hb', ?_, hX3, hO3, hb3⟩
                have h3 := hR3.out
                rw [hss, flatI_app]
                exact hide h3
              case measure => simp [intOf]; omega
            · have g1 : decide (loc - 60000 * p < x) = false := decide_eq_false hc
              have HS := hide (show segB l k t = false by rw [HSg.out, ← Ht'.out, g1, gn0, gne]; simp)
              clear HSg gn0 gne hc
              go_wp2
              go_roundw
              case rel =>
                have hss := insS_no (o := o) (loc := loc) (by rw [← Ht.out]; exact HS.out)
                refine ⟨k + 1, b, c, n, by omega, by go_num, rfl, hide (by rw [hss]; exact hn.out), by omega, hbo, ?_, hX, hO, hB'⟩
                rw [hss]
                exact hR
              case measure => simp [intOf]; omega
        · have gk0 : ((k : Int) == 0) = false := by simp; omega
          have gn0 : (k == 0) = false := by simp; omega
          by_cases hke : k = len
          · have gke : ((k : Int) == (len : Int)) = true := by simp; omega
            have gne : (k == len) = true := by simp; omega
            clear hke
            rcases hs with hs | ⟨b0, o0, rfl⟩
            · omega
            have hcs : ∀ i, i < l.length → b0 < B ∧ w.cell? ⟨b0, o0 + i * 2, none⟩ = some (.int .i64 (l.getD i (0, 0)).1) := by
              rcases HV.out with h | ⟨b1, o1, e1, h1, h2⟩
              · intro i hi; rw [HL.out] at h; omega
              · rw [← HA.out] at e1
                cases e1
                exact fun i hi => ⟨h1, (h2 i hi).1⟩
            obtain ⟨q, hq⟩ : ∃ q, q = tA l (k - 1) := ⟨_, rfl⟩
            obtain ⟨hbB, c2⟩ := hcs (k - 1) (by rw [HL.out]; omega)
            rw [show (l.getD (k - 1) (0, 0)).1 = q from hq.symm] at c2
            replace c2 := (hB'.out.cell (p := ⟨b0, o0 + (k - 1) * 2, none⟩) (show b0 < w.heap.size by omega)).trans c2
            have n1 : b0 < wr.heap.size := by omega
            have g4 : (0 : Int) ≤ (k : Int) - 1 := by omega
            have g5 : ((k : Int) - 1).toNat = k - 1 := by omega
            have g6 : (k : Int) - 1 < (len : Int) := by omega
            rw [← hq] at HSg
            clear hq
            clear hcs
            by_cases hc2 : q ≤ loc - 60000 * p
            · have g2 : decide (q ≤ loc - 60000 * p) = true := decide_eq_true hc2
              have HS := hide (show segB l k t = true by rw [HSg.out, ← Ht'.out, g2, gn0, gne]; simp)
              clear HSg gn0 gne hc2
              go_wp2_with (at_builtin; refine wpList_append_lies _ rfl _ _ _ rfl (w.heap.size + 1) 3 i0 (.int .i64 0) 1 8 Tryd.underlying50 hi hz0 hz1 hz2 rfl (by omega) _ n (flatI (insS o l loc k)) rfl hR1 ⟨wr.heap.size, 0, none⟩ 1 1 [.int .i64 (loc - 60000 * p)] rfl rfl (news1e _ _ _ _ rfl) (int_one _) (by omega) (by unfold maxLen; omega) (by omega) hh _ rfl ?_; intro b' cap' w3 hown' hgrow' hat' hlt')
              have hg3 : (wr.alloc (.cells #[.int .i64 (loc - 60000 * p)] 3)).grownBy w3 (some b) := hgrow'
              have hX3 := hide ((hX.out.alloc (.cells #[.int .i64 (loc - 60000 * p)] 3)).grown' hg3 (by omega))
              have hb3 := hide (bonly (bal hB'.out (.cells #[.int .i64 (loc - 60000 * p)] 3)) hg3 (by omega))
              have hO3 := hide (own_far (hO.out.alloc (.cells #[.int .i64 (loc - 60000 * p)] 3)) hg3 (Ne.symm hbo))
              have hR3 := hide hown'
              have hb' : b' ≠ ob := by
                have hat2 : some b = some b' ∨ b' = (wr.alloc (.cells #[.int .i64 (loc - 60000 * p)] 3)).heap.size := hat'
                rcases hat2 with h | h
                · injection h with h; omega
                · simp at h; omega
              clear hown' hgrow' hat' hR1 x0 x1
              go_wp2
              go_roundw
              case rel =>
                have hss := insS_yes (o := o) (loc := loc) (by rw [← Ht.out]; exact HS.out)
                rw [← Ht.out, ← Ht'.out] at hss
                refine ⟨k + 1, b', cap', n + 1, by omega, by go_num, rfl, hide (by rw [hss, List.length_append, hn.out]; rfl), by omega, hb', ?_, hX3, hO3, hb3⟩
                have h3 := hR3.out
                rw [hss, flatI_app]
                exact hide h3
              case measure => simp [intOf]; omega
            · have g2 : decide (q ≤ loc - 60000 * p) = false := decide_eq_false hc2
              have HS := hide (show segB l k t = false by rw [HSg.out, ← Ht'.out, g2, gn0, gne]; simp)
              clear HSg gn0 gne hc2
              go_wp2
              go_roundw
              case rel =>
                have hss := insS_no (o := o) (loc := loc) (by rw [← Ht.out]; exact HS.out)
                refine ⟨k + 1, b, c, n, by omega, by go_num, rfl, hide (by rw [hss]; exact hn.out), by omega, hbo, ?_, hX, hO, hB'⟩
                rw [hss]
                exact hR
              case measure => simp [intOf]; omega
          · have gke : ((k : Int) == (len : Int)) = false := by simp; omega
            have gne : (k == len) = false := by simp; omega
            rcases hs with hs | ⟨b0, o0, rfl⟩
            · omega
            have hcs : ∀ i, i < l.length → b0 < B ∧ w.cell? ⟨b0, o0 + i * 2, none⟩ = some (.int .i64 (l.getD i (0, 0)).1) := by
              rcases HV.out with h | ⟨b1, o1, e1, h1, h2⟩
              · intro i hi; rw [HL.out] at h; omega
              · rw [← HA.out] at e1
                cases e1
                exact fun i hi => ⟨h1, (h2 i hi).1⟩
            obtain ⟨q, hq⟩ : ∃ q, q = tA l (k - 1) := ⟨_, rfl⟩
            obtain ⟨hbB, c2⟩ := hcs (k - 1) (by rw [HL.out]; omega)
            rw [show (l.getD (k - 1) (0, 0)).1 = q from hq.symm] at c2
            replace c2 := (hB'.out.cell (p := ⟨b0, o0 + (k - 1) * 2, none⟩) (show b0 < w.heap.size by omega)).trans c2
            have n1 : b0 < wr.heap.size := by omega
            have g4 : (0 : Int) ≤ (k : Int) - 1 := by omega
            have g5 : ((k : Int) - 1).toNat = k - 1 := by omega
            have g6 : (k : Int) - 1 < (len : Int) := by omega
            rw [← hq] at HSg
            clear hq
            obtain ⟨x, hx⟩ : ∃ x, x = tA l k := ⟨_, rfl⟩
            obtain ⟨_, c0⟩ := hcs k (by rw [HL.out]; omega)
            rw [show (l.getD k (0, 0)).1 = x from hx.symm] at c0
            replace c0 := (hB'.out.cell (p := ⟨b0, o0 + k * 2, none⟩) (show b0 < w.heap.size by omega)).trans c0
            have hkl : (k : Int) < (len : Int) := by omega
            rw [← hx] at HSg
            clear hcs hx
            by_cases hc2 : q ≤ loc - 60000 * p
            · have g2 : decide (q ≤ loc - 60000 * p) = true := decide_eq_true hc2
              by_cases hc : loc - 60000 * p < x
              · have g1 : decide (loc - 60000 * p < x) = true := decide_eq_true hc
                have HS := hide (show segB l k t = true by rw [HSg.out, ← Ht'.out, g1, g2, gn0, gne]; simp)
                clear HSg gn0 gne hc hc2
                go_wp2_with (at_builtin; refine wpList_append_lies _ rfl _ _ _ rfl (w.heap.size + 1) 3 i0 (.int .i64 0) 1 8 Tryd.underlying50 hi hz0 hz1 hz2 rfl (by omega) _ n (flatI (insS o l loc k)) rfl hR1 ⟨wr.heap.size, 0, none⟩ 1 1 [.int .i64 (loc - 60000 * p)] rfl rfl (news1e _ _ _ _ rfl) (int_one _) (by omega) (by unfold maxLen; omega) (by omega) hh _ rfl ?_; intro b' cap' w3 hown' hgrow' hat' hlt')
                have hg3 : (wr.alloc (.cells #[.int .i64 (loc - 60000 * p)] 3)).grownBy w3 (some b) := hgrow'
                have hX3 := hide ((hX.out.alloc (.cells #[.int .i64 (loc - 60000 * p)] 3)).grown' hg3 (by omega))
                have hb3 := hide (bonly (bal hB'.out (.cells #[.int .i64 (loc - 60000 * p)] 3)) hg3 (by omega))
                have hO3 := hide (own_far (hO.out.alloc (.cells #[.int .i64 (loc - 60000 * p)] 3)) hg3 (Ne.symm hbo))
                have hR3 := hide hown'
                have hb' : b' ≠ ob := by
                  have hat2 : some b = some b' ∨ b' = (wr.alloc (.cells #[.int .i64 (loc - 60000 * p)] 3)).heap.size := hat'
                  rcases hat2 with h | h
                  · injection h with h; omega
                  · simp at h; omega
                clear hown' hgrow' hat' hR1 x0 x1
                go_wp2
                go_roundw
                case rel =>
                  have hss := insS_yes (o := o) (loc := loc) (by rw [← Ht.out]; exact HS.out)
                  rw [← Ht.out, ← Ht'.out] at hss
                  refine ⟨k + 1, b', cap', n + 1, by omega, by go_num, rfl, hide (by rw [hss, List.length_append, hn.out]; rfl), by omega, hb', ?_, hX3, hO3, hb3⟩
                  have h3 := hR3.out
                  rw [hss, flatI_app]
                  exact hide h3
                case measure => simp [intOf]; omega
              · have g1 : decide (loc - 60000 * p < x) = false := decide_eq_false hc
                have HS := hide (show segB l k t = false by rw [HSg.out, ← Ht'.out, g1, g2, gn0, gne]; simp)
                clear HSg gn0 gne hc hc2
                go_wp2
                go_roundw
                case rel =>
                  have hss := insS_no (o := o) (loc := loc) (by rw [← Ht.out]; exact HS.out)
                  refine ⟨k + 1, b, c, n, by omega, by go_num, rfl, hide (by rw [hss]; exact hn.out), by omega, hbo, ?_, hX, hO, hB'⟩
                  rw [hss]
                  exact hR
                case measure => simp [intOf]; omega
            · have g2 : decide (q ≤ loc - 60000 * p) = false := decide_eq_false hc2
              by_cases hc : loc - 60000 * p < x
              · have g1 : decide (loc - 60000 * p < x) = true := decide_eq_true hc
                have HS := hide (show segB l k t = false by rw [HSg.out, ← Ht'.out, g1, g2, gn0, gne]; simp)
                clear HSg gn0 gne hc hc2
                go_wp2
                go_roundw
                case rel =>
                  have hss := insS_no (o := o) (loc := loc) (by rw [← Ht.out]; exact HS.out)
                  refine ⟨k + 1, b, c, n, by omega, by go_num, rfl, hide (by rw [hss]; exact hn.out), by omega, hbo, ?_, hX, hO, hB'⟩
                  rw [hss]
                  exact hR
                case measure => simp [intOf]; omega
              · have g1 : decide (loc - 60000 * p < x) = false := decide_eq_false hc
                have HS := hide (show segB l k t = false by rw [HSg.out, ← Ht'.out, g1, g2, gn0, gne]; simp)
                clear HSg gn0 gne hc hc2
                go_wp2
                go_roundw
                case rel =>
                  have hss := insS_no (o := o) (loc := loc) (by rw [← Ht.out]; exact HS.out)
                  refine ⟨k + 1, b, c, n, by omega, by go_num, rfl, hide (by rw [hss]; exact hn.out), by omega, hbo, ?_, hX, hO, hB'⟩
                  rw [hss]
                  exact hR
                case measure => simp [intOf]; omega
      · obtain rfl : k = len + 1 := by omega
        go_wp2
        go_ret
        have e : (insS o l loc (l.length + 1)).length = n := by rw [HL.out]; exact hn.out
        refine ⟨b, c, by rw [e]; rfl, ?_, hB'.out⟩
        rw [e, HL.out]
        exact own_more hR.out (by omega)
  exact main A rfl hs
end Go.Proofs.YtjdlffkbhaieaaaDoor
