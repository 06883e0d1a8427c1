/- Contracts: the stamp with an instant and an offset (the program's and the reference's). -/
import Derived.Test.YtinemkjoohgmjaaDoorSt
import Derived.Test.YtinemkjoohgmjaaDoorSw
namespace Go.Proofs.YtinemkjoohgmjaaDoor
open Go.RowKit
attribute [local go_sem] lt_cell cell_sp sp_alloc sp_drew sp_new storeP_sp
attribute [local go_sem ↓] storeP_eq

set_option maxRecDepth 100000 in
set_option maxHeartbeats 2000000 in
theorem spec_stampAt (n o : Int) (w : World) :
    Calls Tryd.prog 40 #[.int .i64 n, .int .i64 o] w (RetS (stAt n o) w) := by
  have R0 := Blk.new w 28 #[.int .i64 0, .int .i64 0, .int .i64 0, .int .i64 0, .int .i64 0, .int .i64 0, .int .i64 0, .int .i64 0]
  by_cases hv : insB n = true ∧ offB o = true
  · obtain ⟨h1, h2⟩ := hv
    have hn := ins_iff'.1 h1
    have ho := offB_iff.1 h2
    by_cases hneg : n + 60000 * o < 0
    · have HS := hide (stAt_no (n := n) (o := o) (by unfold stOk; rw [h1, h2]; simp; omega))
      go_enter Tryd.func40, Tryd.ntmps40
      go_wp2_with (first | (go_at_call 65; refine (l12Ok_any _ _).mono ?_; rintro e w' ⟨rfl, rfl⟩) | (go_at_call 56; refine (l6In_off _ _).mono ?_; rintro e w' ⟨rfl, rfl⟩))
      go_returns
      exact ⟨by rw [HS.out]; rfl, (by repeat' (first | (with_reducible exact Below.refl _ _) | (with_reducible assumption) | (with_reducible refine bal ?_ _) | (with_reducible refine bdrewN ?_ _) | (with_reducible refine bdrew ?_) | (with_reducible refine bset ?_ ?_ _) | (with_reducible refine brow ?_ ?_ _) | omega | (simp; done) | (simp; omega)))⟩
    · obtain ⟨l, hl⟩ : ∃ l, l = n + 60000 * o := ⟨_, rfl⟩
      by_cases hd : l / 86400000 ≤ 3652058
      · have HS := hide (show stAt n o = (stL l o, true) by rw [stAt_yes (stOk_iff.2 ⟨hn, ho, by omega, by omega⟩), hl])
        have h0 : 0 ≤ l := by omega
        have hlb : l ≤ 315537984000000 + 86340000 := by omega
        have hm1 : 0 ≤ l % 86400000 := by omega
        have hm2 : l % 86400000 ≤ 315537984000000 := by omega
        go_enter Tryd.func40, Tryd.ntmps40
        go_wp2_with (first | (go_at_call 65; refine (l12Ok_any _ _).mono ?_; rintro e w' ⟨rfl, rfl⟩) | (go_at_call 56; refine (l6In_off _ _).mono ?_; rintro e w' ⟨rfl, rfl⟩))
        rw [← hl]
        clear hl
        refine (spec_dateOf_yes _ _ (by omega) hd).mono ?_
        rintro e w1 ⟨rfl, hb1⟩
        have R1 := hide (R0.below hb1 R0.lt)
        have H0 := bal (Below.refl w.heap.size w) (.cells #[.int .i64 0, .int .i64 0, .int .i64 0, .int .i64 0, .int .i64 0, .int .i64 0, .int .i64 0, .int .i64 0] 28)
        have H1' : Below w.heap.size w w1 := bto H0 hb1
        have H1 := hide H1'
        have hz1 : w.heap.size < w1.heap.size := R1.out.lt
        have hsp := R1.out.sp rfl
        have hne : ¬ w1.heap.size = w.heap.size := by omega
        have hne' : ¬ w.heap.size = w1.heap.size := by omega
        have ht : l.tmod 86400000 = l % 86400000 := Int.tmod_eq_emod_of_nonneg (by omega)
        clear hb1 R0 H0 H1'
        go_wp2_with fail
        go_region_with (first | (go_simp; go_at_call 67; (with_reducible refine (l5Of_any (l % 86400000) _ hm1 hm2).mono ?_); rintro e w2 ⟨rfl, hb2⟩; have hs2 := sp_below (sp_drew (sp_alloc _ hsp)) hb2; obtain ⟨hcc, hff⟩ := bcell hb2))
        all_goals
          have H2 := bto (bdrew (bal H1.out (.cells #[.int .i64 (yOf (l / 86400000)), .int .i64 (mOf (l / 86400000)), .int .i64 (dOf (l / 86400000))] 24))) hb2
          go_wp2_with fail
          refine bodyPost_ret (by simp [results, Tryd.results40, go_sem, cell_sp hs2]; try rfl) rfl ?_
          exact ⟨by rw [HS.out]; rfl, brow H2 (Nat.le_refl _) _⟩
      · have HS := hide (stAt_no (n := n) (o := o) (by unfold stOk; rw [h1, h2]; simp; omega))
        go_enter Tryd.func40, Tryd.ntmps40
        go_wp2_with (first | (go_at_call 65; refine (l12Ok_any _ _).mono ?_; rintro e w' ⟨rfl, rfl⟩) | (go_at_call 56; refine (l6In_off _ _).mono ?_; rintro e w' ⟨rfl, rfl⟩))
        rw [← hl]
        clear hl
        refine (spec_dateOf_no _ _ (by omega)).mono ?_
        rintro e w1 ⟨rfl, hb1⟩
        have R1 := hide (R0.below hb1 R0.lt)
        have H0 := bal (Below.refl w.heap.size w) (.cells #[.int .i64 0, .int .i64 0, .int .i64 0, .int .i64 0, .int .i64 0, .int .i64 0, .int .i64 0, .int .i64 0] 28)
        have H1' : Below w.heap.size w w1 := bto H0 hb1
        have H1 := hide H1'
        have hz1 : w.heap.size < w1.heap.size := R1.out.lt
        have hsp := R1.out.sp rfl
        have hne : ¬ w1.heap.size = w.heap.size := by omega
        have hne' : ¬ w.heap.size = w1.heap.size := by omega
        have ht : l.tmod 86400000 = l % 86400000 := Int.tmod_eq_emod_of_nonneg (by omega)
        clear hb1 R0 H0 H1'
        have H2 := H1.out
        go_wp2_with fail
        refine bodyPost_ret (by simp [results, Tryd.results40, go_sem, cell_sp (sp_alloc _ hsp)]; try rfl) rfl ?_
        exact ⟨by rw [HS.out]; rfl, (by repeat' (first | (with_reducible exact Below.refl _ _) | (with_reducible assumption) | (with_reducible refine bal ?_ _) | (with_reducible refine bdrewN ?_ _) | (with_reducible refine bdrew ?_) | (with_reducible refine bset ?_ ?_ _) | (with_reducible refine brow ?_ ?_ _) | omega | (simp; done) | (simp; omega)))⟩
  · have HS := hide (stAt_no (n := n) (o := o) (by unfold stOk; cases e1 : insB n <;> cases e2 : offB o <;> simp_all))
    have hv' : insB n = false ∨ offB o = false := by cases e1 : insB n <;> cases e2 : offB o <;> simp_all
    rcases hv' with h1 | h1
    · go_enter Tryd.func40, Tryd.ntmps40
      go_wp2_with (first | (go_at_call 65; refine (l12Ok_any _ _).mono ?_; rintro e w' ⟨rfl, rfl⟩) | (go_at_call 56; refine (l6In_off _ _).mono ?_; rintro e w' ⟨rfl, rfl⟩))
      all_goals
        go_returns
        exact ⟨by rw [HS.out]; rfl, (by repeat' (first | (with_reducible exact Below.refl _ _) | (with_reducible assumption) | (with_reducible refine bal ?_ _) | (with_reducible refine bdrewN ?_ _) | (with_reducible refine bdrew ?_) | (with_reducible refine bset ?_ ?_ _) | (with_reducible refine brow ?_ ?_ _) | omega | (simp; done) | (simp; omega)))⟩
    · go_enter Tryd.func40, Tryd.ntmps40
      go_wp2_with (first | (go_at_call 65; refine (l12Ok_any _ _).mono ?_; rintro e w' ⟨rfl, rfl⟩) | (go_at_call 56; refine (l6In_off _ _).mono ?_; rintro e w' ⟨rfl, rfl⟩))
      all_goals
        go_returns
        exact ⟨by rw [HS.out]; rfl, (by repeat' (first | (with_reducible exact Below.refl _ _) | (with_reducible assumption) | (with_reducible refine bal ?_ _) | (with_reducible refine bdrewN ?_ _) | (with_reducible refine bdrew ?_) | (with_reducible refine bset ?_ ?_ _) | (with_reducible refine brow ?_ ?_ _) | omega | (simp; done) | (simp; omega)))⟩
end Go.Proofs.YtinemkjoohgmjaaDoor
