/- slices.SortFunc, slices.SortedFunc at ranges. -/
import Derived.Test.YtakccgajnmkplaaJf4
namespace Go.Proofs.Ytakccgajnmkplaa
open Go.RowKit Go.Shelf Go.Lib Go.Sort

/-- The list sorted by its beginnings. -/
def SortedL (l s : List R2) : Prop := s.Perm l ∧ s.Pairwise (fun a b => a.1 ≤ b.1)
theorem sortedL_of {l : List R2} {d' : Array R2} (hp : PermIn 0 l.toArray.size l.toArray d') (hs : SortedIn (ltOf cmpR) 0 l.toArray.size d') : SortedL l d'.toList := by
  obtain ⟨h1, _, h3⟩ := hp
  refine ⟨?_, ?_⟩
  · have e1 : (d'.extract 0 l.toArray.size).toList = d'.toList := by rw [← h1]; simp
    have e2 : (l.toArray.extract 0 l.toArray.size).toList = l := by simp
    rw [e1, e2] at h3
    exact h3
  · rw [List.pairwise_iff_getElem]
    intro i j hi hj hij
    have hi2 : i < d'.size := by simpa using hi
    have hj2 : j < d'.size := by simpa using hj
    have h := hs i j (Nat.zero_le _) hij (by omega)
    rw [ltR, getElem!_pos d' i hi2, getElem!_pos d' j hj2] at h
    simp at h
    simpa using h
theorem hlenR (n : Nat) (W : World) (h : n ≤ 12) : Calls Try.prog 76 #[.int .u64 n] W fun e w' => (∃ z : Int, e = .returned (.int .i64 z)) ∧ w' = W :=
  (Try.bits_Len n W (by omega) (by omega)).mono fun _ _ ⟨he, hw⟩ => ⟨⟨_, he⟩, hw⟩
/-- The sort at some ranges. -/
theorem sortFunc_some (l : List R2) (n0 g cap : Nat) (w : World) (hl : l.length ≤ 12) (ho : w.ownsRow n0 36 2 (.slice (some ⟨g, 0, none⟩) l.length cap) l.length (flatP l)) (hg : g < w.heap.size) (hn0 : n0 ≤ g) :
    Calls Try.prog 67 #[.slice (some ⟨g, 0, none⟩) l.length cap, .func (.func 54) #[] #[]] w fun e w' => e = .returned (.tuple #[]) ∧ (∃ s, SortedL l s ∧ s.length = l.length ∧ Prs w'.heap.size w' (some ⟨g, 0, none⟩) s) ∧ Below n0 w w' := by
  have eg : ∀ args w, (callFunc 54 args).run Try.prog w = .ok (.enter 54 args) w := enters_of Try.func54 (by kernel_rfl) rfl
  have hH := holdsK_own ho rfl
  have hcon := AnyQ.slices_SortFunc_small_sorted Try.sortRg 2 Try.isAgg36 Try.sizeOf36 encL (fun _ => rfl) (fun x v hv => by simp [encL] at hv; rcases hv with rfl | rfl <;> rfl) cmpR 54 #[] swoR g 0 cap l.toArray w eg (fun _ _ _ _ x y => cmpFn_any x y _) hH hg (by simpa using hl) hlenR
  change Calls Try.prog 67 _ _ _ at hcon
  refine hcon.mono ?_
  rintro e w' ⟨rfl, d', n, os, hp, hs, rfl⟩
  have hsz : d'.size = l.toArray.size := hp.1
  have hb := sortW_below (n := n) d' os hn0 hg
  refine ⟨rfl, ⟨d'.toList, sortedL_of hp hs, by simp at hsz; simpa using hsz, prs_holds (sortW_holds os hH hsz hg) (Nat.lt_of_lt_of_le hg hb.size)⟩, hb⟩
theorem ins_none (w : World) :
    Calls Try.prog 80 #[.slice none 0 0, .int .i64 0, .int .i64 0, .func (.func 54) #[] #[]] w fun e w' => e = .returned (.tuple #[]) ∧ w = w' := by
  go_enter Try.func80, Try.ntmps80
  go_wp2_with fail
  refine wp_loop_rounds 1 ?_
  rw [rounds_succ]
  go_wp2
  go_end0
  exact ⟨rfl, rfl⟩
theorem pdq_none (z : Int) (w : World) :
    Calls Try.prog 75 #[.slice none 0 0, .int .i64 0, .int .i64 0, .int .i64 z, .func (.func 54) #[] #[]] w fun e w' => e = .returned (.tuple #[]) ∧ w = w' := by
  go_enter Try.func75, Try.ntmps75
  go_wp2_with fail
  refine wp_loop_rounds 1 ?_
  rw [rounds_succ]
  go_wp2_with fail
  refine (ins_none _).mono ?_
  rintro e w1 ⟨rfl, rfl⟩
  go_wp2_with fail
  refine bodyPost_ret (by simp [results, Try.results75, go_sem, ]; try rfl) rfl ?_
  exact ⟨rfl, rfl⟩
theorem sortFunc_none (w : World) :
    Calls Try.prog 67 #[.slice none 0 0, .func (.func 54) #[] #[]] w fun e w' => e = .returned (.tuple #[]) ∧ w = w' := by
  go_enter Try.func67, Try.ntmps67
  go_wp2_with fail
  refine (hlenR 0 _ (by omega)).mono ?_
  rintro e w1 ⟨⟨z, rfl⟩, rfl⟩
  go_wp2_with fail
  refine (pdq_none z _).mono ?_
  rintro e w1 ⟨rfl, rfl⟩
  go_wp2_with fail
  go_end0
  exact ⟨rfl, rfl⟩
/-- A sorted slice. -/
def SortR (l : List R2) (w : World) (e : Ending) (w' : World) : Prop :=
  (∃ (A : Option Addr) (cap : Nat) (s : List R2), e = .returned (.slice A l.length cap) ∧ Hid (SortedL l s) ∧ s.length = l.length ∧ Prs w'.heap.size w' A s) ∧ Below w.heap.size w w'
theorem sortedFunc_any (l : List R2) (len cap b B : Nat) (A : Option Addr) (w : World) (hl : l.length = len) (hP : Prs B w A l) (hB : B ≤ w.heap.size) (hm : len ≤ 12) (hb : w.cell? ⟨b, 0, none⟩ = some (.slice A len cap)) :
    Calls Try.prog 52 #[.func (.func 68) #[] #[.pointer (some ⟨b, 0, none⟩)], .func (.func 54) #[] #[]] w (SortR l w) := by
  have hc := collect_any l len cap b B A w hl hP hB (by omega) hb
  have HL := hide hl
  clear hl hP hB hb
  go_enter Try.func52, Try.ntmps52
  go_wp2_with fail
  refine hc.mono ?_
  rintro e w1 ⟨⟨v, rfl, hrow, hnil⟩, hb1⟩
  clear hc
  by_cases h0 : l = []
  · have hv := hnil h0
    subst hv
    subst h0
    clear hnil hrow
    go_wp2_with fail
    refine (sortFunc_none _).mono ?_
    rintro e w2 ⟨rfl, rfl⟩
    go_wp2_with fail
    go_ret
    exact ⟨⟨none, 0, [], rfl, hide ⟨List.Perm.refl _, List.Pairwise.nil⟩, rfl, fun h => absurd h (by simp)⟩, hb1⟩
  · obtain ⟨k, ek⟩ : ∃ k, l.length = k + 1 := ⟨l.length - 1, by have := List.length_pos_iff.2 h0; omega⟩
    have hv : ∃ g cap, v = .slice (some ⟨g, 0, none⟩) l.length cap := by
      rw [ek] at hrow ⊢
      exact ownsRow_succ hrow
    obtain ⟨g, cap1, rfl⟩ := hv
    have hg := (hrow.lt g rfl).2
    have hg0 := (hrow.lt g rfl).1
    have hs := sortFunc_some l w.heap.size g cap1 w1 (by rw [HL.out]; exact hm) hrow (by omega) (by omega)
    clear hnil hrow ek
    go_wp2_with fail
    refine hs.mono ?_
    rintro e w2 ⟨rfl, ⟨s, h1, h2, h3⟩, hb2⟩
    have H1 := hide h1
    have H3 := hide h3
    clear hs h1 h3
    go_wp2_with fail
    go_ret
    exact ⟨⟨_, cap1, s, rfl, H1, h2, H3.out⟩, hb1.trans hb2⟩
end Go.Proofs.Ytakccgajnmkplaa
