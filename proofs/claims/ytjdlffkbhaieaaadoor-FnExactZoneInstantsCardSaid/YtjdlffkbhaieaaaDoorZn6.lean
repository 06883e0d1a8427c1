/- Contracts: the statements' own words on zones: made, measured, compared. -/
import Derived.Test.YtjdlffkbhaieaaaDoorZn3
import Derived.Test.YtjdlffkbhaieaaaDoorZn4
namespace Go.Proofs.YtjdlffkbhaieaaaDoor
open Go.RowKit

/-- A new zone. -/
def MadeZ (o : Int) (l : List R2) (w : World) (e : Ending) (w' : World) : Prop :=
  ∃ g cap : Nat, e = .returned (.agg #[.int .i64 o, .slice (some ⟨g, 0, none⟩) l.length cap]) ∧ w'.ownsRow w.heap.size 68 2 (.slice (some ⟨g, 0, none⟩) l.length cap) l.length (flatP l) ∧ Below w.heap.size w w'

theorem szZone_any (o : Int) (len cap : Nat) (A : Option Addr) (n : Int) (w : World) (h0 : 0 ≤ n) (h1 : n ≤ 1048576) (hm : len ≤ 9223372036854775807) :
    Calls Tryd.prog 14 #[.agg #[.int .i64 o, .slice A len cap], .int .i64 n] w fun e w' => e = .returned (.int .i64 (if n < len then -1 else n - len)) ∧ Below w.heap.size w w' := by
  by_cases h : n < len
  · go_enter Tryd.func14, Tryd.ntmps14
    go_wp2_with fail
    refine (sz_any _ _ _ _ _ h0 h1 hm).mono ?_
    rintro e w1 ⟨rfl, rfl⟩
    rw [if_pos h]
    go_wp2_with fail
    go_ret
    exact ⟨rfl, bal (Below.refl _ _) _⟩
  · go_enter Tryd.func14, Tryd.ntmps14
    go_wp2_with fail
    refine (sz_any _ _ _ _ _ h0 h1 hm).mono ?_
    rintro e w1 ⟨rfl, rfl⟩
    rw [if_neg (by omega)]
    have h2 : 0 ≤ n - len := by omega
    go_wp2_with fail
    go_ret
    exact ⟨rfl, bal (Below.refl _ _) _⟩

theorem toZone_any (o : Int) (l : List R2) (len cap B : Nat) (A : Option Addr) (w : World) (hl : l.length = len) (hP : Prs B w A l) (hB : B ≤ w.heap.size) (hm : len ≤ 1048576) :
    Calls Tryd.prog 16 #[.agg #[.int .i64 o, .slice A len cap]] w (MadeZ o l w) := by
  have HL := hide hl
  have HP := hide hP
  clear hl hP
  go_enter Tryd.func16, Tryd.ntmps16
  go_wp2_with fail
  refine (toS_any l _ _ B _ _ HL.out ?_ ?_ hm).mono ?_
  · exact HP.out.below ((by go_grown : Below w.heap.size w _).mono hB)
  · simp; omega
  rintro e w1 ⟨g, cap1, rfl, ho, hb⟩
  have B1 : Blk w1 (w.heap.size + 1) 36 #[.int .i64 0, .slice none 0 0] := ((Blk.newE (by simp)).alloc _).below hb (by simp)
  have B2 : Blk w1 (w.heap.size + 1 + 1) 36 #[.int .i64 o, .slice none 0 0] := (Blk.newE (by simp)).below hb (by simp)
  have c10 := B1.cell 0
  have c11 := B1.cell 1
  have c20 := B2.cell 0
  have c21 := B2.cell 1
  have f10 := B1.frozen 0
  have f11 := B1.frozen 1
  have f20 := B2.frozen 0
  have f21 := B2.frozen 1
  have hz := hb.size
  have hgl := (ho.lt g rfl).1
  simp at hz c10 c11 c20 c21 hgl
  have H := hide (⟨ho, hb⟩ : _ ∧ _)
  have HB := hide B1
  clear B1 B2 ho hb
  go_wp2_with fail
  have R := ((HB.out.far (p := ⟨w.heap.size + 1 + 1, 1, none⟩) (by simp) (.slice (some ⟨g, 0, none⟩) l.length cap1)).set_ 0 (.int .i64 o)).set_ 1 (.slice (some ⟨g, 0, none⟩) l.length cap1)
  have r0 := R.cell 0
  have r1 := R.cell 1
  simp at r0 r1
  refine bodyPost_ret (by simp [results, Tryd.results16, go_sem, r0, r1]; try rfl) rfl ?_
  refine ⟨g, cap1, rfl, ?_, ?_⟩
  · exact own_more (ownsRow_setCell_below (ownsRow_setCell_below (ownsRow_setCell_below H.out.1 (by simp) _) (by simp) _) (by simp) _) (by simp; omega)
  · exact bset (bset (bset (bto (bal (bal (bal (Below.refl _ _) _) _) _) H.out.2) (by simp; omega) _) (by simp) _) (by simp) _

theorem eqZone_same (o : Int) (l : List R2) (len cap cap' B : Nat) (A A' : Option Addr) (w : World) (hl : l.length = len) (hP : Prs B w A l) (hP' : Prs B w A' l) (hB : B ≤ w.heap.size) (hm : len ≤ 1048576) :
    Calls Tryd.prog 19 #[.agg #[.int .i64 o, .slice A len cap], .agg #[.int .i64 o, .slice A' len cap']] w (RetB true w) := by
  have HL := hide hl
  have HP := hide hP
  have HP' := hide hP'
  have g0 : (o != o) = false := by simp
  clear hl hP hP'
  go_enter Tryd.func19, Tryd.ntmps19
  go_wp2_with fail
  refine (eqS_same l _ _ _ B _ _ _ HL.out ((HP.out.alloc hB _).alloc (by simp; omega) _) ((HP'.out.alloc hB _).alloc (by simp; omega) _) (by simp; omega) hm).mono ?_
  rintro e w1 ⟨rfl, hb⟩
  go_wp2_with fail
  go_ret
  exact ⟨rfl, bto (bal (bal (Below.refl _ _) _) _) hb⟩
theorem keep4 {W w' : World} {g k : Nat} {a b c d : Value} (hb : Below W.heap.size W w') (hg : g < W.heap.size) (hk : k < W.heap.size) (h : W.cell? ⟨g, 0, none⟩ = some a ∧ W.cell? ⟨g, 1, none⟩ = some b ∧ W.cell? ⟨k, 0, none⟩ = some c ∧ W.cell? ⟨k, 1, none⟩ = some d) :
    w'.cell? ⟨g, 0, none⟩ = some a ∧ w'.cell? ⟨g, 1, none⟩ = some b ∧ w'.cell? ⟨k, 0, none⟩ = some c ∧ w'.cell? ⟨k, 1, none⟩ = some d :=
  ⟨(hb.cell (p := ⟨g, 0, none⟩) hg).trans h.1, (hb.cell (p := ⟨g, 1, none⟩) hg).trans h.2.1, (hb.cell (p := ⟨k, 0, none⟩) hk).trans h.2.2.1, (hb.cell (p := ⟨k, 1, none⟩) hk).trans h.2.2.2⟩

end Go.Proofs.YtjdlffkbhaieaaaDoor
