/- Contracts: the stamp of an instant in a zone (the program's and the reference's). -/
import Derived.Test.YtjdlffkbhaieaaaDoorSt2
import Derived.Test.YtjdlffkbhaieaaaDoorZn8
namespace Go.Proofs.YtjdlffkbhaieaaaDoor
open Go.RowKit
attribute [local go_sem] lt_cell cell_sp sp_alloc sp_drew sp_new storeP_sp
attribute [local go_sem ↓] storeP_eq

noncomputable def zsV (o : Int) (l : List R2) (t : Int) : S8 × Bool := if zvB o l && insB t then stAt t (offAt o l t) else (s0, false)
theorem zsV_no1 {o : Int} {l : List R2} {t : Int} (h : zvB o l = false) : zsV o l t = (s0, false) := by unfold zsV; rw [h]; rfl
theorem zsV_no2 {o : Int} {l : List R2} {t : Int} (h : insB t = false) : zsV o l t = (s0, false) := by unfold zsV; rw [h]; simp
theorem zsV_yes {o : Int} {l : List R2} {t : Int} (h : zvB o l = true) (h' : insB t = true) : zsV o l t = stAt t (offAt o l t) := by unfold zsV; rw [h, h']; rfl

set_option maxRecDepth 100000 in
set_option maxHeartbeats 2000000 in
theorem impl_zs (o t : Int) (l : List R2) (len cap B : Nat) (A : Option Addr) (w : World) (hM : MD w) (hl : l.length = len) (hP : Prs B w A l) (hB : B ≤ w.heap.size) (hc : len ≤ cap) (hm : cap ≤ 9223372036854775807) :
    Calls Tryd.prog 17 #[.agg #[.int .i64 o, .slice A len cap], .int .i64 t] w (RetS (zsV o l t) w) := by
  have R0 := (Blk.newE (W := w.alloc (.cells #[.int .i64 o, .slice A len cap] 36)) (g := w.heap.size + 1) (t := 31) (cs := #[.int .i64 0, .int .i64 0, .int .i64 0, .int .i64 0, .int .i64 0, .int .i64 0, .int .i64 0, .int .i64 0]) (by simp))
  have B0 := bal (bal (Below.refl w.heap.size w) (.cells #[.int .i64 o, .slice A len cap] 36)) (.cells #[.int .i64 0, .int .i64 0, .int .i64 0, .int .i64 0, .int .i64 0, .int .i64 0, .int .i64 0, .int .i64 0] 31)
  have HL := hide hl
  have HP := hide hP
  clear hl hP
  go_enter Tryd.func17, Tryd.ntmps17
  go_wp2_with fail
  refine (impl_zo o t l _ _ B _ _ HL.out (HP.out.below (B0.mono hB)) (by simp; omega) hc hm).mono ?_
  rintro e w1 ⟨rfl, hb1⟩
  have H1 : Below w.heap.size w w1 := bto B0 hb1
  have R1 := R0.below hb1 R0.lt
  have hsp := R1.sp rfl
  have hz := hsp.choose_spec.2.lt
  have M1 := hM.below H1
  have hsz : w.heap.size ≤ w.heap.size + 1 := Nat.le_succ _
  clear R0 R1 B0
  cases hv : zvB o l with
  | false =>
    have HS := hide (zsV_no1 (t := t) hv)
    rw [zoV_no1 hv]
    go_wp2_with fail
    refine bodyPost_ret (by simp [results, Tryd.results17, go_sem, cell_sp hsp]; try rfl) rfl ?_
    exact ⟨by rw [HS.out]; rfl, brow H1 hsz _⟩
  | true =>
    cases ht : insB t with
    | false =>
      have HS := hide (zsV_no2 (o := o) (l := l) ht)
      rw [zoV_no2 ht]
      go_wp2_with fail
      refine bodyPost_ret (by simp [results, Tryd.results17, go_sem, cell_sp hsp]; try rfl) rfl ?_
      exact ⟨by rw [HS.out]; rfl, brow H1 hsz _⟩
    | true =>
      have HS := hide (zsV_yes hv ht)
      rw [zoV_yes hv ht]
      go_wp2_with fail
      refine (impl_stampAt _ _ _ M1).mono ?_
      rintro e w2 ⟨rfl, hb2⟩
      have hs2 := sp_below hsp hb2
      have H2 := bto H1 hb2
      generalize stAt t (offAt o l t) = r at HS
      obtain ⟨⟨y, mo, d, h, mi, s, ms, o'⟩, ok⟩ := r
      simp only [S8.v]
      go_wp2_with fail
      refine bodyPost_ret (by simp [results, Tryd.results17, go_sem, cell_sp hs2]; try rfl) rfl ?_
      exact ⟨by rw [HS.out]; rfl, brow H2 hsz _⟩

set_option maxRecDepth 100000 in
set_option maxHeartbeats 2000000 in
theorem spec_zs (o t : Int) (l : List R2) (len cap B : Nat) (A : Option Addr) (w : World) (hl : l.length = len) (hP : Prs B w A l) (hB : B ≤ w.heap.size) (hm : len ≤ 1048576) :
    Calls Tryd.prog 15 #[.agg #[.int .i64 o, .slice A len cap], .int .i64 t] w (RetS (zsV o l t) w) := by
  have R0 := (Blk.newE (W := w.alloc (.cells #[.int .i64 o, .slice A len cap] 36)) (g := w.heap.size + 1) (t := 31) (cs := #[.int .i64 0, .int .i64 0, .int .i64 0, .int .i64 0, .int .i64 0, .int .i64 0, .int .i64 0, .int .i64 0]) (by simp))
  have Z0 := (Blk.new w 36 #[.int .i64 o, .slice A len cap]).alloc (.cells #[.int .i64 0, .int .i64 0, .int .i64 0, .int .i64 0, .int .i64 0, .int .i64 0, .int .i64 0, .int .i64 0] 31)
  have B0 := bal (bal (Below.refl w.heap.size w) (.cells #[.int .i64 o, .slice A len cap] 36)) (.cells #[.int .i64 0, .int .i64 0, .int .i64 0, .int .i64 0, .int .i64 0, .int .i64 0, .int .i64 0, .int .i64 0] 31)
  have HL := hide hl
  have HP := hide hP
  clear hl hP
  go_enter Tryd.func15, Tryd.ntmps15
  go_wp2_with fail
  refine (spec_zv o l _ _ B _ _ HL.out (HP.out.below (B0.mono hB)) (by simp; omega)).mono ?_
  rintro e w1 ⟨rfl, hb1⟩
  have H1 : Below w.heap.size w w1 := bto B0 hb1
  have R1 := R0.below hb1 R0.lt
  have Z1 := Z0.below hb1 Z0.lt
  have z0 := Z1.cell 0
  have z1 := Z1.cell 1
  have hs1 := H1.size
  have hsp := R1.sp rfl
  have hsz : w.heap.size ≤ w.heap.size + 1 := Nat.le_succ _
  simp at z0 z1
  clear R0 R1 B0 Z0 Z1 hb1
  cases hv : zvB o l with
  | false =>
    have HS := hide (zsV_no1 (t := t) hv)
    go_wp2_with fail
    refine bodyPost_ret (by simp [results, Tryd.results15, go_sem, cell_sp hsp]; try rfl) rfl ?_
    exact ⟨by rw [HS.out]; rfl, brow H1 hsz _⟩
  | true =>
    cases ht : insB t with
    | false =>
      have HS := hide (zsV_no2 (o := o) (l := l) ht)
      go_wp2_with (go_at_call 43; refine (l12Ok_any _ _).mono ?_; rintro e w' ⟨rfl, rfl⟩)
      refine bodyPost_ret (by simp [results, Tryd.results15, go_sem, cell_sp hsp]; try rfl) rfl ?_
      exact ⟨by rw [HS.out]; rfl, brow H1 hsz _⟩
    | true =>
      have HS := hide (zsV_yes hv ht)
      go_wp2_with (go_at_call 43; refine (l12Ok_any _ _).mono ?_; rintro e w' ⟨rfl, rfl⟩)
      refine (l22Offset_any o t l _ _ B _ _ HL.out (HP.out.below (H1.mono hB)) (by omega) hm).mono ?_
      rintro e w2 ⟨rfl, hb2⟩
      have H2 := bto H1 hb2
      have hs2 := sp_below hsp hb2
      go_wp2_with fail
      refine (spec_stampAt _ _ _).mono ?_
      rintro e w3 ⟨rfl, hb3⟩
      have hs3 := sp_below hs2 hb3
      have H3 := bto H2 hb3
      generalize stAt t (offAt o l t) = r at HS
      obtain ⟨⟨y, mo, d, h, mi, s, ms, o'⟩, ok⟩ := r
      simp only [S8.v]
      go_wp2_with fail
      refine bodyPost_ret (by simp [results, Tryd.results15, go_sem, cell_sp hs3]; try rfl) rfl ?_
      exact ⟨by rw [HS.out]; rfl, brow H3 hsz _⟩
end Go.Proofs.YtjdlffkbhaieaaaDoor
