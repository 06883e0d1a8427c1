/- Contracts: the shift by a period's date (the program's closures). -/
import Derived.Test.YtaagomchjklgaaaDoorSf1
import Derived.Test.YtaagomchjklgaaaDoorRp2
namespace Go.Proofs.YtaagomchjklgaaaDoor
open Go.RowKit

theorem monthsOf_any (p1 p2 p3 p4 p5 p6 : Int) (w : World) (hp : pvB p1 p2 p3 p4 p5 p6 = true) :
    Calls Tryd.prog 66 #[.agg #[.int .i64 p1, .int .i64 p2, .int .i64 p3, .int .i64 p4, .int .i64 p5, .int .i64 p6]] w fun e w' => e = .returned (.int .i64 (12 * p1 + p2)) ∧ Below w.heap.size w w' := by
  obtain ⟨a1, a2, a3, a4, a5, a6⟩ := pvB_iff.1 hp
  clear hp
  go_enter Tryd.func66, Tryd.ntmps66
  go_wp2_with fail
  go_ret
  exact ⟨rfl, (by repeat' (first | (with_reducible exact Below.refl _ _) | (with_reducible assumption) | (with_reducible refine bal ?_ _) | (with_reducible refine bdrewN ?_ _) | (with_reducible refine bdrew ?_) | (with_reducible refine bset ?_ ?_ _) | (with_reducible refine brow ?_ ?_ _) | omega | (simp; done) | (simp; omega)))⟩
theorem secondsOf_any (p1 p2 p3 p4 p5 p6 : Int) (w : World) (hp : pvB p1 p2 p3 p4 p5 p6 = true) :
    Calls Tryd.prog 42 #[.agg #[.int .i64 p1, .int .i64 p2, .int .i64 p3, .int .i64 p4, .int .i64 p5, .int .i64 p6]] w fun e w' => e = .returned (.int .i64 ((p4 * 60 + p5) * 60 + p6)) ∧ Below w.heap.size w w' := by
  obtain ⟨a1, a2, a3, a4, a5, a6⟩ := pvB_iff.1 hp
  clear hp
  go_enter Tryd.func42, Tryd.ntmps42
  go_wp2_with fail
  go_ret
  exact ⟨rfl, (by repeat' (first | (with_reducible exact Below.refl _ _) | (with_reducible assumption) | (with_reducible refine bal ?_ _) | (with_reducible refine bdrewN ?_ _) | (with_reducible refine bdrew ?_) | (with_reducible refine bset ?_ ?_ _) | (with_reducible refine brow ?_ ?_ _) | omega | (simp; done) | (simp; omega)))⟩
/-- A closure of two captured boxes. -/
def clo (f a b : Nat) : Value := .func (.func f) #[] #[.pointer (some ⟨a, 0, none⟩), .pointer (some ⟨b, 0, none⟩)]
theorem then_any (f g a b : Nat) (w : World) :
    Calls Tryd.prog 67 #[.func (.func f) #[] #[.pointer (some ⟨a, 0, none⟩), .pointer (some ⟨b, 0, none⟩)], .func (.func g) #[] #[.pointer (some ⟨a, 0, none⟩), .pointer (some ⟨b, 0, none⟩)]] w fun e w' => e = .returned (.func (.func 86) #[] #[.pointer (some ⟨w.heap.size, 0, none⟩), .pointer (some ⟨w.heap.size + 1, 0, none⟩)]) ∧
      Blk w' w.heap.size 76 #[.func (.func f) #[] #[.pointer (some ⟨a, 0, none⟩), .pointer (some ⟨b, 0, none⟩)]] ∧ Blk w' (w.heap.size + 1) 76 #[.func (.func g) #[] #[.pointer (some ⟨a, 0, none⟩), .pointer (some ⟨b, 0, none⟩)]] ∧ Below w.heap.size w w' := by
  have hmf : ∀ (fn : Fn) (first cap : Array Value) (w : World), (Instr.makeFunc fn first cap).run Tryd.prog w = .ok (.func fn first cap) w := fun _ _ _ _ => rfl
  go_enter Tryd.func67, Tryd.ntmps67
  go_wp2_with fail
  go_ret
  exact ⟨by simp, (Blk.new _ _ _).alloc _, Blk.newE (by simp), (by repeat' (first | (with_reducible exact Below.refl _ _) | (with_reducible assumption) | (with_reducible refine bal ?_ _) | (with_reducible refine bdrewN ?_ _) | (with_reducible refine bdrew ?_) | (with_reducible refine bset ?_ ?_ _) | (with_reducible refine brow ?_ ?_ _) | omega | (simp; done) | (simp; omega)))⟩
/-- What a shift has captured. -/
def Shf (w : World) (bs bp bf bg : Nat) (p1 p2 p3 p4 p5 p6 : Int) : Prop :=
  Blk w bs 3 #[.int .i64 1] ∧ Blk w bp 38 #[.int .i64 p1, .int .i64 p2, .int .i64 p3, .int .i64 p4, .int .i64 p5, .int .i64 p6] ∧
    Blk w bf 76 #[.func (.func 64) #[] #[.pointer (some ⟨bs, 0, none⟩), .pointer (some ⟨bp, 0, none⟩)]] ∧ Blk w bg 76 #[.func (.func 68) #[] #[.pointer (some ⟨bs, 0, none⟩), .pointer (some ⟨bp, 0, none⟩)]]
theorem Shf.below {w w' : World} {bs bp bf bg : Nat} {p1 p2 p3 p4 p5 p6 : Int} (h : Shf w bs bp bf bg p1 p2 p3 p4 p5 p6) (hb : Below w.heap.size w w') : Shf w' bs bp bf bg p1 p2 p3 p4 p5 p6 :=
  ⟨h.1.below hb h.1.lt, h.2.1.below hb h.2.1.lt, h.2.2.1.below hb h.2.2.1.lt, h.2.2.2.below hb h.2.2.2.lt⟩
theorem Shf.drew {w : World} {bs bp bf bg : Nat} {p1 p2 p3 p4 p5 p6 : Int} (h : Shf w bs bp bf bg p1 p2 p3 p4 p5 p6) : Shf w.drew bs bp bf bg p1 p2 p3 p4 p5 p6 := h
theorem Shf.alloc {w : World} {bs bp bf bg : Nat} {p1 p2 p3 p4 p5 p6 : Int} (h : Shf w bs bp bf bg p1 p2 p3 p4 p5 p6) (o : Obj) : Shf (w.alloc o) bs bp bf bg p1 p2 p3 p4 p5 p6 :=
  ⟨h.1.alloc o, h.2.1.alloc o, h.2.2.1.alloc o, h.2.2.2.alloc o⟩
set_option maxRecDepth 100000 in
set_option maxHeartbeats 4000000 in
theorem shiftOf_any (p1 p2 p3 p4 p5 p6 : Int) (w : World) :
    Calls Tryd.prog 41 #[.agg #[.int .i64 p1, .int .i64 p2, .int .i64 p3, .int .i64 p4, .int .i64 p5, .int .i64 p6], .bool false] w fun e w' => (∃ bs bp bf bg : Nat, e = .returned (.func (.func 86) #[] #[.pointer (some ⟨bf, 0, none⟩), .pointer (some ⟨bg, 0, none⟩)]) ∧ Shf w' bs bp bf bg p1 p2 p3 p4 p5 p6) ∧ Below w.heap.size w w' := by
  have hmf : ∀ (fn : Fn) (first cap : Array Value) (w : World), (Instr.makeFunc fn first cap).run Tryd.prog w = .ok (.func fn first cap) w := fun _ _ _ _ => rfl
  have P0 := hide ((Blk.new w 38 #[.int .i64 p1, .int .i64 p2, .int .i64 p3, .int .i64 p4, .int .i64 p5, .int .i64 p6]).alloc (.cells #[.int .i64 1] 3))
  have S0 := hide (Blk.newE (W := w.alloc (.cells #[.int .i64 p1, .int .i64 p2, .int .i64 p3, .int .i64 p4, .int .i64 p5, .int .i64 p6] 38)) (g := w.heap.size + 1) (t := 3) (cs := #[.int .i64 1]) (by simp))
  have B0 := hide (bal (bal (Below.refl w.heap.size w) (.cells #[.int .i64 p1, .int .i64 p2, .int .i64 p3, .int .i64 p4, .int .i64 p5, .int .i64 p6] 38)) (.cells #[.int .i64 1] 3))
  go_enter Tryd.func41, Tryd.ntmps41
  go_wp2_with fail
  refine (then_any 64 68 (w.heap.size + 1) w.heap.size _).mono ?_
  rintro e w1 ⟨rfl, hf1, hg1, hb1⟩
  simp only [World.size_alloc] at hf1 hg1
  have P1 := hide (P0.out.below hb1 P0.out.lt)
  have S1 := hide (S0.out.below hb1 S0.out.lt)
  have B1 := hide (bto B0.out hb1)
  have F1 := hide hf1
  have G1 := hide hg1
  clear hf1 hg1 hb1
  go_wp2_with fail
  go_ret
  exact ⟨⟨w.heap.size + 1, w.heap.size, _, _, rfl, S1.out, P1.out, F1.out, G1.out⟩, B1.out⟩
/-- The date that a shift returns. -/
def IsD (y mo d k dd a b c : Int) (ok : Bool) : Prop :=
  (dpB y mo d k dd = true ∧ a = yOf (dpN y mo d k dd) ∧ b = mOf (dpN y mo d k dd) ∧ c = dOf (dpN y mo d k dd) ∧ ok = true) ∨ (dpB y mo d k dd = false ∧ a = 0 ∧ b = 0 ∧ c = 0 ∧ ok = false)
def RetD (y mo d k dd : Int) (w : World) (e : Ending) (w' : World) : Prop :=
  (∃ (a b c : Int) (ok : Bool), e = .returned (.tuple #[.agg #[.int .i64 a, .int .i64 b, .int .i64 c], .bool ok]) ∧ Hid (IsD y mo d k dd a b c ok)) ∧ Below w.heap.size w w'
/-- The date some months later. -/
def IsM (y mo d k a b c : Int) (ok : Bool) : Prop :=
  (mT y mo k ≤ 119987 ∧ a = mY (mT y mo k) ∧ b = mM (mT y mo k) ∧ c = mD (mT y mo k) d ∧ ok = true) ∨ (119987 < mT y mo k ∧ a = 0 ∧ b = 0 ∧ c = 0 ∧ ok = false)
def RetM (y mo d k : Int) (w : World) (e : Ending) (w' : World) : Prop :=
  (∃ (a b c : Int) (ok : Bool), e = .returned (.tuple #[.agg #[.int .i64 a, .int .i64 b, .int .i64 c], .bool ok]) ∧ Hid (IsM y mo d k a b c ok)) ∧ Below w.heap.size w w'
theorem impl_mp (y mo d k : Int) (w : World) (hM : MD w) (hv : vld y mo d = true) (hk : 0 ≤ k) (hk2 : k ≤ 200000) :
    Calls Tryd.prog 65 #[.agg #[.int .i64 y, .int .i64 mo, .int .i64 d], .int .i64 k] w (RetM y mo d k w) := by
  by_cases ht : mT y mo k ≤ 119987
  · exact (impl_mp_yes y mo d k w hM hv hk ht).mono fun e w' h => ⟨⟨_, _, _, _, h.1, hide (.inl ⟨ht, rfl, rfl, rfl, rfl⟩)⟩, h.2⟩
  · exact (impl_mp_no y mo d k w hM hv hk hk2 (by omega)).mono fun e w' h => ⟨⟨_, _, _, _, h.1, hide (.inr ⟨by omega, rfl, rfl, rfl, rfl⟩)⟩, h.2⟩
set_option maxRecDepth 100000 in
set_option maxHeartbeats 4000000 in
theorem shift1_any {bs bp bf bg : Nat} (y mo d p1 p2 p3 p4 p5 p6 : Int) (w : World) (hM : MD w) (hv : vld y mo d = true) (hp : pvB p1 p2 p3 p4 p5 p6 = true) (H : Shf w bs bp bf bg p1 p2 p3 p4 p5 p6) :
    Calls Tryd.prog 64 #[.agg #[.int .i64 y, .int .i64 mo, .int .i64 d], .pointer (some ⟨bs, 0, none⟩), .pointer (some ⟨bp, 0, none⟩)] w (RetM y mo d (12 * p1 + p2) w) := by
  obtain ⟨a1, a2, a3, a4, a5, a6⟩ := pvB_iff.1 hp
  have hM0 := (hM.alloc (.cells #[.int .i64 y, .int .i64 mo, .int .i64 d] 34)).alloc (.cells #[.int .i64 0, .int .i64 0, .int .i64 0] 34)
  have H0 := hide ((H.alloc (.cells #[.int .i64 y, .int .i64 mo, .int .i64 d] 34)).alloc (.cells #[.int .i64 0, .int .i64 0, .int .i64 0] 34))
  have D0 := hide ((Blk.new w 34 #[.int .i64 y, .int .i64 mo, .int .i64 d]).alloc (.cells #[.int .i64 0, .int .i64 0, .int .i64 0] 34))
  have R0 := hide (Blk.newE (W := w.alloc (.cells #[.int .i64 y, .int .i64 mo, .int .i64 d] 34)) (g := w.heap.size + 1) (t := 34) (cs := #[.int .i64 0, .int .i64 0, .int .i64 0]) (by simp))
  have B0 := hide (bal (bal (Below.refl w.heap.size w) (.cells #[.int .i64 y, .int .i64 mo, .int .i64 d] 34)) (.cells #[.int .i64 0, .int .i64 0, .int .i64 0] 34))
  have HP := hide hp
  have HV := hide hv
  have he : 12 * p1 + p2 ≤ 200000 := by omega
  have he0 : 0 ≤ 12 * p1 + p2 := by omega
  have hwr : IntKind.i64.wrap (12 * p1 + p2) = 12 * p1 + p2 := IntWalk.i64_in _ (by omega)
  clear hp hv H
  go_enter Tryd.func64, Tryd.ntmps64
  go_wp2_with fail
  generalize (w.alloc (.cells #[.int .i64 y, .int .i64 mo, .int .i64 d] 34)).alloc (.cells #[.int .i64 0, .int .i64 0, .int .i64 0] 34) = w0 at *
  have s0 := H0.out.1.cell 0
  have p0 := H0.out.2.1.cell 0
  have p1' := H0.out.2.1.cell 1
  have p2' := H0.out.2.1.cell 2
  have p3' := H0.out.2.1.cell 3
  have p4' := H0.out.2.1.cell 4
  have p5' := H0.out.2.1.cell 5
  have d0 := D0.out.cell 0
  have d1 := D0.out.cell 1
  have d2 := D0.out.cell 2
  simp at s0 p0 p1' p2' p3' p4' p5' d0 d1 d2
  go_region_with (first | (go_simp; go_at_call 66; refine (monthsOf_any p1 p2 p3 p4 p5 p6 _ HP.out).mono ?_; rintro e w1 ⟨rfl, hb1⟩; have H1 := hide (H0.out.drew.below hb1); have D1 := hide (D0.out.drew.below hb1 D0.out.drew.lt); have R1 := hide (R0.out.drew.below hb1 R0.out.drew.lt); have B1 := hide (bto (bdrew B0.out) hb1); have s1 := H1.out.1.cell 0; have q0 := (D1.out).cell 0; have q1 := (D1.out).cell 1; have q2 := (D1.out).cell 2; simp at s1 q0 q1 q2; have hM1 := hM0.drew.below hb1) | (go_simp; go_at_call 65; (try rw [hwr]); refine (impl_mp y mo d (12 * p1 + p2) _ hM1 HV.out he0 he).mono ?_; rintro e w2 ⟨⟨a, b, c, ok, rfl, hr⟩, hb2⟩; have R2 := hide (R1.out.below hb2 R1.out.lt); have B2 := hide (bto B1.out hb2); have r0 := R2.out.cell 0; have r1 := R2.out.cell 1; have r2 := R2.out.cell 2; have f0 := R2.out.frozen 0; have f1 := R2.out.frozen 1; have f2 := R2.out.frozen 2; simp at r0 r1 r2))
  all_goals
    go_wp2_with fail
    have RR := ((R2.out.set_ 0 (.int .i64 a)).set_ 1 (.int .i64 b)).set_ 2 (.int .i64 c)
    have k0 := RR.cell 0
    have k1 := RR.cell 1
    have k2 := RR.cell 2
    simp at k0 k1 k2
    refine bodyPost_ret (by simp [results, Tryd.results64, go_sem, k0, k1, k2]; try rfl) rfl ?_
    exact ⟨⟨a, b, c, ok, rfl, hr⟩, bset (bset (bset B2.out (p := ⟨w.heap.size + 1, 0, none⟩) (by simp) _) (p := ⟨w.heap.size + 1, 1, none⟩) (by simp) _) (p := ⟨w.heap.size + 1, 2, none⟩) (by simp) _⟩
/-- The date some days later. -/
def IsP (y mo d k a b c : Int) (ok : Bool) : Prop :=
  (num y mo d + k ≤ 3652058 ∧ a = yOf (num y mo d + k) ∧ b = mOf (num y mo d + k) ∧ c = dOf (num y mo d + k) ∧ ok = true) ∨ (3652058 < num y mo d + k ∧ a = 0 ∧ b = 0 ∧ c = 0 ∧ ok = false)
def RetP (y mo d k : Int) (w : World) (e : Ending) (w' : World) : Prop :=
  (∃ (a b c : Int) (ok : Bool), e = .returned (.tuple #[.agg #[.int .i64 a, .int .i64 b, .int .i64 c], .bool ok]) ∧ Hid (IsP y mo d k a b c ok)) ∧ Below w.heap.size w w'
theorem impl_dp (y mo d k : Int) (w : World) (hM : MD w) (hv : vld y mo d = true) (hk : 0 ≤ k) (hk2 : k ≤ 9999) :
    Calls Tryd.prog 69 #[.agg #[.int .i64 y, .int .i64 mo, .int .i64 d], .int .i64 k] w (RetP y mo d k w) := by
  by_cases ht : num y mo d + k ≤ 3652058
  · exact (impl_dp_yes y mo d k w hM hv hk ht).mono fun e w' h => ⟨⟨_, _, _, _, h.1, hide (.inl ⟨ht, rfl, rfl, rfl, rfl⟩)⟩, h.2⟩
  · exact (impl_dp_no y mo d k w hM hv hk hk2 (by omega)).mono fun e w' h => ⟨⟨_, _, _, _, h.1, hide (.inr ⟨by omega, rfl, rfl, rfl, rfl⟩)⟩, h.2⟩
set_option maxRecDepth 100000 in
set_option maxHeartbeats 4000000 in
theorem shift2_any {bs bp bf bg : Nat} (y mo d p1 p2 p3 p4 p5 p6 : Int) (w : World) (hM : MD w) (hv : vld y mo d = true) (hp : pvB p1 p2 p3 p4 p5 p6 = true) (H : Shf w bs bp bf bg p1 p2 p3 p4 p5 p6) :
    Calls Tryd.prog 68 #[.agg #[.int .i64 y, .int .i64 mo, .int .i64 d], .pointer (some ⟨bs, 0, none⟩), .pointer (some ⟨bp, 0, none⟩)] w (RetP y mo d p3 w) := by
  obtain ⟨a1, a2, a3, a4, a5, a6⟩ := pvB_iff.1 hp
  have hM0 := (hM.alloc (.cells #[.int .i64 y, .int .i64 mo, .int .i64 d] 34)).alloc (.cells #[.int .i64 0, .int .i64 0, .int .i64 0] 34)
  have H0 := hide ((H.alloc (.cells #[.int .i64 y, .int .i64 mo, .int .i64 d] 34)).alloc (.cells #[.int .i64 0, .int .i64 0, .int .i64 0] 34))
  have D0 := hide ((Blk.new w 34 #[.int .i64 y, .int .i64 mo, .int .i64 d]).alloc (.cells #[.int .i64 0, .int .i64 0, .int .i64 0] 34))
  have R0 := hide (Blk.newE (W := w.alloc (.cells #[.int .i64 y, .int .i64 mo, .int .i64 d] 34)) (g := w.heap.size + 1) (t := 34) (cs := #[.int .i64 0, .int .i64 0, .int .i64 0]) (by simp))
  have B0 := hide (bal (bal (Below.refl w.heap.size w) (.cells #[.int .i64 y, .int .i64 mo, .int .i64 d] 34)) (.cells #[.int .i64 0, .int .i64 0, .int .i64 0] 34))
  have HV := hide hv
  have hwr : IntKind.i64.wrap p3 = p3 := IntWalk.i64_in _ (by omega)
  obtain ⟨wq, ewq⟩ : ∃ wq, wq = (w.alloc (.cells #[.int .i64 y, .int .i64 mo, .int .i64 d] 34)).alloc (.cells #[.int .i64 0, .int .i64 0, .int .i64 0] 34) := ⟨_, rfl⟩
  rw [← ewq] at H0 D0 R0 B0 hM0
  have s0 := H0.out.1.cell 0
  have p3' := H0.out.2.1.cell 2
  have d0 := D0.out.cell 0
  have d1 := D0.out.cell 1
  have d2 := D0.out.cell 2
  simp at s0 p3' d0 d1 d2
  rw [ewq] at s0 p3' d0 d1 d2
  clear hp hv H
  go_enter Tryd.func68, Tryd.ntmps68
  go_wp2_with fail
  rw [← ewq]
  refine (impl_dp y mo d p3 _ hM0 HV.out (by omega) (by omega)).mono ?_
  rintro e w2 ⟨⟨a, b, c, ok, rfl, hr⟩, hb2⟩
  have R2 := hide (R0.out.below hb2 R0.out.lt)
  have B2 := hide (bto B0.out hb2)
  have r0 := R2.out.cell 0
  have r1 := R2.out.cell 1
  have r2 := R2.out.cell 2
  have f0 := R2.out.frozen 0
  have f1 := R2.out.frozen 1
  have f2 := R2.out.frozen 2
  simp at r0 r1 r2
  clear s0 p3' d0 d1 d2 ewq hb2
  go_wp2_with fail
  have RR := ((R2.out.set_ 0 (.int .i64 a)).set_ 1 (.int .i64 b)).set_ 2 (.int .i64 c)
  have k0 := RR.cell 0
  have k1 := RR.cell 1
  have k2 := RR.cell 2
  simp at k0 k1 k2
  refine bodyPost_ret (by simp [results, Tryd.results68, go_sem, k0, k1, k2]; try rfl) rfl ?_
  exact ⟨⟨a, b, c, ok, rfl, hr⟩, bset (bset (bset B2.out (p := ⟨w.heap.size + 1, 0, none⟩) (by simp) _) (p := ⟨w.heap.size + 1, 1, none⟩) (by simp) _) (p := ⟨w.heap.size + 1, 2, none⟩) (by simp) _⟩
end Go.Proofs.YtaagomchjklgaaaDoor
