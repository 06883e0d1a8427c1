/- The next time of a repeat: the program's. -/
import Derived.Test.YtaagomchjklgaaaDoorRn2
namespace Go.Proofs.YtaagomchjklgaaaDoor
open Go.RowKit Go.Shelf

theorem keeps_below {B : Nat} {W W' : World} (h : Below W.heap.size W W') : KeepsFrom B W W' := (KeepsOthers.of_grownBy (only_below (only_refl W none) h) (fun j o e => by cases e)).from B
/-- None is later. -/
def NoneL (ix : Int) (l : List Tm) : Prop := ∀ z ∈ l, ¬ ix < z.1.2.ins
/-- The last one alone is later. -/
def LastL (ix : Int) (l : List Tm) : Prop := ∃ (pre2 : List Tm) (z : Tm), l = pre2 ++ [z] ∧ (∀ q ∈ pre2, ¬ ix < q.1.2.ins) ∧ ix < z.1.2.ins
theorem NoneL.on {ix : Int} {l : List Tm} (h : NoneL ix l) {x : Tm} (hx : ¬ ix < x.1.2.ins) : NoneL ix (l ++ [x]) := fun z hz => by
  rcases List.mem_append.1 hz with hz | hz
  · exact h z hz
  · simp only [List.mem_singleton] at hz
    subst hz
    exact hx
theorem NoneL.hit {ix : Int} {l : List Tm} (h : NoneL ix l) {x : Tm} (hx : ix < x.1.2.ins) : LastL ix (l ++ [x]) := ⟨l, x, rfl, h, hx⟩
def lastN (l : List Tm) : Int := ((l.getLast?).map (fun z => z.1.1)).getD 0
theorem blk_own {W W' : World} {row : Option Nat} {g : Nat} {t : TypeId} {cs : Array Value} (h : Blk W g t cs) (hg : W.grownBy W' row) (hr : ∀ r, row = some r → ∃ o : Obj, W.heap[r]? = some o ∧ o.isCells = false) : Blk W' g t cs :=
  h.grown hg (fun e => by
    obtain ⟨ob, ho, hc⟩ := hr g e.symm
    rw [show W.heap[g]? = _ from h] at ho
    cases ho
    cases hc)
section
attribute [local go_sem] Oper.semAt_some
attribute [local go_sem ↓] loadR_eq
set_option maxRecDepth 100000 in
set_option maxHeartbeats 8000000 in
theorem impl_rn (y mo d h mi s ms o p1 p2 p3 p4 p5 p6 t : Int) (u : S8) (w : World) (hM : MD w) :
    Calls Tryd.prog 13 #[.agg #[.int .i64 y, .int .i64 mo, .int .i64 d, .int .i64 h, .int .i64 mi, .int .i64 s, .int .i64 ms, .int .i64 o, .int .i64 p1, .int .i64 p2, .int .i64 p3, .int .i64 p4, .int .i64 p5, .int .i64 p6, .int .i64 t], .agg u.v] w fun e w' => e = .returned (.tuple #[.int .i64 (rnP ⟨y, mo, d, h, mi, s, ms, o⟩ p1 p2 p3 p4 p5 p6 t u).1, .bool (rnP ⟨y, mo, d, h, mi, s, ms, o⟩ p1 p2 p3 p4 p5 p6 t u).2]) ∧ Below w.heap.size w w' := by
  obtain ⟨uy, umo, ud, uh, umi, us, ums, uo⟩ := u
  simp only [S8.v]
  have X0 := hide ((((Blk.new w 40 #[.int .i64 y, .int .i64 mo, .int .i64 d, .int .i64 h, .int .i64 mi, .int .i64 s, .int .i64 ms, .int .i64 o, .int .i64 p1, .int .i64 p2, .int .i64 p3, .int .i64 p4, .int .i64 p5, .int .i64 p6, .int .i64 t]).alloc (.cells #[.int .i64 uy, .int .i64 umo, .int .i64 ud, .int .i64 uh, .int .i64 umi, .int .i64 us, .int .i64 ums, .int .i64 uo] 37)).alloc (.cells #[.int .i64 0] 3)).alloc (.cells #[.bool false] 4))
  have U0 := hide (((Blk.newE (W := w.alloc (.cells #[.int .i64 y, .int .i64 mo, .int .i64 d, .int .i64 h, .int .i64 mi, .int .i64 s, .int .i64 ms, .int .i64 o, .int .i64 p1, .int .i64 p2, .int .i64 p3, .int .i64 p4, .int .i64 p5, .int .i64 p6, .int .i64 t] 40)) (g := w.heap.size + 1) (t := 37) (cs := #[.int .i64 uy, .int .i64 umo, .int .i64 ud, .int .i64 uh, .int .i64 umi, .int .i64 us, .int .i64 ums, .int .i64 uo]) (by simp)).alloc (.cells #[.int .i64 0] 3)).alloc (.cells #[.bool false] 4))
  have N0 := hide ((Blk.newE (W := (w.alloc (.cells #[.int .i64 y, .int .i64 mo, .int .i64 d, .int .i64 h, .int .i64 mi, .int .i64 s, .int .i64 ms, .int .i64 o, .int .i64 p1, .int .i64 p2, .int .i64 p3, .int .i64 p4, .int .i64 p5, .int .i64 p6, .int .i64 t] 40)).alloc (.cells #[.int .i64 uy, .int .i64 umo, .int .i64 ud, .int .i64 uh, .int .i64 umi, .int .i64 us, .int .i64 ums, .int .i64 uo] 37)) (g := w.heap.size + 1 + 1) (t := 3) (cs := #[.int .i64 0]) (by simp)).alloc (.cells #[.bool false] 4))
  have E0 := hide (Blk.newE (W := ((w.alloc (.cells #[.int .i64 y, .int .i64 mo, .int .i64 d, .int .i64 h, .int .i64 mi, .int .i64 s, .int .i64 ms, .int .i64 o, .int .i64 p1, .int .i64 p2, .int .i64 p3, .int .i64 p4, .int .i64 p5, .int .i64 p6, .int .i64 t] 40)).alloc (.cells #[.int .i64 uy, .int .i64 umo, .int .i64 ud, .int .i64 uh, .int .i64 umi, .int .i64 us, .int .i64 ums, .int .i64 uo] 37)).alloc (.cells #[.int .i64 0] 3)) (g := w.heap.size + 1 + 1 + 1) (t := 4) (cs := #[.bool false]) (by simp))
  have B0 := hide (bal (bal (bal (bal (Below.refl w.heap.size w) (.cells #[.int .i64 y, .int .i64 mo, .int .i64 d, .int .i64 h, .int .i64 mi, .int .i64 s, .int .i64 ms, .int .i64 o, .int .i64 p1, .int .i64 p2, .int .i64 p3, .int .i64 p4, .int .i64 p5, .int .i64 p6, .int .i64 t] 40)) (.cells #[.int .i64 uy, .int .i64 umo, .int .i64 ud, .int .i64 uh, .int .i64 umi, .int .i64 us, .int .i64 ums, .int .i64 uo] 37)) (.cells #[.int .i64 0] 3)) (.cells #[.bool false] 4))
  have hV : ∀ W, MD W → Calls Tryd.prog 28 #[.agg #[.int .i64 y, .int .i64 mo, .int .i64 d, .int .i64 h, .int .i64 mi, .int .i64 s, .int .i64 ms, .int .i64 o, .int .i64 p1, .int .i64 p2, .int .i64 p3, .int .i64 p4, .int .i64 p5, .int .i64 p6, .int .i64 t]] W fun e w' => e = .returned (.bool (rpB ⟨y, mo, d, h, mi, s, ms, o⟩ p1 p2 p3 p4 p5 p6 t)) ∧ Below W.heap.size W w' := fun W hW => impl_rv y mo d h mi s ms o p1 p2 p3 p4 p5 p6 t W hW
  have hUv : ∀ W, MD W → Calls Tryd.prog 29 #[.agg #[.int .i64 uy, .int .i64 umo, .int .i64 ud, .int .i64 uh, .int .i64 umi, .int .i64 us, .int .i64 ums, .int .i64 uo]] W fun e w' => e = .returned (.bool (S8.ok ⟨uy, umo, ud, uh, umi, us, ums, uo⟩)) ∧ Below W.heap.size W w' := fun W hW => impl_sv ⟨uy, umo, ud, uh, umi, us, ums, uo⟩ W hW
  have hld0 := loadR_row X0.out
  have hM0 := hM.below B0.out
  refine (callsIn_wide (n := 12)).1 ?_
  refine callsIn_of_wp_marks Tryd.func13 rfl trivial ?_ rfl
  simp only [Tryd.ntmps13, List.size_toArray, List.length_cons, List.length_nil, Nat.reduceAdd, Nat.reduceSub, Array.replicate_succ, Array.replicate_zero, List.push_toArray, List.append_toArray, List.nil_append, List.cons_append]
  gi_wp2_with fail
  refine ⟨trivial, ?_⟩
  refine (callsIn_wide.2 (hV _ hM0)).mono ?_
  rintro e w1 ⟨rfl, hb1⟩
  have X1 := hide (X0.out.below hb1 X0.out.lt)
  have U1 := hide (U0.out.below hb1 U0.out.lt)
  have N1 := hide (N0.out.below hb1 N0.out.lt)
  have E1 := hide (E0.out.below hb1 E0.out.lt)
  have B1 := hide (bto B0.out hb1)
  have hM1 := hM0.below hb1
  clear X0 U0 N0 E0 B0 hb1 hM0
  clear hld0 hV
  cases hv : rpB ⟨y, mo, d, h, mi, s, ms, o⟩ p1 p2 p3 p4 p5 p6 t with
  | false =>
    have HR := hide (show rnP ⟨y, mo, d, h, mi, s, ms, o⟩ p1 p2 p3 p4 p5 p6 t ⟨uy, umo, ud, uh, umi, us, ums, uo⟩ = (0, false) by unfold rnP; rw [hv]; rfl)
    have n0 := N1.out.cell 0
    have e0 := E1.out.cell 0
    have nf := N1.out.frozen 0
    have ef := E1.out.frozen 0
    simp at n0 e0
    have hne : ¬ w.heap.size + 1 + 1 = w.heap.size + 1 + 1 + 1 := by omega
    have K1 := (N1.out.set_ 0 (.int .i64 0)).far (p := ⟨w.heap.size + 1 + 1 + 1, 0, none⟩) hne (.bool false)
    have K2 := (E1.out.far (p := ⟨w.heap.size + 1 + 1, 0, none⟩) (show w.heap.size + 1 + 1 + 1 ≠ w.heap.size + 1 + 1 by omega) (.int .i64 0)).set_ 0 (.bool false)
    have k0 := K1.cell 0
    have k1 := K2.cell 0
    simp at k0 k1
    have BB := hide (bset (bset B1.out (p := ⟨w.heap.size + 1 + 1, 0, none⟩) (show w.heap.size ≤ w.heap.size + 1 + 1 by omega) (.int .i64 0)) (p := ⟨w.heap.size + 1 + 1 + 1, 0, none⟩) (show w.heap.size ≤ w.heap.size + 1 + 1 + 1 by omega) (.bool false))
    clear K1 K2 X1 U1 N1 E1 B1
    gi_wp2
    refine ⟨(by first | exact trivial | exact fun _ _ => trivial), ?_⟩
    gi_wp2
    exact ⟨.tuple #[.int .i64 0, .bool false], by simp [results, Tryd.results13, go_sem, k0, k1], by rw [HR.out], BB.out⟩
  | true =>
    have HV := hide hv
    clear hv
    obtain ⟨u0, u1, u2, u3, u4, u5, u6, u7⟩ := st8 U1.out
    gi_wp2_with fail
    refine ⟨trivial, ?_⟩
    refine (callsIn_wide.2 (hUv _ hM1)).mono ?_
    rintro e w2 ⟨rfl, hb2⟩
    have X2 := hide (X1.out.below hb2 X1.out.lt)
    have U2 := hide (U1.out.below hb2 U1.out.lt)
    have N2 := hide (N1.out.below hb2 N1.out.lt)
    have E2 := hide (E1.out.below hb2 E1.out.lt)
    have B2 := hide (bto B1.out hb2)
    have hM2 := hM1.below hb2
    clear X1 U1 N1 E1 B1 hb2 hM1
    clear hUv u0 u1 u2 u3 u4 u5 u6 u7
    cases hu : S8.ok ⟨uy, umo, ud, uh, umi, us, ums, uo⟩ with
    | false =>
      have HR := hide (show rnP ⟨y, mo, d, h, mi, s, ms, o⟩ p1 p2 p3 p4 p5 p6 t ⟨uy, umo, ud, uh, umi, us, ums, uo⟩ = (0, false) by unfold rnP; rw [hu]; simp)
      have n0 := N2.out.cell 0
      have e0 := E2.out.cell 0
      have nf := N2.out.frozen 0
      have ef := E2.out.frozen 0
      simp at n0 e0
      have hne : ¬ w.heap.size + 1 + 1 = w.heap.size + 1 + 1 + 1 := by omega
      have K1 := (N2.out.set_ 0 (.int .i64 0)).far (p := ⟨w.heap.size + 1 + 1 + 1, 0, none⟩) hne (.bool false)
      have K2 := (E2.out.far (p := ⟨w.heap.size + 1 + 1, 0, none⟩) (show w.heap.size + 1 + 1 + 1 ≠ w.heap.size + 1 + 1 by omega) (.int .i64 0)).set_ 0 (.bool false)
      have k0 := K1.cell 0
      have k1 := K2.cell 0
      simp at k0 k1
      have BB := hide (bset (bset B2.out (p := ⟨w.heap.size + 1 + 1, 0, none⟩) (show w.heap.size ≤ w.heap.size + 1 + 1 by omega) (.int .i64 0)) (p := ⟨w.heap.size + 1 + 1 + 1, 0, none⟩) (show w.heap.size ≤ w.heap.size + 1 + 1 + 1 by omega) (.bool false))
      clear K1 K2 X2 U2 N2 E2 B2
      gi_wp2
      exact ⟨.tuple #[.int .i64 0, .bool false], by simp [results, Tryd.results13, go_sem, k0, k1], by rw [HR.out], BB.out⟩
    | true =>
      have HR := hide (show rnP ⟨y, mo, d, h, mi, s, ms, o⟩ p1 p2 p3 p4 p5 p6 t ⟨uy, umo, ud, uh, umi, us, ums, uo⟩ = nxF (fun k => raP ⟨y, mo, d, h, mi, s, ms, o⟩ p1 p2 p3 p4 p5 p6 t k) (S8.ins ⟨uy, umo, ud, uh, umi, us, ums, uo⟩) 0 (t.toNat + 1) by unfold rnP; rw [hu, HV.out]; rfl)
      have hIU : ∀ W, MD W → Calls Tryd.prog 31 #[.agg #[.int .i64 uy, .int .i64 umo, .int .i64 ud, .int .i64 uh, .int .i64 umi, .int .i64 us, .int .i64 ums, .int .i64 uo]] W fun e w' => e = .returned (.int .i64 (S8.ins ⟨uy, umo, ud, uh, umi, us, ums, uo⟩)) ∧ Below W.heap.size W w' := fun W hW => instantOf_any ⟨uy, umo, ud, uh, umi, us, ums, uo⟩ W hW hu
      have ht := (rpB_iff.1 HV.out).2.2.2.2
      obtain ⟨ix, eix⟩ : ∃ ix, S8.ins ⟨uy, umo, ud, uh, umi, us, ums, uo⟩ = ix := ⟨_, rfl⟩
      rw [eix] at HR hIU
      clear hu eix
      obtain ⟨T, eT⟩ : ∃ T : Nat, t = (T : Int) := ⟨t.toNat, by omega⟩
      have eT2 : t.toNat = T := by omega
      rw [eT2] at HR
      have HT := hide eT
      clear eT eT2 ht
      have hld2 := loadR_row X2.out
      gi_wp2_with fail
      refine ⟨trivial, ?_⟩
      refine (callsIn_wide.2 (all_any y mo d h mi s ms o p1 p2 p3 p4 p5 p6 t _)).mono ?_
      rintro e w3 ⟨rfl, hA3, hb3⟩
      have HA3 := hide hA3
      have X3 := hide (X2.out.below hb3 X2.out.lt)
      have U3 := hide (U2.out.below hb3 U2.out.lt)
      have N3 := hide (N2.out.below hb3 N2.out.lt)
      have E3 := hide (E2.out.below hb3 E2.out.lt)
      have B3 := hide (bto B2.out hb3)
      have hM3 := hM2.below hb3
      clear X2 U2 N2 E2 B2 hb3 hM2
      clear hld2 hA3
      generalize hg3 : w2.heap.size = gA at *
      clear hg3
      gi_wp2_with fail
      have hsz3 := B3.out.size
      have hlE := E3.out.lt
      have hmix : Tryd.prog.follows .mixedOrders = true := by kernel_rfl
      refine wpIn_rangeFunc_ownH rfl (by decide) (gf := 57) (lb := #[.pointer (some ⟨gA, 0, none⟩)]) rfl trivial (enters_of Tryd.func57 (by kernel_rfl) rfl)
        (all_stops 11 (by decide) y mo d h mi s ms o p1 p2 p3 p4 p5 p6 t T gA w3 HV.out HT.out HA3.out hM3) belowK_t (belowK_b (Nat.le_refl _)) (Below.refl _ _) (fun _ => rfl)
        (fun pre W => NoneL ix pre ∧ Below w3.heap.size w3 W)
        (fun c pre W => (c = .ret ∧ LastL ix pre) ∧ Blk W (w.heap.size + 1 + 1) 3 #[.int .i64 (lastN pre)] ∧ Blk W (w.heap.size + 1 + 1 + 1) 4 #[.bool true] ∧ Below w.heap.size w W)
        (OwnFrom.and (ownFrom_pure _ _) (ownFrom_below (Nat.le_refl _) (Nat.le_refl _)))
        (fun c s A B row hs hg hr => ⟨hs.1, blk_own hs.2.1 hg (fun r e => (hr r e).2), blk_own hs.2.2.1 hg (fun r e => (hr r e).2), ownFrom_below (β := Unit) (Nat.le_refl _) hsz3 () A B row hs.2.2.2 hg hr⟩)
        ⟨fun z hz => absurd hz (by simp), Below.refl _ _⟩
        (fun x a' W => ∃ Bx, w3.heap.size ≤ Bx ∧ Blk W Bx 37 x.1.2.v ∧ a' = { tmps := #[.agg #[.int .i64 y, .int .i64 mo, .int .i64 d, .int .i64 h, .int .i64 mi, .int .i64 s, .int .i64 ms, .int .i64 o, .int .i64 p1, .int .i64 p2, .int .i64 p3, .int .i64 p4, .int .i64 p5, .int .i64 p6, .int .i64 t], .agg #[.int .i64 uy, .int .i64 umo, .int .i64 ud, .int .i64 uh, .int .i64 umi, .int .i64 us, .int .i64 ums, .int .i64 uo], .pointer (some ⟨w.heap.size, 0, none⟩), .pointer (some ⟨w.heap.size + 1, 0, none⟩), .pointer (some ⟨w.heap.size + 1 + 1, 0, none⟩), .pointer (some ⟨w.heap.size + 1 + 1 + 1, 0, none⟩), .int .i64 x.1.1, .pointer (some ⟨Bx, 0, none⟩), .agg #[.int .i64 y, .int .i64 mo, .int .i64 d, .int .i64 h, .int .i64 mi, .int .i64 s, .int .i64 ms, .int .i64 o, .int .i64 p1, .int .i64 p2, .int .i64 p3, .int .i64 p4, .int .i64 p5, .int .i64 p6, .int .i64 t], .bool true, .bool false, .bool false, .agg #[.int .i64 uy, .int .i64 umo, .int .i64 ud, .int .i64 uh, .int .i64 umi, .int .i64 us, .int .i64 ums, .int .i64 uo], .bool true, .bool false, .bool false, .agg #[.int .i64 y, .int .i64 mo, .int .i64 d, .int .i64 h, .int .i64 mi, .int .i64 s, .int .i64 ms, .int .i64 o, .int .i64 p1, .int .i64 p2, .int .i64 p3, .int .i64 p4, .int .i64 p5, .int .i64 p6, .int .i64 t], .func (.func 57) #[] #[.pointer (some ⟨gA, 0, none⟩)], .int .i64 x.1.1, .agg x.1.2.v, undef, undef, undef, undef, undef, undef], defers := [] })
        (fun x a' _ A B row hs hg hr => by obtain ⟨Bx, e1, e2, e3⟩ := hs; exact ⟨Bx, e1, blk_own e2 hg (fun r e => (hr r e).2), e3⟩)
        ?assign ?body ?done ?stop
      case assign =>
        rintro l pre ⟨⟨kk, ⟨Y, M, D, H, I, S, L, O⟩⟩, hok⟩ W K ⟨hp, hB⟩ hK
        simp only [encT, S8.v] at hK ⊢
        gi_wp2
        exact hK _ _ ((KeepsOthers.alloc _ _).from _) ((Below.refl _ W).alloc hB.size _) ⟨hp, hB.alloc hB.size _⟩ ⟨W.heap.size, hB.size, Blk.new _ _ _, rfl⟩
      case body =>
        rintro l pre ⟨⟨kk, ⟨Y, M, D, H, I, S, L, O⟩⟩, hok⟩ a' W hl ⟨r, hr⟩ ⟨hp, hB⟩ ⟨Bx, hBx, bX, rfl⟩ hlt
        simp only [S8.v] at bX ⊢
        have hIY : ∀ W, MD W → Calls Tryd.prog 31 #[.agg #[.int .i64 Y, .int .i64 M, .int .i64 D, .int .i64 H, .int .i64 I, .int .i64 S, .int .i64 L, .int .i64 O]] W fun e w' => e = .returned (.int .i64 (S8.ins ⟨Y, M, D, H, I, S, L, O⟩)) ∧ Below W.heap.size W w' := fun W hW => instantOf_any ⟨Y, M, D, H, I, S, L, O⟩ W hW hok
        obtain ⟨na, ena⟩ : ∃ na, S8.ins ⟨Y, M, D, H, I, S, L, O⟩ = na := ⟨_, rfl⟩
        rw [ena] at hIY
        have HNA := hide ena
        clear ena
        have HBX := hide bX
        have HBW := hide hB
        have UW := hide (U3.out.below hB U3.out.lt)
        have NW := hide (N3.out.below hB N3.out.lt)
        have EW := hide (E3.out.below hB E3.out.lt)
        have hMW := hM3.below hB
        have hzW := hB.size
        clear hB bX X3 U3 N3 E3
        obtain ⟨y0, y1, y2, y3, y4, y5, y6, y7⟩ := st8 HBX.out
        obtain ⟨u0, u1, u2, u3, u4, u5, u6, u7⟩ := st8 UW.out
        gi_wp2_with fail
        gi_region_with_o (first | (refine ⟨trivial, ?_⟩; gi_at_call 31; (with_reducible refine (CallsIn.inRound l (callsIn_wide.2 (hIY _ hMW.drew))).mono ?_); rintro e w4 ⟨rfl, hb4⟩; have U4 := hide (UW.out.drew.below hb4 UW.out.drew.lt); have hM4 := hMW.drew.below hb4; have B4 := hide (bto (bdrew (Below.refl W.heap.size W)) hb4); obtain ⟨v0, v1, v2, v3, v4, v5, v6, v7⟩ := st8 U4.out) | (refine ⟨trivial, ?_⟩; gi_at_call 31; (with_reducible refine (CallsIn.inRound l (callsIn_wide.2 (hIU _ hM4))).mono ?_); rintro e w5 ⟨rfl, hb5⟩; have B5 := hide (bto B4.out hb5)))
        all_goals
          clear y0 y1 y2 y3 y4 y5 y6 y7 u0 u1 u2 u3 u4 u5 u6 u7 v0 v1 v2 v3 v4 v5 v6 v7 hIY hb4 hb5
          have N5 := NW.out.below B5.out NW.out.lt
          have E5 := EW.out.below B5.out EW.out.lt
          have B6 := hide (bto (bto B3.out HBW.out) B5.out)
          have n0 := N5.cell 0
          have e0 := E5.cell 0
          have nf := N5.frozen 0
          have ef := E5.frozen 0
          simp at n0 e0
          have hne : ¬ w.heap.size + 1 + 1 = w.heap.size + 1 + 1 + 1 := by omega
          have K1 := (N5.set_ 0 (.int .i64 kk)).far (p := ⟨w.heap.size + 1 + 1 + 1, 0, none⟩) hne (.bool true)
          have K2 := (E5.far (p := ⟨w.heap.size + 1 + 1, 0, none⟩) (show w.heap.size + 1 + 1 + 1 ≠ w.heap.size + 1 + 1 by omega) (.int .i64 kk)).set_ 0 (.bool true)
          simp only [List.setIfInBounds_toArray, List.set_cons_zero] at K1 K2
          have HK1 := hide K1
          have HK2 := hide K2
          clear K1 K2 N5 E5
          by_cases hg : ix < na
          · have HHit := hide (hp.hit (x := ⟨(kk, ⟨Y, M, D, H, I, S, L, O⟩), hok⟩) (show ix < S8.ins ⟨Y, M, D, H, I, S, L, O⟩ by rw [HNA.out]; exact hg))
            gi_wp2
            exact ⟨(keeps_below B5.out).trans (((KeepsOthers.setCell _ _ _).from _).trans ((KeepsOthers.setCell _ _ _).from _)), ⟨rfl, HHit.out⟩, by rw [show lastN (pre ++ [⟨(kk, ⟨Y, M, D, H, I, S, L, O⟩), hok⟩]) = kk by simp [lastN]]; exact HK1.out, HK2.out, bset (bset B6.out (p := ⟨w.heap.size + 1 + 1, 0, none⟩) (show w.heap.size ≤ w.heap.size + 1 + 1 by omega) _) (p := ⟨w.heap.size + 1 + 1 + 1, 0, none⟩) (show w.heap.size ≤ w.heap.size + 1 + 1 + 1 by omega) _⟩
          · have HMiss := hide (hp.on (x := ⟨(kk, ⟨Y, M, D, H, I, S, L, O⟩), hok⟩) (show ¬ ix < S8.ins ⟨Y, M, D, H, I, S, L, O⟩ by rw [HNA.out]; exact hg))
            gi_wp2
            exact ⟨keeps_below B5.out, B5.out.mono hzW, HMiss.out, bto HBW.out B5.out⟩
      case done =>
        rintro D ys W hD rfl ⟨hp, hB⟩ hK
        have N5 := N3.out.below hB N3.out.lt
        have E5 := E3.out.below hB E3.out.lt
        have BW := bto B3.out hB
        have n0 := N5.cell 0
        have e0 := E5.cell 0
        have nf := N5.frozen 0
        have ef := E5.frozen 0
        simp at n0 e0
        have hne : ¬ w.heap.size + 1 + 1 = w.heap.size + 1 + 1 + 1 := by omega
        have K1 := (N5.set_ 0 (.int .i64 0)).far (p := ⟨w.heap.size + 1 + 1 + 1, 0, none⟩) hne (.bool false)
        have K2 := (E5.far (p := ⟨w.heap.size + 1 + 1, 0, none⟩) (show w.heap.size + 1 + 1 + 1 ≠ w.heap.size + 1 + 1 by omega) (.int .i64 0)).set_ 0 (.bool false)
        simp only [List.setIfInBounds_toArray, List.set_cons_zero] at K1 K2
        have HK1 := hide K1
        have HK2 := hide K2
        have HF := hide (show rnP ⟨y, mo, d, h, mi, s, ms, o⟩ p1 p2 p3 p4 p5 p6 t ⟨uy, umo, ud, uh, umi, us, ums, uo⟩ = (0, false) by rw [HR.out]; exact nx_all hp)
        have HBW := hide BW
        have HHK := hide hK
        clear K1 K2 N5 E5 hp hB hK BW X3 U3 N3 E3
        gi_wp2
        have hK2 := ((KeepsOthers.setCell W ⟨w.heap.size + 1 + 1, 0, none⟩ (.int .i64 0)).trans (KeepsOthers.setCell _ ⟨w.heap.size + 1 + 1 + 1, 0, none⟩ (.bool false))).same D _ HHK.out rfl
        refine ⟨by simp, .inl ⟨_, _, rfl, run_takeDeferred hK2, ?_⟩⟩
        have k0 := (blk_own HK1.out (grownBy_putObj' _ D (.deferred none)) (fun r e => by cases e; exact ⟨_, hK2, rfl⟩)).cell 0
        have k1 := (blk_own HK2.out (grownBy_putObj' _ D (.deferred none)) (fun r e => by cases e; exact ⟨_, hK2, rfl⟩)).cell 0
        simp at k0 k1
        exact ⟨.tuple #[.int .i64 0, .bool false], by simp [results, Tryd.results13, go_sem, k0, k1], by rw [HF.out], (bset (bset HBW.out (p := ⟨w.heap.size + 1 + 1, 0, none⟩) (show w.heap.size ≤ w.heap.size + 1 + 1 by omega) _) (p := ⟨w.heap.size + 1 + 1 + 1, 0, none⟩) (show w.heap.size ≤ w.heap.size + 1 + 1 + 1 by omega) _).trans (belowK_b (w := w) (Nat.le_refl _) _ D _ _ (by omega) hK2 rfl rfl)⟩
      case stop =>
        rintro D c pre W hD hpre ⟨⟨rfl, hlast⟩, bN, bE, hB⟩ hK
        obtain ⟨pre2, z, rfl, h1, h2⟩ := hlast
        have HF := hide (show rnP ⟨y, mo, d, h, mi, s, ms, o⟩ p1 p2 p3 p4 p5 p6 t ⟨uy, umo, ud, uh, umi, us, ums, uo⟩ = (z.1.1, true) by rw [HR.out]; exact nx_first hpre h1 h2)
        have eL : lastN (pre2 ++ [z]) = z.1.1 := by simp [lastN]
        rw [eL] at bN
        have HBN := hide bN
        have HBE := hide bE
        have HBW := hide hB
        have HHK := hide hK
        clear bN bE hB hK h1 h2 hpre eL X3 U3 N3 E3
        gi_wp2
        have hK2 := HHK.out
        refine ⟨by simp, .inl ⟨_, _, rfl, run_takeDeferred hK2, ?_⟩⟩
        have k0 := (blk_own HBN.out (grownBy_putObj' _ D (.deferred none)) (fun r e => by cases e; exact ⟨_, hK2, rfl⟩)).cell 0
        have k1 := (blk_own HBE.out (grownBy_putObj' _ D (.deferred none)) (fun r e => by cases e; exact ⟨_, hK2, rfl⟩)).cell 0
        simp at k0 k1
        exact ⟨.tuple #[.int .i64 z.1.1, .bool true], by simp [results, Tryd.results13, go_sem, k0, k1], by rw [HF.out], HBW.out.trans (belowK_b (w := w) (Nat.le_refl _) _ D _ _ (by omega) hK2 rfl rfl)⟩
end
end Go.Proofs.YtaagomchjklgaaaDoor
