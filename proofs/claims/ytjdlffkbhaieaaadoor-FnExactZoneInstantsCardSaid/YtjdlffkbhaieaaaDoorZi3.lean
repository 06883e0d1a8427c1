/- Contracts: the instants at which a zone shows a date and a time (the program's). -/
import Derived.Test.YtjdlffkbhaieaaaDoorZi2
import Derived.Test.YtjdlffkbhaieaaaDoorZiPl
import Derived.Test.YtjdlffkbhaieaaaDoorSh
import Derived.Test.YtjdlffkbhaieaaaDoorSt4
import Derived.Test.YtjdlffkbhaieaaaDoorZn8
import Derived.Sort.OwnSortedInts
import Derived.Lib.OwnBridge
import Derived.Lib.RowBridge
namespace Go.Proofs.YtjdlffkbhaieaaaDoor
open Go.RowKit Go.Sort

theorem insP_yes {o : Int} {l : List R2} {loc : Int} {k : Nat} (h : (offAt o l (iA o l loc k) == oA o l k) = true) : insP o l loc (k + 1) = insP o l loc k ++ [iA o l loc k] := by rw [insP_succ, if_pos h]
theorem insP_no {o : Int} {l : List R2} {loc : Int} {k : Nat} (h : (offAt o l (iA o l loc k) == oA o l k) = false) : insP o l loc (k + 1) = insP o l loc k := by rw [insP_succ, h]; simp
/-- What the library's two functions leave of a slice that the call has built. -/
theorem left_of {w w1 : World} {base g cap n nn q : Nat} {os : Array Obj} {zs : List Int} (hown : w1.ownsRow base 3 1 (.slice (some ⟨g, 0, none⟩) n cap) n (zs.map (Value.int .i64))) (hbel : Below w.heap.size w w1) (hbg : w.heap.size ≤ base) (hlen : zs.length = n) :
    (putRow (Value.int .i64) (Sort.ahead (grow (putRow (Value.int .i64) (Sort.ahead w1 nn) g 0 (zs.mergeSort fun x y => decide (x ≤ y)).toArray) os) q) g 0 (Lib.compact (zs.mergeSort fun x y => decide (x ≤ y)) ++ List.replicate (n - (Lib.compact (zs.mergeSort fun x y => decide (x ≤ y))).length) 0).toArray).ownsRow w.heap.size 3 1 (.slice (some ⟨g, 0, none⟩) (Lib.compact (zs.mergeSort fun x y => decide (x ≤ y))).length cap) (Lib.compact (zs.mergeSort fun x y => decide (x ≤ y))).length ((Lib.compact (zs.mergeSort fun x y => decide (x ≤ y))).map (Value.int .i64)) ∧
    Below w.heap.size w (putRow (Value.int .i64) (Sort.ahead (grow (putRow (Value.int .i64) (Sort.ahead w1 nn) g 0 (zs.mergeSort fun x y => decide (x ≤ y)).toArray) os) q) g 0 (Lib.compact (zs.mergeSort fun x y => decide (x ≤ y)) ++ List.replicate (n - (Lib.compact (zs.mergeSort fun x y => decide (x ≤ y))).length) 0).toArray) := by
  have hl2 : (zs.mergeSort fun x y => decide (x ≤ y)).length = zs.length := List.length_mergeSort zs
  have hle := Lib.compact_length_le (zs.mergeSort fun x y => decide (x ≤ y))
  subst hlen
  rcases hown.2 with ⟨h0, _⟩ | ⟨g', cap', cur, hv, hbase, hb, h1, h2, h3, h4⟩
  · cases h0
  cases hv
  have hs := ownsRow_sortedI (n := nn) (os := os) (ts := zs.mergeSort fun x y => decide (x ≤ y)) hl2 hbase hb h1 h2 h3
  have hc := Lib.ownsRow_putRow (q := q) (k := (Lib.compact (zs.mergeSort fun x y => decide (x ≤ y))).length) (ys := Lib.compact (zs.mergeSort fun x y => decide (x ≤ y)) ++ List.replicate (zs.length - (Lib.compact (zs.mergeSort fun x y => decide (x ≤ y))).length) 0) hs (by simp; omega) (by omega)
  rw [List.take_left] at hc
  exact ⟨own_more hc hbg, Lib.below_putRow (hbel.grown (grownBy_sortedI _) hbel.size (fun j hj => by cases hj; omega)) (by omega)⟩

/-- What stands while the program's list is made. -/
structure Lp (w0 w : World) (b n c ob m oc : Nat) (o y mo d h mi s ms : Int) (A : Option Addr) (len cap : Nat) (out offs : List Int) : Prop where
  Z : Blk w w0.heap.size 36 #[.int .i64 o, .slice A len cap]
  D : Blk w (w0.heap.size + 1) 27 #[.int .i64 y, .int .i64 mo, .int .i64 d]
  C : Blk w (w0.heap.size + 1 + 1) 29 #[.int .i64 h, .int .i64 mi, .int .i64 s, .int .i64 ms]
  R : w.ownsRow (w0.heap.size + 1 + 1 + 1) 3 1 (.slice (some ⟨b, 0, none⟩) n c) n (flatI out)
  O : w.ownsRow (w0.heap.size + 1 + 1 + 1) 3 1 (.slice (some ⟨ob, 0, none⟩) m oc) m (flatI offs)
  G : Below w0.heap.size w0 w
  h0 : b ≠ ob
section
variable {w0 w w' : World} {b n c ob m oc : Nat} {o y mo d h mi s ms : Int} {A : Option Addr} {len cap : Nat} {out offs : List Int}
theorem Lp.alloc (P : Lp w0 w b n c ob m oc o y mo d h mi s ms A len cap out offs) (x : Obj) : Lp w0 (w.alloc x) b n c ob m oc o y mo d h mi s ms A len cap out offs :=
  ⟨P.Z.alloc x, P.D.alloc x, P.C.alloc x, P.R.alloc x, P.O.alloc x, bal P.G x, P.h0⟩
theorem Lp.below (P : Lp w0 w b n c ob m oc o y mo d h mi s ms A len cap out offs) (hb : Below w.heap.size w w') : Lp w0 w' b n c ob m oc o y mo d h mi s ms A len cap out offs :=
  ⟨P.Z.below hb P.Z.lt, P.D.below hb P.D.lt, P.C.below hb P.C.lt, own_below P.R hb, own_below P.O hb, bto P.G hb, P.h0⟩
theorem Lp.far {g : Nat} (P : Lp w0 w b n c ob m oc o y mo d h mi s ms A len cap out offs) (hg : w.grownBy w' (some g)) (h1 : w0.heap.size + 1 + 1 < g) : Blk w' w0.heap.size 36 #[.int .i64 o, .slice A len cap] ∧ Blk w' (w0.heap.size + 1) 27 #[.int .i64 y, .int .i64 mo, .int .i64 d] ∧ Blk w' (w0.heap.size + 1 + 1) 29 #[.int .i64 h, .int .i64 mi, .int .i64 s, .int .i64 ms] ∧ Below w0.heap.size w0 w' :=
  ⟨P.Z.grown' hg (by omega), P.D.grown' hg (by omega), P.C.grown' hg (by omega), bonly P.G hg (by omega)⟩
theorem Lp.appO (P : Lp w0 w b n c ob m oc o y mo d h mi s ms A len cap out offs) {b' cap' : Nat} {z : Int} (ho : w'.ownsRow (w0.heap.size + 1 + 1 + 1) 3 1 (.slice (some ⟨b', 0, none⟩) (m + 1) cap') (m + 1) (flatI offs ++ [.int .i64 z])) (hg : w.grownBy w' (some ob)) (hat : some ob = some b' ∨ b' = w.heap.size) : Lp w0 w' b n c b' (m + 1) cap' o y mo d h mi s ms A len cap out (offs ++ [z]) := by
  have h1 := (P.O.lt ob rfl).1
  have h2 := (P.R.lt b rfl).2
  obtain ⟨a1, a2, a3, a4⟩ := P.far hg (by omega)
  refine ⟨a1, a2, a3, own_far P.R hg P.h0, by rw [flatI_app]; exact ho, a4, ?_⟩
  rcases hat with e | e
  · injection e with e; rw [← e]; exact P.h0
  · omega
theorem Lp.appR (P : Lp w0 w b n c ob m oc o y mo d h mi s ms A len cap out offs) {b' cap' : Nat} {z : Int} (ho : w'.ownsRow (w0.heap.size + 1 + 1 + 1) 3 1 (.slice (some ⟨b', 0, none⟩) (n + 1) cap') (n + 1) (flatI out ++ [.int .i64 z])) (hg : w.grownBy w' (some b)) (hat : some b = some b' ∨ b' = w.heap.size) : Lp w0 w' b' (n + 1) cap' ob m oc o y mo d h mi s ms A len cap (out ++ [z]) offs := by
  have h1 := (P.R.lt b rfl).1
  have h2 := (P.O.lt ob rfl).2
  obtain ⟨a1, a2, a3, a4⟩ := P.far hg (by omega)
  refine ⟨a1, a2, a3, by rw [flatI_app]; exact ho, own_far P.O hg (Ne.symm P.h0), a4, ?_⟩
  rcases hat with e | e
  · injection e with e; rw [← e]; exact P.h0
  · omega
end

set_option maxRecDepth 100000 in
set_option maxHeartbeats 4000000 in
theorem shown_any (o y mo d h mi s ms loc : Int) (l : List R2) (len cap B : Nat) (A : Option Addr) (w : World) (hM : MD w) (hl : l.length = len) (hP : Prs B w A l) (hB : B ≤ w.heap.size) (hZ : ZV o l) (hv : vld y mo d = true) (hcv : cvB h mi s ms = true) (hloc : loc = num y mo d * 86400000 + cms h mi s ms) (hc : len ≤ cap) (hm : cap ≤ 9223372036854775807) :
    Calls Tryd.prog 59 #[.agg #[.int .i64 o, .slice A len cap], .agg #[.int .i64 y, .int .i64 mo, .int .i64 d], .agg #[.int .i64 h, .int .i64 mi, .int .i64 s, .int .i64 ms]] w (MadeI (insS o l loc (l.length + 1)) w) := by
  obtain ⟨i0, hi, hz0, hz1, hz2⟩ := info_int'
  have HL := hide hl
  have HP := hide hP
  have HV := hide hP.view
  have hlen : len ≤ 6 := by have := hZ.len; omega
  have hs : len = 0 ∨ ∃ b o, A = some ⟨b, o, none⟩ := by
    rcases hP.view with h | ⟨b, o, h, _⟩
    · exact .inl (by omega)
    · exact .inr ⟨b, o, h⟩
  have Hv := hide hv
  have Hcv := hide hcv
  have Hloc := hide hloc
  have HM := hide hM
  clear hP hl hv hcv hloc hM
  have main : ∀ A' : Option Addr, A' = A → (len = 0 ∨ ∃ b o, A' = some ⟨b, o, none⟩) → Calls Tryd.prog 59 #[.agg #[.int .i64 o, .slice A' len cap], .agg #[.int .i64 y, .int .i64 mo, .int .i64 d], .agg #[.int .i64 h, .int .i64 mi, .int .i64 s, .int .i64 ms]] w (MadeI (insS o l loc (l.length + 1)) w) := by
    intro A' hA' hs
    have HA := hide hA'
    clear hA'
    obtain ⟨w3, hw3⟩ : ∃ w3, w3 = ((w.alloc (.cells #[.int .i64 o, .slice A' len cap] 36)).alloc (.cells #[.int .i64 y, .int .i64 mo, .int .i64 d] 27)).alloc (.cells #[.int .i64 h, .int .i64 mi, .int .i64 s, .int .i64 ms] 29) := ⟨_, rfl⟩
    have hsz3 : w3.heap.size = w.heap.size + 1 + 1 + 1 := by rw [hw3]; simp
    have zz : Blk w3 w.heap.size 36 #[.int .i64 o, .slice A' len cap] := by rw [hw3]; exact ((Blk.new w _ _).alloc _).alloc _
    have dd : Blk w3 (w.heap.size + 1) 27 #[.int .i64 y, .int .i64 mo, .int .i64 d] := by rw [hw3]; exact (Blk.newE (by simp)).alloc _
    have kk : Blk w3 (w.heap.size + 1 + 1) 29 #[.int .i64 h, .int .i64 mi, .int .i64 s, .int .i64 ms] := by rw [hw3]; exact Blk.newE (by simp)
    have bb : Below w.heap.size w w3 := by rw [hw3]; exact bal (bal (bal (Below.refl _ _) _) _) _
    have rr : (w3.alloc (.cells #[] 3)).ownsRow (w.heap.size + 1 + 1 + 1) 3 1 (.slice (some ⟨w.heap.size + 1 + 1 + 1, 0, none⟩) 0 0) 0 (flatI []) := by
      have := World.ownsRow_lit (base := w.heap.size + 1 + 1 + 1) (size := 1) (e := 3) w3 #[] 0 (by omega) (by simp [maxLen]) (by simp)
      rw [hsz3] at this
      simpa [flatI] using this
    have oo : ((w3.alloc (.cells #[] 3)).alloc (.cells #[.int .i64 o] 3)).ownsRow (w.heap.size + 1 + 1 + 1) 3 1 (.slice (some ⟨w.heap.size + 1 + 1 + 1 + 1, 0, none⟩) 1 1) 1 (flatI (offs o (l.take 0))) := by
      have := World.ownsRow_lit (base := w.heap.size + 1 + 1 + 1) (size := 1) (e := 3) (w3.alloc (.cells #[] 3)) #[.int .i64 o] 1 (by simp; omega) (by simp [maxLen]) (by simp)
      rw [show (w3.alloc (.cells #[] 3)).heap.size = w.heap.size + 1 + 1 + 1 + 1 by simp; omega] at this
      simpa [offs, flatI] using this
    have V0 := hide (show Lp w ((w3.alloc (.cells #[] 3)).alloc (.cells #[.int .i64 o] 3)) (w.heap.size + 1 + 1 + 1) 0 0 (w.heap.size + 1 + 1 + 1 + 1) 1 1 o y mo d h mi s ms A' len cap [] (offs o (l.take 0)) from
      ⟨(zz.alloc _).alloc _, (dd.alloc _).alloc _, (kk.alloc _).alloc _, rr.alloc _, oo, bal (bal bb _) _, by omega⟩)
    clear zz dd kk bb rr oo
    rw [hw3] at V0
    clear hsz3 hw3 w3
    go_enter Tryd.func59, Tryd.ntmps59
    go_wp2_with fail
    go_loopw [8, 21] (fun u i wr => ∃ (k ob oc : Nat), k ≤ len ∧ i = .int .i64 k ∧ u = .slice (some ⟨ob, 0, none⟩) (k + 1) oc ∧ Hid (Lp w wr (w.heap.size + 1 + 1 + 1) 0 0 ob (k + 1) oc o y mo d h mi s ms A' len cap [] (offs o (l.take k)))) (fun _ i _ => len - (intOf i).toNat)
    case atStart => exact ⟨0, w.heap.size + 1 + 1 + 1 + 1, 1, by omega, rfl, rfl, V0⟩
    case round =>
      obtain ⟨k, ob, oc, hk, rfl, rfl, hV⟩ := hrel
      have hsz := hV.out.G.size
      by_cases hlt : k < len
      · rcases hs with hs | ⟨b0, o0, rfl⟩
        · omega
        have hcs : ∀ i, i < l.length → b0 < B ∧ w.cell? ⟨b0, o0 + i * 2, none⟩ = some (.int .i64 (l.getD i (0, 0)).1) ∧ w.cell? ⟨b0, o0 + i * 2 + 1, none⟩ = some (.int .i64 (l.getD i (0, 0)).2) := by
          rcases HV.out with h | ⟨b1, o1, e1, h1, h2⟩
          · intro i hi; rw [HL.out] at h; omega
          · rw [← HA.out] at e1
            cases e1
            exact fun i hi => ⟨h1, h2 i hi⟩
        obtain ⟨x, p, hxy⟩ := pair_ex l k
        obtain ⟨hbB, c0, c1⟩ := hcs k (by rw [HL.out]; exact hlt)
        rw [hxy] at c0 c1
        have hbw : b0 < w.heap.size := by omega
        replace c0 := (hV.out.G.cell (p := ⟨b0, o0 + k * 2, none⟩) hbw).trans c0
        replace c1 := (hV.out.G.cell (p := ⟨b0, o0 + k * 2 + 1, none⟩) hbw).trans c1
        have HT := hide (offs_take (o := o) (by rw [HL.out]; exact hlt) hxy)
        have hobl := hV.out.O.lt ob rfl
        have n1 : b0 < wr.heap.size := by omega
        clear hcs hxy
        have V1 := hide ((hV.out.alloc (.cells #[.int .i64 x, .int .i64 p] 68)).alloc (.cells #[.int .i64 p] 3))
        have hO1 := V1.out.O
        have hh : w.heap.size + 1 + 1 + 1 ≤ ((wr.alloc (.cells #[.int .i64 x, .int .i64 p] 68)).alloc (.cells #[.int .i64 p] 3)).heap.size := by simp; omega
        go_wp2_with (at_builtin; refine wpList_append_lies _ rfl _ _ _ rfl (w.heap.size + 1 + 1 + 1) 3 i0 (.int .i64 0) 1 8 Tryd.underlying50 hi hz0 hz1 hz2 rfl (by omega) _ (k + 1) (flatI (offs o (l.take k))) rfl hO1 ⟨wr.heap.size + 1, 0, none⟩ 1 1 [.int .i64 p] rfl rfl (news1e _ _ _ _ (by simp)) (int_one _) (by omega) (by unfold maxLen; omega) (by omega) hh _ rfl ?_; intro b' cap' w4 hown' hgrow' hat' hlt')
        have V2 := hide (V1.out.appO hown' hgrow' hat')
        clear hown' hgrow' hat' hlt' hO1 c0 c1 V1 hV
        go_wp2
        go_roundw
        case rel =>
          refine ⟨k + 1, b', cap', by omega, by go_num, rfl, ?_⟩
          rw [HT.out]
          exact V2
        case measure => simp [intOf]; omega
      · obtain rfl : k = len := by omega
        have hV' := hV.out
        rw [List.take_of_length_le (by rw [HL.out]; omega)] at hV'
        have V3 := hide hV'
        clear hV hV'
        go_wp2_with fail
        obtain ⟨wo, hwo⟩ : ∃ wo : World, wo = wr := ⟨_, rfl⟩
        subst hwo
        go_loopw [7, 33] (fun u i wr => ∃ (j b c n : Nat), j ≤ k + 1 ∧ i = .int .i64 j ∧ u = .slice (some ⟨b, 0, none⟩) n c ∧ Hid ((insP o l loc j).length = n) ∧ n ≤ j ∧ Hid (Lp w wr b n c ob (k + 1) oc o y mo d h mi s ms A' k cap (insP o l loc j) (offs o l))) (fun _ i _ => k + 1 - (intOf i).toNat)
        case atStart => exact ⟨0, w.heap.size + 1 + 1 + 1, 0, 0, by omega, rfl, rfl, hide rfl, by omega, V3⟩
        case round =>
          obtain ⟨j, b, c, n, hj, rfl, rfl, hn, hnj, hV⟩ := hrel
          have hsz := hV.out.G.size
          by_cases hlt2 : j < k + 1
          · obtain ⟨p, hp⟩ : ∃ p, p = oA o l j := ⟨_, rfl⟩
            have co : wr.cell? ⟨ob, j, none⟩ = some (.int .i64 p) := by
              have h1 := hV.out.O.cellAt j (by omega)
              rw [flatI_get _ j (by rw [offs_len, HL.out]; omega)] at h1
              rw [hp]
              exact h1
            have hpb := hZ.off j (by rw [HL.out]; omega)
            rw [← hp] at hpb
            have hpo : offB p = true := offB_iff.2 hpb
            obtain ⟨t, ht⟩ : ∃ t, t = iA o l loc j := ⟨_, rfl⟩
            have ht' : S8.ins ⟨y, mo, d, h, mi, s, ms, p⟩ = t := by rw [ht]; unfold S8.ins S8.loc iA; rw [← hp, Hloc.out]
            have hok : S8.ok ⟨y, mo, d, h, mi, s, ms, p⟩ = true := by unfold S8.ok; rw [Hv.out, Hcv.out, hpo]; rfl
            have Ht := hide ht
            have Ht' := hide ht'
            have Hp := hide hp
            have Hok := hide hok
            have d0 := hV.out.D.cell 0
            have d1 := hV.out.D.cell 1
            have d2 := hV.out.D.cell 2
            have k0 := hV.out.C.cell 0
            have k1 := hV.out.C.cell 1
            have k2 := hV.out.C.cell 2
            have k3 := hV.out.C.cell 3
            have hkl := hV.out.C.lt
            simp at d0 d1 d2 k0 k1 k2 k3
            clear hp ht ht' hpo hok
            go_wp2_with fail
            refine (instantOf_any ⟨y, mo, d, h, mi, s, ms, p⟩ _ (HM.out.below hV.out.G) Hok.out).mono ?_
            rintro e w5 ⟨rfl, hb5⟩
            rw [Ht'.out]
            have V5 := hide (hV.out.below hb5)
            have z0 := V5.out.Z.cell 0
            have z1 := V5.out.Z.cell 1
            have hsz5 := V5.out.G.size
            have hkl5 := V5.out.C.lt
            simp at z0 z1
            clear hV hb5 d0 d1 d2 k0 k1 k2 k3 co
            go_wp2_with fail
            refine (offsetAt_any o t l _ _ B _ _ (up_of hZ) HL.out ((show Prs B w A' l by rw [HA.out]; exact HP.out).below (V5.out.G.mono hB)) (by omega) hc hm).mono ?_
            rintro e w6 ⟨rfl, hb6⟩
            have V6 := hide (V5.out.below hb6)
            have hrb := V6.out.R.lt b rfl
            have hsz6 := V6.out.G.size
            clear V5 hb6 z0 z1
            cases hq : offAt o l t == p with
            | true =>
              have HQ := hide (show (offAt o l (iA o l loc j) == oA o l j) = true by rw [← Ht.out, ← Hp.out]; exact hq)
              have V7 := hide (V6.out.alloc (.cells #[.int .i64 t] 3))
              have hR7 := V7.out.R
              have hh : w.heap.size + 1 + 1 + 1 ≤ (w6.alloc (.cells #[.int .i64 t] 3)).heap.size := by simp; omega
              go_wp2_with (at_builtin; refine wpList_append_lies _ rfl _ _ _ rfl (w.heap.size + 1 + 1 + 1) 3 i0 (.int .i64 0) 1 8 Tryd.underlying50 hi hz0 hz1 hz2 rfl (by omega) _ n (flatI (insP o l loc j)) rfl hR7 ⟨w6.heap.size, 0, none⟩ 1 1 [.int .i64 t] rfl rfl (news1e _ _ _ _ (by simp)) (int_one _) (by omega) (by unfold maxLen; omega) (by omega) hh _ rfl ?_; intro b' cap' w8 hown' hgrow' hat' hlt')
              have V8 := hide (V7.out.appR hown' hgrow' hat')
              clear hown' hgrow' hat' hlt' hR7 V7 V6
              go_wp2
              go_roundw
              case rel =>
                have hss := insP_yes HQ.out
                rw [← Ht.out] at hss
                refine ⟨j + 1, b', cap', n + 1, by omega, by go_num, rfl, hide (by rw [hss, List.length_append, hn.out]; rfl), by omega, ?_⟩
                rw [hss]
                exact V8
              case measure => simp [intOf]; omega
            | false =>
              have HQ := hide (show (offAt o l (iA o l loc j) == oA o l j) = false by rw [← Ht.out, ← Hp.out]; exact hq)
              go_wp2
              go_roundw
              case rel =>
                have hss := insP_no HQ.out
                refine ⟨j + 1, b, c, n, by omega, by go_num, rfl, hide (by rw [hss]; exact hn.out), by omega, ?_⟩
                rw [hss]
                exact V6
              case measure => simp [intOf]; omega
          · obtain rfl : j = k + 1 := by omega
            have HI := hide (ins_same hZ loc)
            rw [HL.out] at HI
            obtain ⟨zs, ezs⟩ : ∃ zs, zs = insP o l loc (k + 1) := ⟨_, rfl⟩
            rw [← ezs] at HI hn hV
            clear ezs
            have hR := hV.out.R
            obtain ⟨_, _, e0, hbg, hgl, hnc, hcm, hlz, hH⟩ := Lib.holds_of_ownsRow (show wr.ownsRow (w.heap.size + 1 + 1 + 1) 3 1 (.slice (some ⟨b, 0, none⟩) n c) n (zs.map (Value.int .i64)) from hR) (by simp)
            simp only [Value.slice.injEq, Option.some.injEq, Addr.mk.injEq, and_true, true_and] at e0
            obtain ⟨rfl, rfl⟩ := e0
            have hsort := Tryd.slices_Sort_int b 0 c zs wr hH hgl (by omega)
            rw [hlz] at hsort
            have HH := hide hH
            clear hH hR
            go_wp2_with fail
            refine hsort.mono ?_
            rintro e w9 ⟨rfl, nn, os, rfl⟩
            have hl2 : (zs.mergeSort fun x y => decide (x ≤ y)).length = n := by rw [List.length_mergeSort]; exact hlz
            have hH2 : Holds (Value.int .i64) (grow (putRow (Value.int .i64) (Sort.ahead wr nn) b 0 (zs.mergeSort fun x y => decide (x ≤ y)).toArray) os) b 0 (zs.mergeSort fun x y => decide (x ≤ y)).toArray :=
              holds_grow (Value.int .i64) _ os b 0 _ (by simpa [putRow, mapBlock, Sort.ahead] using hgl) (holds_putRow (Value.int .i64) _ b 0 _ _ (holds_ahead (Value.int .i64) wr nn b 0 _ HH.out) (by simp))
            have hcomp := Tryd.slices_Compact_int b 0 c (zs.mergeSort fun x y => decide (x ≤ y)) _ hH2 (by omega) (by omega)
            rw [hl2] at hcomp
            clear hH2 hsort
            go_wp2_with fail
            refine hcomp.mono ?_
            rintro e w10 ⟨rfl, q, rfl⟩
            have HF := hide (left_of (nn := nn) (q := q) (os := os) (show wr.ownsRow (w.heap.size + 1 + 1 + 1) 3 1 (.slice (some ⟨b, 0, none⟩) n c) n (zs.map (Value.int .i64)) from hV.out.R) hV.out.G (by omega) hlz)
            go_wp2_with fail
            go_ret
            obtain ⟨f1, f2⟩ := HF.out
            have HI2 : Lib.compact (zs.mergeSort fun x y => decide (x ≤ y)) = insS o l loc (l.length + 1) := HI.out.trans (by rw [HL.out])
            refine ⟨b, c, by rw [← HI2]; rfl, ?_, f2⟩
            rw [← HI2]
            exact f1
  exact main A rfl hs
end Go.Proofs.YtjdlffkbhaieaaaDoor
