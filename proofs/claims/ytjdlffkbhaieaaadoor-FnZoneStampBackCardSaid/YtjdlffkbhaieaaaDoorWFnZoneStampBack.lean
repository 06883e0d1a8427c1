/- The law FnZoneStampBack returns true. -/
import Derived.Test.YtjdlffkbhaieaaaDoorWFnZoneStamp
import Derived.Test.YtjdlffkbhaieaaaDoorZi6
namespace Go.Proofs.YtjdlffkbhaieaaaDoor
open Go.RowKit
attribute [local go_sem] lt_cell

theorem zi_len' (o : Int) (l : List R2) (y mo d h mi s ms : Int) : (ziV o l y mo d h mi s ms).length ≤ 2 := by
  cases hz : zdc o l y mo d h mi s ms with
  | false => rw [ziV_no hz]; simp
  | true =>
    obtain ⟨h1, h2, h3⟩ := zdc_in hz
    rw [ziV_yes h1 h2 h3]
    exact (insS_two (zv_of h1) _).1
/-- An instant is found by its stamp. -/
theorem zs_back {o n : Int} {l : List R2} {x : S8} (hx : zsV o l n = (x, true)) : vld x.y x.mo x.d = true ∧ cvB x.h x.mi x.s x.ms = true ∧ n ∈ ziV o l x.y x.mo x.d x.h x.mi x.s x.ms := by
  obtain ⟨h1, h2, h3, h4, h5⟩ := zsV_in hx
  obtain ⟨v1, v2, v3⟩ := x.ok_in h3
  refine ⟨v1, v2, ?_⟩
  rw [ziV_yes h1 v1 v2, mem_insS]
  obtain ⟨i, hi⟩ := seg_ex l n
  have e := offAt_seg (zv_of h1) hi
  have e2 : iA o l (locOf x.y x.mo x.d x.h x.mi x.s x.ms) i = n := by
    rw [← h4]
    show _ - 60000 * oA o l i = x.loc - 60000 * x.o
    rw [h5, e]
    rfl
  exact ⟨i, by rw [e2]; exact hi, e2.symm⟩
/-- Whether a number is among the first k. -/
def anyB (L : List Int) (n : Int) (k : Nat) : Bool := (List.range k).any fun j => L.getD j 0 == n
theorem anyB_succ (L : List Int) (n : Int) (k : Nat) : anyB L n (k + 1) = (anyB L n k || (L.getD k 0 == n)) := by
  unfold anyB
  rw [List.range_succ, List.any_append]
  simp
theorem anyB_all {L : List Int} {n : Int} (h : n ∈ L) : anyB L n L.length = true := by
  obtain ⟨j, hj, rfl⟩ := List.getElem_of_mem h
  unfold anyB
  rw [List.any_eq_true]
  exact ⟨j, List.mem_range.2 hj, by simp [List.getD, hj]⟩

set_option maxRecDepth 100000 in
set_option maxHeartbeats 2000000 in
theorem w_FnZoneStampBack (w : World) (hM : MD w) (A : Option Addr) (len cap : Nat) (hs : Src w.heap.size w A len) (hc : len ≤ cap) (hm : cap ≤ maxLen) :
    Calls Tryd.prog 7 #[.slice A len cap] w fun e w' => e = .returned (.bool true) ∧ Below w.heap.size w w' := by
  have hm' := hm
  unfold maxLen at hm'
  by_cases hbig : 1048576 < len
  · go_enter Tryd.func7, Tryd.ntmps7
    go_wp2_with fail
    go_ret
    exact ⟨rfl, Below.refl _ _⟩
  · go_enter Tryd.func7, Tryd.ntmps7
    go_wp2_with fail
    refine (drawZS hs (Nat.le_refl _) hc hm).mono ?_
    rintro e w1 ⟨o, b, cap1, l, n, rfl, ho1, hl5, hbd, hb1⟩
    have P1 := hide (Prs.own ho1)
    have hcap := own_cap ho1
    have hcm : cap1 ≤ 9223372036854775807 := hcap.2
    have hlc : l.length ≤ cap1 := hcap.1
    clear ho1 hbd hcap hs
    have M1 := hM.below hb1
    obtain ⟨⟨⟨y, mo, d, h, mi, s, ms, oo⟩, ok⟩, hz⟩ : ∃ r, zsV o l n = r := ⟨_, rfl⟩
    have HZ := hide hz
    clear hz
    go_wp2_with fail
    refine (impl_zs o n l _ _ _ _ _ (M1.alloc _) rfl (P1.out.alloc (Nat.le_refl _) _) (by simp) hlc hcm).mono ?_
    rintro e w2 ⟨rfl, hb2⟩
    rw [HZ.out]
    simp only [S8.v]
    have Z2 := (Blk.new w1 36 #[.int .i64 o, .slice (some ⟨b, 0, none⟩) l.length cap1]).below hb2 (by simp)
    have H2 := bto (bal (Below.refl w1.heap.size w1) (.cells #[.int .i64 o, .slice (some ⟨b, 0, none⟩) l.length cap1] 36)) hb2
    have hz2 := Z2.lt
    have Z2' := hide (Z2.alloc (.cells #[.int .i64 y, .int .i64 mo, .int .i64 d, .int .i64 h, .int .i64 mi, .int .i64 s, .int .i64 ms, .int .i64 oo] 31))
    have S2 := hide (Blk.new w2 31 #[.int .i64 y, .int .i64 mo, .int .i64 d, .int .i64 h, .int .i64 mi, .int .i64 s, .int .i64 ms, .int .i64 oo])
    have H2' := bal H2 (.cells #[.int .i64 y, .int .i64 mo, .int .i64 d, .int .i64 h, .int .i64 mi, .int .i64 s, .int .i64 ms, .int .i64 oo] 31)
    have c20 := Z2'.out.cell 0
    have c21 := Z2'.out.cell 1
    simp at c20 c21
    clear Z2 hb2
    go_wp2_with fail
    refine (spec_zs o n l _ _ _ _ _ rfl (P1.out.below H2') (Nat.le_of_lt Z2'.out.lt) (by omega)).mono ?_
    rintro e w3 ⟨rfl, hb3⟩
    rw [HZ.out]
    simp only [S8.v]
    have H3 := bal (bto H2' hb3) (.cells #[.int .i64 y, .int .i64 mo, .int .i64 d, .int .i64 h, .int .i64 mi, .int .i64 s, .int .i64 ms, .int .i64 oo] 31)
    have Z3 := hide ((Z2'.out.below hb3 Z2'.out.lt).alloc (.cells #[.int .i64 y, .int .i64 mo, .int .i64 d, .int .i64 h, .int .i64 mi, .int .i64 s, .int .i64 ms, .int .i64 oo] 31))
    have S3 := hide ((S2.out.below hb3 S2.out.lt).alloc (.cells #[.int .i64 y, .int .i64 mo, .int .i64 d, .int .i64 h, .int .i64 mi, .int .i64 s, .int .i64 ms, .int .i64 oo] 31))
    have hz3 := (Z2'.out.below hb3 Z2'.out.lt).lt
    have hs3 := (S2.out.below hb3 S2.out.lt).lt
    have q0 := S3.out.cell 0
    have q1 := S3.out.cell 1
    have q2 := S3.out.cell 2
    have q3 := S3.out.cell 3
    have q4 := S3.out.cell 4
    have q5 := S3.out.cell 5
    have q6 := S3.out.cell 6
    have q7 := S3.out.cell 7
    simp at q0 q1 q2 q3 q4 q5 q6 q7
    clear Z2' S2 H2 H2' hb3 c20 c21
    cases ok with
    | false =>
      go_wp2_with fail
      go_ret
      exact ⟨rfl, bto hb1 H3⟩
    | true =>
      obtain ⟨f1, f2, f3, f4, f5⟩ := zsV_in HZ.out
      have F1 := hide f1
      have F2 := hide f2
      have F3 := hide f3
      have F4 := hide f4
      have F5 : Hid (oo = offAt o l n) := hide f5
      clear f1 f2 f3 f4 f5
      have hmem := (zs_back HZ.out).2.2
      have hl2 := zi_len' o l y mo d h mi s ms
      obtain ⟨L, eL⟩ : ∃ L, L = ziV o l y mo d h mi s ms := ⟨_, rfl⟩
      have HMem := hide (show n ∈ L by rw [eL]; exact hmem)
      have c30 := Z3.out.cell 0
      have c31 := Z3.out.cell 1
      have hz3' := Z3.out.lt
      simp at c30 c31
      clear hmem
      go_wp2_with fail
      refine (impl_zi o y mo d h mi s ms l _ _ _ _ _ (M1.below H3) rfl (P1.out.below H3) H3.size hlc hcm).mono ?_
      rintro e w4 ⟨A4, c4, rfl, i4, hn4, hc4, hb4⟩
      rw [← eL] at i4 hn4 hl2 ⊢
      have H4 := bto H3 hb4
      have I4 := hide i4
      clear eL i4 q0 q1 q2 q3 q4 q5 q6 q7 c30 c31 Z3 S3 hb4
      go_wp2_with fail
      go_loopw [10, 11] (fun u i wr => ∃ (k : Nat) (bb : Bool), k ≤ L.length ∧ i = .int .i64 k ∧ u = .bool bb ∧ Hid (bb = anyB L n k) ∧ Hid (Below w4.heap.size w4 wr)) (fun _ i _ => L.length - (intOf i).toNat)
      case atStart => exact ⟨0, false, by omega, rfl, rfl, hide rfl, hide (Below.refl _ _)⟩
      case round =>
        obtain ⟨k, bb, hk, rfl, rfl, hbb, hb⟩ := hrel
        by_cases hlt : k < L.length
        · rcases I4.out.view with h0 | ⟨g, rfl, _, hg, hcc⟩
          · omega
          obtain ⟨x, ex⟩ : ∃ x, x = L.getD k 0 := ⟨_, rfl⟩
          have c0 := (hb.out.cell (p := ⟨g, k, none⟩) hg).trans (hcc k hlt)
          have hss := hide (anyB_succ L n k)
          rw [← ex] at c0 hss
          rw [← hbb.out] at hss
          clear hcc ex
          cases bb with
          | true =>
            have HN := hide (show true = anyB L n (k + 1) by rw [hss.out]; rfl)
            clear hss hbb
            go_wp2
            go_roundw
            case rel => exact ⟨k + 1, true, by omega, by go_num, rfl, HN, hb⟩
            case measure => simp [intOf]; omega
          | false =>
            cases hq : x == n with
            | true =>
              have HN := hide (show true = anyB L n (k + 1) by rw [hss.out, hq]; rfl)
              clear hss hbb
              go_wp2
              go_roundw
              case rel => exact ⟨k + 1, true, by omega, by go_num, rfl, HN, hb⟩
              case measure => simp [intOf]; omega
            | false =>
              have HN := hide (show false = anyB L n (k + 1) by rw [hss.out, hq]; rfl)
              clear hss hbb
              go_wp2
              go_roundw
              case rel => exact ⟨k + 1, false, by omega, by go_num, rfl, HN, hb⟩
              case measure => simp [intOf]; omega
        · obtain rfl : k = L.length := by omega
          have hbt : bb = true := hbb.out.trans (anyB_all HMem.out)
          subst hbt
          go_wp2
          go_ret
          exact ⟨rfl, bto hb1 (bto H4 hb.out)⟩
end Go.Proofs.YtjdlffkbhaieaaaDoor
