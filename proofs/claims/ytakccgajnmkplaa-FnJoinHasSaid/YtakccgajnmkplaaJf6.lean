/- The program's RangesJoin. -/
import Derived.Test.YtakccgajnmkplaaJf5
import Derived.Test.YtakccgajnmkplaaJn
namespace Go.Proofs.Ytakccgajnmkplaa
open Go.RowKit

theorem any_bad (l : List R2) : l.any badB = !l.all rB := by
  rw [Bool.eq_iff_iff]
  simp [badB]
/-- What the program's RangesJoin hands back. -/
def JoinR (l : List R2) (w : World) (e : Ending) (w' : World) : Prop :=
  (joinOk l = false ∧ e = .returned (.tuple #[.slice none 0 0, .bool false]) ∧ Below w.heap.size w w') ∨ (joinOk l = true ∧ MadeJ 36 (joinS l) true w e w')
theorem foldl_len (s : List R2) : ∀ c : List R2, (s.foldl addC c).length ≤ c.length + s.length := by
  induction s with
  | nil => intro c; simp
  | cons r t ih =>
    intro c
    have h1 := ih (addC c r)
    have h2 := addC_len c r
    simp only [List.foldl_cons, List.length_cons]
    omega
set_option maxRecDepth 100000 in
set_option maxHeartbeats 4000000 in
theorem impl_join (l : List R2) (len cap B : Nat) (A : Option Addr) (w : World) (hl : l.length = len) (hP : Prs B w A l) (hB : B ≤ w.heap.size) (hm : len ≤ 2305843009213693951) :
    Calls Try.prog 37 #[.slice A len cap] w (JoinR l w) := by
  by_cases h8 : 8 < len
  · have hj : joinOk l = false := joinOk_long (by omega)
    have HJ := hide hj
    clear hj hl hP
    go_enter Try.func37, Try.ntmps37
    go_wp2_with fail
    go_returns
    exact .inl ⟨HJ.out, rfl, Below.refl _ _⟩
  · have h8' : len ≤ 8 := by omega
    have hc := contBad l len cap B A w hl hP hB hm
    rw [any_bad] at hc
    have HL := hide hl
    have HP := hide hP
    have hjo : joinOk l = l.all rB := by unfold joinOk; rw [decide_eq_true (by omega)]; rfl
    have HJO := hide hjo
    clear hl hP hjo
    go_enter Try.func37, Try.ntmps37
    go_wp2_with fail
    refine hc.mono ?_
    rintro e w1 ⟨rfl, hb1⟩
    have HB1 := hide hb1
    have P1 := hide (HP.out.keep fun p hp => hb1.cell (p := p) (by omega))
    have hs1 := hb1.size
    clear hc hb1
    cases ha : l.all rB with
    | false =>
      have HJ := hide (show joinOk l = false by rw [HJO.out, ha])
      clear ha
      go_wp2_with fail
      go_returns
      exact .inl ⟨HJ.out, rfl, HB1.out⟩
    | true =>
      have HJ := hide (show joinOk l = true by rw [HJO.out, ha])
      clear ha
      go_wp2_with fail
      refine (values_any _ A len cap _ rfl).mono ?_
      rintro e w2 ⟨rfl, hcb, hlt2, hb2⟩
      have P2 := P1.out.keep fun p hp => hb2.cell (p := p) (by omega)
      have hsf := sortedFunc_any l len cap w1.heap.size B A w2 HL.out P2 (by omega) (by omega) hcb
      have HB2 := hide (bto HB1.out hb2)
      clear hcb hb2 P2 P1
      go_wp2_with fail
      refine hsf.mono ?_
      rintro e w3 ⟨⟨A', cap', s, rfl, hso, hsl, hPs⟩, hb3⟩
      have HB3 := hide (bto HB2.out hb3)
      have HS := hide hPs
      have HSL := hide hsl
      have C0 := Blk.new w3 64 #[.pointer none, .pointer none, .pointer none, .nilIface, .int .i64 0]
      have hV := hide hPs.view'
      clear hsf hb3 hPs hsl
      rw [HL.out]
      go_wp2_with fail
      have HC0 := hide (Ch.nil C0)
      have HB4 := hide (bal HB3.out (.cells #[.pointer none, .pointer none, .pointer none, .nilIface, .int .i64 0] 64))
      have HLEN := hide (show ∀ k, ((s.take k).foldl addC []).length ≤ 1000 from fun k => by
        have h1 := foldl_len (s.take k) []
        have h2 : (s.take k).length ≤ s.length := by rw [List.length_take]; omega
        have h3 := HSL.out
        have h4 := HL.out
        simp only [List.length_nil] at h1
        omega)
      have HJS := hide (show s.foldl addC [] = joinS l from join_same (joinOk_in HJ.out).2 hso.out.1 hso.out.2)
      have hB34 := hide ((Below.refl w3.heap.size w3).alloc (Nat.le_refl _) (.cells #[.pointer none, .pointer none, .pointer none, .nilIface, .int .i64 0] 64))
      clear C0 HS
      go_loopw [20] (fun i wr => ∃ k : Nat, k ≤ len ∧ i = .int .i64 k ∧ Hid (Ch wr w3.heap.size ((s.take k).foldl addC [])) ∧ Hid (Below w3.heap.size w3 wr)) (fun i _ => len - (intOf i).toNat)
      case atStart => exact ⟨0, by omega, rfl, hide (by simpa using HC0.out), hB34⟩
      case round =>
        obtain ⟨k, hk, rfl, HC, HB⟩ := hrel
        by_cases hlt : k < len
        · obtain ⟨x, y, hxy⟩ := pair_ex s k
          rcases hV.out with h0 | ⟨b0, o0, rfl, hb0, hcs⟩
          · have h3 := HSL.out
            have h4 := HL.out
            omega
          · obtain ⟨c0, c1⟩ := hcs k (by have h3 := HSL.out; have h4 := HL.out; omega)
            rw [hxy] at c0 c1
            have d0 := (HB.out.cell (p := ⟨b0, o0 + k * 2, none⟩) (by show b0 < _; omega)).trans c0
            have d1 := (HB.out.cell (p := ⟨b0, o0 + k * 2 + 1, none⟩) (by show b0 < _; omega)).trans c1
            have HT := hide (take_snoc (l := s) (k := k) (by have h3 := HSL.out; have h4 := HL.out; omega) hxy)
            have hsz := HB.out.size
            have HC1 := hide (HC.out.below (bal (Below.refl wr.heap.size wr) (.cells #[.int .i64 x, .int .i64 y] 36)))
            have HB1' := hide (HB.out.alloc hsz (.cells #[.int .i64 x, .int .i64 y] 36))
            clear hcs c0 c1 hxy
            go_wp2_with fail
            refine (add_any w3.heap.size _ x y _ (HLEN.out k) HC1.out).mono ?_
            rintro e w5 ⟨⟨v, rfl⟩, hch, hbb, _⟩
            have HC5 := hide (show Ch w5 w3.heap.size ((s.take (k + 1)).foldl addC []) by rw [HT.out, List.foldl_append]; exact hch)
            have HB5 := hide (HB1'.out.trans hbb)
            clear hch hbb HC1 HB1'
            go_wp2_with fail
            go_roundw
            case rel => exact ⟨k + 1, by omega, by go_num, HC5, HB5⟩
            case measure => simp [intOf]; omega
        · obtain rfl : k = len := by omega
          have HC2 := hide (show Ch wr w3.heap.size (joinS l) by
            have h1 := HC.out
            rw [List.take_of_length_le (by have h3 := HSL.out; have h4 := HL.out; omega), HJS.out] at h1
            exact h1)
          have hN : (joinS l).length ≤ 1000 := by
            have h1 := HLEN.out s.length
            rw [List.take_length, HJS.out] at h1
            exact h1
          have HB6 := hide (HB3.out.trans (HB.out.mono HB3.out.size))
          go_wp2_with fail
          refine (all_any w3.heap.size (joinS l) _ hN HC2.out).mono ?_
          rintro e w6 ⟨g, cap2, rfl, ho, hb6⟩
          have HO := hide (own_more ho HB6.out.size)
          have HB7 := hide (bto HB6.out hb6)
          clear ho hb6
          go_wp2_with fail
          go_returns
          exact .inr ⟨HJ.out, g, cap2, rfl, HO.out, HB7.out⟩
end Go.Proofs.Ytakccgajnmkplaa
