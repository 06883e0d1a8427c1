/- WorkPlus: what both return, in one word. -/
import Derived.Test.YtdflacnegkgljaaDoorWp2
import Derived.Test.YtdflacnegkgljaaDoorWp3
namespace Go.Proofs.YtdflacnegkgljaaDoor
open Go.RowKit

/-- What WorkPlus returns: a date and whether there is one. -/
inductive WpV (y mo d n : Int) (l : List D3) : D3 → Bool → Prop
  | bad (h : (vld y mo d && (hvB l && inB n 0 500)) = false) : WpV y mo d n l (0, 0, 0) false
  | zero (h1 : vld y mo d = true) (h2 : hvB l = true) (hn : n = 0) : WpV y mo d n l (y, mo, d) true
  | yes (h1 : vld y mo d = true) (h2 : hvB l = true) (hn1 : 1 ≤ n) (hn2 : n ≤ 500) (k : Nat) (hk : num y mo d + 1 + (k : Int) ≤ 3652058) (hN : Nth (nums l) (num y mo d + 1) n.toNat k) : WpV y mo d n l (yOf (num y mo d + 1 + k), mOf (num y mo d + 1 + k), dOf (num y mo d + 1 + k)) true
  | no (h1 : vld y mo d = true) (h2 : hvB l = true) (hn1 : 1 ≤ n) (hn2 : n ≤ 500) (M : Nat) (hM : num y mo d + 1 + (M : Int) = 3652059) (hN : cnt (nums l) (num y mo d + 1) M < n.toNat) : WpV y mo d n l (0, 0, 0) false

theorem wpv_ex (y mo d n : Int) (l : List D3) : ∃ r b, WpV y mo d n l r b := by
  cases hb : (vld y mo d && (hvB l && inB n 0 500)) with
  | false => exact ⟨_, _, .bad hb⟩
  | true =>
    simp only [Bool.and_eq_true] at hb
    obtain ⟨h1, h2, h3⟩ := hb
    have hn := inB_iff.1 h3
    rcases Int.lt_or_le n 1 with h | h
    · exact ⟨_, _, .zero h1 h2 (by omega)⟩
    · have hnd := num_bd h1
      obtain ⟨M, hM⟩ : ∃ M : Nat, num y mo d + 1 + (M : Int) = 3652059 := ⟨(3652059 - (num y mo d + 1)).toNat, by omega⟩
      rcases Nat.lt_or_ge (cnt (nums l) (num y mo d + 1) M) n.toNat with e | e
      · exact ⟨_, _, .no h1 h2 h hn.2 M hM e⟩
      · obtain ⟨k, hk, hN⟩ := nth_ex (by omega) e
        exact ⟨_, _, .yes h1 h2 h hn.2 k (by omega) hN⟩
theorem impl_wp (y mo d n : Int) (l : List D3) (len cap B : Nat) (A : Option Addr) (w : World) (hM : MD w) (hl : l.length = len) (hP : Drs B w A l) (hB : B ≤ w.heap.size) (hm : len ≤ 2305843009213693951) (r : D3) (b : Bool) (hV : WpV y mo d n l r b) :
    Calls Tryd.prog 30 #[.agg #[.int .i64 y, .int .i64 mo, .int .i64 d], .int .i64 n, .slice A len cap] w fun e w' => e = .returned (.tuple #[.agg #[.int .i64 r.1, .int .i64 r.2.1, .int .i64 r.2.2], .bool b]) ∧ Below w.heap.size w w' := by
  cases hV with
  | bad h => exact impl_wp_bad y mo d n l len cap B A w hM hl hP hB hm h
  | zero h1 h2 hn => exact impl_wp_0 y mo d n l len cap B A w hM hl hP hB hm h1 h2 hn
  | yes h1 h2 hn1 hn2 k hk hN => exact impl_wp_yes y mo d n l len cap B A w hM hl hP hB hm h1 h2 hn1 hn2 _ rfl k hk hN
  | no h1 h2 hn1 hn2 M hMM hN => exact impl_wp_no y mo d n l len cap B A w hM hl hP hB hm h1 h2 hn1 hn2 _ rfl (by rw [show (3652059 - (num y mo d + 1)).toNat = M by omega]; exact hN)
theorem spec_wp (y mo d n : Int) (l : List D3) (len cap B : Nat) (A : Option Addr) (w : World) (hl : l.length = len) (hP : Drs B w A l) (hB : B ≤ w.heap.size) (hm : len ≤ 2305843009213693951) (r : D3) (b : Bool) (hV : WpV y mo d n l r b) :
    Calls Tryd.prog 29 #[.agg #[.int .i64 y, .int .i64 mo, .int .i64 d], .int .i64 n, .slice A len cap] w fun e w' => e = .returned (.tuple #[.agg #[.int .i64 r.1, .int .i64 r.2.1, .int .i64 r.2.2], .bool b]) ∧ Below w.heap.size w w' := by
  cases hV with
  | bad h => exact spec_wp_bad y mo d n l len cap B A w hl hP hB hm h
  | zero h1 h2 hn => exact spec_wp_0 y mo d n l len cap B A w hl hP hB hm h1 h2 hn
  | yes h1 h2 hn1 hn2 k hk hN => exact spec_wp_yes y mo d n l len cap B A w hl hP hB hm h1 h2 hn1 hn2 _ rfl k hk hN
  | no h1 h2 hn1 hn2 M hMM hN => exact spec_wp_no y mo d n l len cap B A w hl hP hB hm h1 h2 hn1 hn2 _ rfl M hMM hN
end Go.Proofs.YtdflacnegkgljaaDoor
