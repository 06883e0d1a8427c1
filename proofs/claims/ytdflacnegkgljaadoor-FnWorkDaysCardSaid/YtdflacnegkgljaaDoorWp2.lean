/- WorkPlus: the program, its cases together. -/
import Derived.Test.YtdflacnegkgljaaDoorWp1
namespace Go.Proofs.YtdflacnegkgljaaDoor
open Go.RowKit

theorem many {H : List Int} (h : H.length ≤ 10) (a : Int) : 700 ≤ cnt H a 1000 := by
  have := cnt_few H a 1000
  omega
theorem nums_len (l : List D3) : (nums l).length = l.length := by simp [nums]
theorem impl_wp_yes (y mo d n : Int) (l : List D3) (len cap B : Nat) (A : Option Addr) (w : World) (hM : MD w) (hl : l.length = len) (hP : Drs B w A l) (hB : B ≤ w.heap.size) (hm : len ≤ 2305843009213693951) (h1 : vld y mo d = true) (h2 : hvB l = true) (hn1 : 1 ≤ n) (hn2 : n ≤ 500) (a : Int) (ha : num y mo d + 1 = a) (k : Nat) (hk : a + (k : Int) ≤ 3652058) (hN : Nth (nums l) a n.toNat k) :
    Calls Tryd.prog 30 #[.agg #[.int .i64 y, .int .i64 mo, .int .i64 d], .int .i64 n, .slice A len cap] w fun e w' => e = .returned (.tuple #[.agg #[.int .i64 (yOf (a + k)), .int .i64 (mOf (a + k)), .int .i64 (dOf (a + k))], .bool true]) ∧ Below w.heap.size w w' := by
  have hnd := num_bd h1
  have hlen : (nums l).length ≤ 10 := by rw [nums_len]; exact hvB_len h2
  have hmany := many hlen a
  by_cases hcs : a + 1000 ≤ 3652059
  · obtain ⟨k', hk', hN'⟩ := nth_ex (H := nums l) (a := a) (n := n.toNat) (m := 1000) (by omega) (by omega)
    have e := hN.uniq hN'
    subst e
    exact impl_wp_yes_a y mo d n l len cap B A w hM hl hP hB hm h1 h2 hn1 hn2 a ha hcs 1000 rfl k hk' hN
  · exact impl_wp_yes_b y mo d n l len cap B A w hM hl hP hB hm h1 h2 hn1 hn2 a ha (by omega) (3652059 - a).toNat (by omega) k (by omega) hN
theorem impl_wp_no (y mo d n : Int) (l : List D3) (len cap B : Nat) (A : Option Addr) (w : World) (hM : MD w) (hl : l.length = len) (hP : Drs B w A l) (hB : B ≤ w.heap.size) (hm : len ≤ 2305843009213693951) (h1 : vld y mo d = true) (h2 : hvB l = true) (hn1 : 1 ≤ n) (hn2 : n ≤ 500) (a : Int) (ha : num y mo d + 1 = a) (hN : cnt (nums l) a (3652059 - a).toNat < n.toNat) :
    Calls Tryd.prog 30 #[.agg #[.int .i64 y, .int .i64 mo, .int .i64 d], .int .i64 n, .slice A len cap] w fun e w' => e = .returned (.tuple #[.agg #[.int .i64 0, .int .i64 0, .int .i64 0], .bool false]) ∧ Below w.heap.size w w' := by
  have hnd := num_bd h1
  have hlen : (nums l).length ≤ 10 := by rw [nums_len]; exact hvB_len h2
  have hmany := many hlen a
  by_cases hcs : a + 1000 ≤ 3652059
  · have h := cnt_mono (nums l) a (show 1000 ≤ (3652059 - a).toNat by omega)
    omega
  · exact impl_wp_no_b y mo d n l len cap B A w hM hl hP hB hm h1 h2 hn1 hn2 a ha (by omega) (3652059 - a).toNat (by omega) hN
end Go.Proofs.YtdflacnegkgljaaDoor
