/- The reader of a code: l6Open, pick. -/
import Derived.Test.YtinemkjoohgmjaaDoorBase
namespace Go.Proofs.YtinemkjoohgmjaaDoor
open Go.RowKit

def PickPost (n : Int) (b : Nat) (p : Int) (w : World) (e : Ending) (w' : World) : Prop :=
  ∃ v : Int, 0 ≤ v ∧ v < n ∧ e = .returned (.int .i64 v) ∧ ∃ k, w' = (w.setCell ⟨b, 1, none⟩ (.int .i64 (p + 1))).drewN k

theorem ofInt_i64 (a : Nat) (ha : a < 9223372036854775808) : (BitVec.ofInt 64 (a : Int)).toNat = a := by
  rw [BitVec.ofInt_natCast, BitVec.toNat_ofNat]; exact Nat.mod_eq_of_lt (by omega)
theorem i64_xor_nat (a b : Nat) (ha : a < 9223372036854775808) (hb : b < 9223372036854775808) : bits .xor .i64 (a : Int) (b : Int) = ((a ^^^ b : Nat) : Int) := by
  have hx : a ^^^ b < 2 ^ 63 := Nat.xor_lt_two_pow (by omega) (by omega)
  show IntKind.i64.wrap ((BitVec.ofInt 64 (a : Int) ^^^ BitVec.ofInt 64 (b : Int)).toNat : Int) = _
  rw [BitVec.toNat_xor, ofInt_i64 a ha, ofInt_i64 b hb, IntKind.wrap_i64]
  omega
theorem xor_nonneg (a b : Int) (ha : 0 ≤ a) (hb : 0 ≤ b) (ha2 : a < 9223372036854775808) (hb2 : b < 9223372036854775808) : 0 ≤ bits .xor .i64 a b := by
  obtain ⟨x, rfl⟩ := Int.eq_ofNat_of_zero_le ha
  obtain ⟨y, rfl⟩ := Int.eq_ofNat_of_zero_le hb
  rw [i64_xor_nat x y (by omega) (by omega)]
  omega

theorem pick_empty (n : Int) (b : Nat) (A : Option Addr) (cap : Nat) (p : Int) (w : World) 
  (h0 : w.cell? ⟨b, 0, none⟩ = some (.slice A 0 cap)) (h1 : w.cell? ⟨b, 1, none⟩ = some (.int .i64 p)) (h2 : w.frozen? ⟨b, 1, none⟩ = false)
  (hp : 0 ≤ p) (hp2 : p ≤ 1000000) (hn : 1 ≤ n) :
    Calls Tryd.prog 38 #[.pointer (some ⟨b, 0, none⟩), .int .i64 n] w (PickPost n b p w) := by
  go_enter Tryd.func38, Tryd.ntmps38
  go_wp2
  go_ret
  exact ⟨0, by omega, by omega, rfl, 0, rfl⟩
theorem pick_in (n : Int) (b ab o len cap p z : Nat) (w : World) 
  (h0 : w.cell? ⟨b, 0, none⟩ = some (.slice (some ⟨ab, o, none⟩) len cap)) (h1 : w.cell? ⟨b, 1, none⟩ = some (.int .i64 p)) (h2 : w.frozen? ⟨b, 1, none⟩ = false)
  (hne : ab ≠ b) (hz : w.cell? ⟨ab, o + p, none⟩ = some (.int .u8 z)) (hz2 : z < 256)
  (hp2 : p < len) (hp3 : len ≤ 2000) (hn : 1 ≤ n) :
    Calls Tryd.prog 38 #[.pointer (some ⟨b, 0, none⟩), .int .i64 n] w (PickPost n b p w) := by
  have hg1 : decide (n < 1) = false := by simp; omega
  have hg2 : ((len : Int) == 0) = false := by simp; omega
  go_enter Tryd.func38, Tryd.ntmps38
  go_wp2
  go_ret
  exact ⟨(z : Int) % n, Int.emod_nonneg _ (by omega), Int.emod_lt_of_pos _ (by omega), rfl, 0, rfl⟩
theorem pick_out (n : Int) (b ab o len cap p z z2 : Nat) (w : World) 
  (h0 : w.cell? ⟨b, 0, none⟩ = some (.slice (some ⟨ab, o, none⟩) len cap)) (h1 : w.cell? ⟨b, 1, none⟩ = some (.int .i64 p)) (h2 : w.frozen? ⟨b, 1, none⟩ = false)
  (hne : ab ≠ b) (hz : w.cell? ⟨ab, o + p % len, none⟩ = some (.int .u8 z)) (hz2 : z < 256) (hz' : w.cell? ⟨ab, o + (p * 7 + 3) % len, none⟩ = some (.int .u8 z2)) (hz2' : z2 < 256)
  (hp2 : len ≤ p) (hl : 0 < len) (hp3 : p ≤ 1000000) (hn : 1 ≤ n) :
    Calls Tryd.prog 38 #[.pointer (some ⟨b, 0, none⟩), .int .i64 n] w (PickPost n b p w) := by
  have hg1 : decide (n < 1) = false := by simp; omega
  have hg2 : ((len : Int) == 0) = false := by simp; omega
  go_enter Tryd.func38, Tryd.ntmps38
  have hr1 : (0 : Int) ≤ (p : Int) % (len : Int) := Int.emod_nonneg _ (by omega)
  have hr2 : (p : Int) % (len : Int) < (len : Int) := Int.emod_lt_of_pos _ (by omega)
  have hr3 : (0 : Int) ≤ ((p : Int) * 7 + 3) % (len : Int) := Int.emod_nonneg _ (by omega)
  have hr4 : ((p : Int) * 7 + 3) % (len : Int) < (len : Int) := Int.emod_lt_of_pos _ (by omega)
  have hr5 : (0 : Int) ≤ (p : Int) / (len : Int) := Int.ediv_nonneg (by omega) (by omega)
  have hr6 : (p : Int) / (len : Int) ≤ 1000000 := Int.le_trans (Int.ediv_le_self _ (by omega)) (by omega)
  go_wp2
  go_quiet (fail)
  have hx1 : 0 ≤ (z : Int) * 131 + (z2 : Int) * 1117 + (p : Int) * 29 + (p : Int) / (len : Int) * 53 := by omega
  have hx2 : (z : Int) * 131 + (z2 : Int) * 1117 + (p : Int) * 29 + (p : Int) / (len : Int) * 53 ≤ 1000000000 := by omega
  generalize (z : Int) * 131 + (z2 : Int) * 1117 + (p : Int) * 29 + (p : Int) / (len : Int) * 53 = X at *
  have hx3 : 0 ≤ bits .xor .i64 X (X / 64) := xor_nonneg X (X / 64) hx1 (by omega) (by omega) (by omega)
  go_wp2
  go_ret
  exact ⟨_, Int.emod_nonneg _ (by omega), Int.emod_lt_of_pos _ (by omega), rfl, _, rfl⟩
/-- A slice of bytes that can be read, below block B. -/
def Src (B : Nat) (w : World) (A : Option Addr) (len : Nat) : Prop :=
  0 < len → ∃ ab o : Nat, A = some ⟨ab, o, none⟩ ∧ ab < B ∧ ∀ i, i < len → ∃ z : Nat, z < 256 ∧ w.cell? ⟨ab, o + i, none⟩ = some (.int .u8 z)
/-- The reader lies in block g, its code below block B; it has gone at most m steps. -/
def Rd (B : Nat) (w : World) (g : Nat) (m : Nat) : Prop :=
  B ≤ g ∧ ∃ (A : Option Addr) (len cap p : Nat), w.heap[g]? = some (.cells #[.slice A len cap, .int .i64 p] 85 (0, 0)) ∧ p ≤ m ∧ len ≤ 2000 ∧ Src B w A len

section
variable {B g m len : Nat} {w w' : World} {A : Option Addr}
theorem Src.keep (h : Src B w A len) (hk : ∀ p : Addr, p.block < B → w'.cell? p = w.cell? p) : Src B w' A len := fun hl => by
  obtain ⟨ab, o, e, hb, hc⟩ := h hl
  exact ⟨ab, o, e, hb, fun i hi => by obtain ⟨z, hz, hcz⟩ := hc i hi; exact ⟨z, hz, (hk _ hb).trans hcz⟩⟩
theorem Rd.lt (h : Rd B w g m) : g < w.heap.size := by
  obtain ⟨_, _, _, _, _, hh, _⟩ := h
  exact (Array.getElem?_eq_some_iff.1 hh).1
theorem Rd.le (h : Rd B w g m) : B ≤ g := h.1
theorem Rd.more {m' : Nat} (h : Rd B w g m) (hm : m ≤ m') : Rd B w g m' := by
  obtain ⟨hb, A, len, cap, p, hh, hp, hr⟩ := h
  exact ⟨hb, A, len, cap, p, hh, by omega, hr⟩
theorem Rd.keep (h : Rd B w g m) (hk : ∀ k, k < g → w'.heap[k]? = w.heap[k]?) (hg : w'.heap[g]? = w.heap[g]?) : Rd B w' g m := by
  obtain ⟨hb, A, len, cap, p, hh, hp, hl, hs⟩ := h
  exact ⟨hb, A, len, cap, p, hg.trans hh, hp, hl, hs.keep fun q hq => World.cell?_of_block (hk q.block (by omega))⟩
theorem Rd.alloc (h : Rd B w g m) (o : Obj) : Rd B (w.alloc o) g m :=
  h.keep (fun _ hk => Below.heap_alloc _ _ _ (Nat.lt_trans hk h.lt)) (Below.heap_alloc _ _ _ h.lt)
theorem Rd.drew (h : Rd B w g m) : Rd B w.drew g m := h
theorem Rd.drewN (h : Rd B w g m) (n : Nat) : Rd B (w.drewN n) g m := h
theorem Rd.setCell (h : Rd B w g m) {a : Addr} (ha : g < a.block) (u : Value) : Rd B (w.setCell a u) g m :=
  h.keep (fun _ hk => Below.heap_setCell _ _ _ _ (by omega)) (Below.heap_setCell _ _ _ _ (by omega))
theorem Rd.below (h : Rd B w g m) {C : Nat} (hb : Below C w w') (hC : g < C) : Rd B w' g m :=
  h.keep (fun _ hk => hb.block _ (by omega)) (hb.block g hC)
theorem Rd.grown (h : Rd B w g m) {row : Option Nat} (hb : w.grownBy w' row) (hr : ∀ k, row = some k → g < k) : Rd B w' g m :=
  h.keep (fun k hk => hb.block k (by have := h.lt; omega) (fun e => by have := hr k e.symm; omega)) (hb.block g h.lt (fun e => by have := hr g e.symm; omega))
end

/-- What a pick leaves. -/
def Picked (B : Nat) (n : Int) (g m : Nat) (w : World) (e : Ending) (w' : World) : Prop :=
  ∃ v : Int, 0 ≤ v ∧ v < n ∧ e = .returned (.int .i64 v) ∧ Rd B w' g (m + 1) ∧ w.grownBy w' (some g)

theorem picked_of {B g m len cap p : Nat} {n : Int} {w : World} {A : Option Addr} {e : Ending} {w' : World} (hb : B ≤ g) (hh : w.heap[g]? = some (.cells #[.slice A len cap, .int .i64 p] 85 (0, 0))) (hp : p ≤ m) (hl : len ≤ 2000) (hs : Src B w A len)
    (h : PickPost n g p w e w') : Picked B n g m w e w' := by
  obtain ⟨v, h0, h1, he, k, rfl⟩ := h
  refine ⟨v, h0, h1, he, ⟨hb, A, len, cap, p + 1, ?_, by omega, hl, ?_⟩, ?_⟩
  · show (w.setCell _ _).heap[g]? = _
    simp [World.setCell, Array.getElem?_modify, hh]
  · refine hs.keep fun q hq => ?_
    show (w.setCell _ _).cell? q = _
    exact World.cell?_of_block (Below.heap_setCell _ _ _ _ (show q.block ≠ g by omega))
  · exact ⟨rfl, rfl, rfl, by simp [World.setCell], fun i _ hi => Below.heap_setCell _ _ _ _ (show i ≠ g from fun e => hi (by rw [e]))⟩

theorem pick_any {B g m : Nat} {n : Int} {w : World} (h : Rd B w g m) (hm : m ≤ 1000000) (hn : 1 ≤ n) :
    Calls Tryd.prog 38 #[.pointer (some ⟨g, 0, none⟩), .int .i64 n] w (Picked B n g m w) := by
  obtain ⟨hb, A, len, cap, p, hh, hp, hl, hs⟩ := h
  have h0 : w.cell? ⟨g, 0, none⟩ = some (.slice A len cap) := by simp [World.cell?, hh]
  have h1 : w.cell? ⟨g, 1, none⟩ = some (.int .i64 p) := by simp [World.cell?, hh]
  have h2 : w.frozen? ⟨g, 1, none⟩ = false := by simp [World.frozen?, hh]
  have fin : ∀ e w', PickPost n g p w e w' → Picked B n g m w e w' := fun e w' => picked_of hb hh hp hl hs
  by_cases hl0 : len = 0
  · subst hl0
    exact (pick_empty n g A cap p w h0 h1 h2 (by omega) (by omega) hn).mono fin
  obtain ⟨ab, o, rfl, hab, hc⟩ := hs (by omega)
  by_cases hpl : p < len
  · obtain ⟨z, hz, hcz⟩ := hc p hpl
    exact (pick_in n g ab o len cap p z w h0 h1 h2 (by omega) hcz hz hpl hl hn).mono fin
  · obtain ⟨z, hz, hcz⟩ := hc (p % len) (Nat.mod_lt _ (by omega))
    obtain ⟨z2, hz2, hcz2⟩ := hc ((p * 7 + 3) % len) (Nat.mod_lt _ (by omega))
    exact (pick_out n g ab o len cap p z z2 w h0 h1 h2 (by omega) hcz hz hcz2 hz2 (by omega) (by omega) (by omega) hn).mono fin

/-- What opening a code leaves. -/
def Opened (B : Nat) (w : World) (e : Ending) (w' : World) : Prop :=
  ∃ g : Nat, e = .returned (.pointer (some ⟨g, 0, none⟩)) ∧ w.heap.size ≤ g ∧ Rd B w' g 0 ∧ Below w.heap.size w w'

theorem l6Open_any {B len cap : Nat} {A : Option Addr} {w : World} (hs : Src B w A len) (hB : B ≤ w.heap.size) (hc : len ≤ cap) (hm : cap ≤ maxLen) :
    Calls Tryd.prog 18 #[.slice A len cap] w (Opened B w) := by
  unfold maxLen at hm
  by_cases h : 2000 < len
  · have hl : ((len : Int)) ≤ 9223372036854775807 := by omega
    obtain ⟨ab, o, rfl, hab, hcc⟩ := hs (by omega)
    go_enter Tryd.func18, Tryd.ntmps18
    go_wp2
    go_ret
    exact ⟨w.heap.size, rfl, Nat.le_refl _, ⟨hB, _, 2000, cap, 0, heap_alloc_new w _, by omega, by omega, (fun hl => by
      obtain ⟨ab', o', e', hab', hcc'⟩ := hs (by omega)
      exact ⟨ab', o', e', hab', fun i hi => by
        obtain ⟨z, hz, hcz⟩ := hcc' i (by omega)
        exact ⟨z, hz, (World.cell?_alloc_lt w _ ⟨ab', o' + i, none⟩ (by show ab' < _; omega)).trans hcz⟩⟩)⟩, (Below.refl _ _).alloc (Nat.le_refl _) _⟩
  · have hl : ((len : Int)) ≤ 2000 := by omega
    go_enter Tryd.func18, Tryd.ntmps18
    go_wp2
    go_ret
    exact ⟨w.heap.size, rfl, Nat.le_refl _, ⟨hB, _, len, cap, 0, heap_alloc_new w _, by omega, by omega, hs.keep fun p hp => World.cell?_alloc_lt w _ p (by omega)⟩, (Below.refl _ _).alloc (Nat.le_refl _) _⟩
end Go.Proofs.YtinemkjoohgmjaaDoor
