/- Slices of dates: three cells an element. -/
import Derived.Test.YtdflacnegkgljaaDoorQt
import Derived.Test.YtdflacnegkgljaaDoorCal
import Derived.Deep.AppendLies
namespace Go.Proofs.YtdflacnegkgljaaDoor
open Go.RowKit

/-- A date as three numbers. -/
abbrev D3 := Int × Int × Int
/-- The cells of a list of dates. -/
def flatD (l : List D3) : List Value := l.flatMap fun r => [Value.int .i64 r.1, Value.int .i64 r.2.1, Value.int .i64 r.2.2]
theorem flatD_len (l : List D3) : (flatD l).length = l.length * 3 := by
  induction l with
  | nil => rfl
  | cons r t ih =>
    show (_ :: _ :: _ :: flatD t).length = _
    simp [ih]; omega
theorem flatD_app (a b : List D3) : flatD (a ++ b) = flatD a ++ flatD b := by simp [flatD]
theorem flatD_one (r : D3) : flatD [r] = [Value.int .i64 r.1, Value.int .i64 r.2.1, Value.int .i64 r.2.2] := by simp [flatD]
theorem flatD_get (l : List D3) : ∀ (i : Nat), i < l.length → (flatD l)[i * 3]? = some (.int .i64 (l.getD i (0, 0, 0)).1) ∧ (flatD l)[i * 3 + 1]? = some (.int .i64 (l.getD i (0, 0, 0)).2.1) ∧ (flatD l)[i * 3 + 2]? = some (.int .i64 (l.getD i (0, 0, 0)).2.2) := by
  induction l with
  | nil => intro i hi; simp at hi
  | cons r t ih =>
    intro i hi
    have e : flatD (r :: t) = Value.int .i64 r.1 :: Value.int .i64 r.2.1 :: Value.int .i64 r.2.2 :: flatD t := rfl
    rw [e]
    cases i with
    | zero => exact ⟨rfl, rfl, rfl⟩
    | succ i =>
      have := ih i (by simpa using hi)
      rw [show (i + 1) * 3 = i * 3 + 1 + 1 + 1 by omega]
      simpa using this
theorem flatD_set (l : List D3) : ∀ (k : Nat) (r : D3), k < l.length → (((flatD l).set (k * 3) (.int .i64 r.1)).set (k * 3 + 1) (.int .i64 r.2.1)).set (k * 3 + 2) (.int .i64 r.2.2) = flatD (l.set k r) := by
  induction l with
  | nil => intro k r hk; simp at hk
  | cons s t ih =>
    intro k r hk
    have e : flatD (s :: t) = Value.int .i64 s.1 :: Value.int .i64 s.2.1 :: Value.int .i64 s.2.2 :: flatD t := rfl
    cases k with
    | zero => rfl
    | succ k =>
      have := ih k r (by simpa using hk)
      rw [e, show (k + 1) * 3 = k * 3 + 1 + 1 + 1 by omega, show (s :: t).set (k + 1) r = s :: t.set k r from rfl]
      show _ :: _ :: _ :: (((flatD t).set (k * 3) _).set (k * 3 + 1) _).set (k * 3 + 2) _ = _ :: _ :: _ :: flatD (t.set k r)
      rw [this]
/-- A date, read off a list. -/
theorem date_ex (l : List D3) (k : Nat) : ∃ x y z : Int, l.getD k (0, 0, 0) = (x, y, z) := ⟨_, _, _, rfl⟩
theorem set_step3 {l : List D3} {n k : Nat} {r z : D3} (h : k < l.length) (e : l.getD k (0, 0, 0) = r) (hn : k < n) : (l.take k ++ List.replicate (n - k) z).set k r = l.take (k + 1) ++ List.replicate (n - (k + 1)) z := by
  have ex : l[k] = r := by simpa [List.getD, h] using e
  have hm : (l.take k).length = k := by simp; omega
  rw [List.take_succ_eq_append_getElem h, ex, show n - k = (n - (k + 1)) + 1 by omega, List.replicate_succ, List.set_append, if_neg (by omega), hm, Nat.sub_self, List.append_assoc]
  rfl

/-- What the cells of a slice of dates hold. -/
def DCells (w : World) (b o : Nat) (l : List D3) : Prop :=
  ∀ i, i < l.length → w.cell? ⟨b, o + i * 3, none⟩ = some (.int .i64 (l.getD i (0, 0, 0)).1) ∧ w.cell? ⟨b, o + i * 3 + 1, none⟩ = some (.int .i64 (l.getD i (0, 0, 0)).2.1) ∧ w.cell? ⟨b, o + i * 3 + 2, none⟩ = some (.int .i64 (l.getD i (0, 0, 0)).2.2)
/-- A slice of dates that can be read, below block B. -/
def Drs (B : Nat) (w : World) (A : Option Addr) (l : List D3) : Prop :=
  0 < l.length → ∃ b o : Nat, A = some ⟨b, o, none⟩ ∧ b < B ∧ DCells w b o l
section
variable {B B' : Nat} {w w' : World} {A : Option Addr} {l : List D3}
theorem Drs.keep (h : Drs B w A l) (hk : ∀ p : Addr, p.block < B → w'.cell? p = w.cell? p) : Drs B w' A l := fun hl => by
  obtain ⟨b, o, e, hb, hc⟩ := h hl
  exact ⟨b, o, e, hb, fun i hi => ⟨(hk _ hb).trans (hc i hi).1, (hk _ hb).trans (hc i hi).2.1, (hk _ hb).trans (hc i hi).2.2⟩⟩
theorem Drs.below (h : Drs B w A l) (hb : Below B w w') : Drs B w' A l := h.keep fun _ hp => World.cell?_of_block (hb.block _ hp)
theorem Drs.below' {C : Nat} (h : Drs B w A l) (hb : Below C w w') (hC : B ≤ C) : Drs B w' A l := h.keep fun _ hp => World.cell?_of_block (hb.block _ (by omega))
theorem Drs.alloc (h : Drs B w A l) (hB : B ≤ w.heap.size) (o : Obj) : Drs B (w.alloc o) A l := h.keep fun p hp => World.cell?_alloc_lt w o p (Nat.lt_of_lt_of_le hp hB)
theorem Drs.more (h : Drs B w A l) (hB : B ≤ B') : Drs B' w A l := fun hl => by
  obtain ⟨b, o, e, hb, hc⟩ := h hl
  exact ⟨b, o, e, by omega, hc⟩
theorem Drs.nil : Drs B w A [] := fun h => absurd h (by simp)
theorem Drs.own {base : Nat} {E : TypeId} {len cap : Nat} (h : w.ownsRow base E 3 (.slice A len cap) len (flatD l)) : Drs w.heap.size w A l := fun hl => by
  have hlen : l.length = len := by have := h.1; rw [flatD_len] at this; omega
  obtain ⟨g, cap', e, hb, hlt⟩ := h.form (by omega)
  cases e
  refine ⟨g, 0, rfl, hlt, fun i hi => ?_⟩
  have h1 := h.cellAt (i * 3) (by omega)
  have h2 := h.cellAt (i * 3 + 1) (by omega)
  have h3 := h.cellAt (i * 3 + 2) (by omega)
  have hg := flatD_get l i hi
  rw [Nat.zero_add]
  exact ⟨h1.trans hg.1, h2.trans hg.2.1, h3.trans hg.2.2⟩
theorem Drs.view (h : Drs B w A l) : l.length = 0 ∨ ∃ b o, A = some ⟨b, o, none⟩ ∧ b < B ∧ DCells w b o l := by
  by_cases h0 : l.length = 0
  · exact .inl h0
  · exact .inr (h (by omega))
theorem DCells.at {b o : Nat} (h : DCells w b o l) {C : Nat} (hb : Below C w w') (hC : b < C) {k : Nat} (hk : k < l.length) {x y z : Int} (e : l.getD k (0, 0, 0) = (x, y, z)) :
    w'.cell? ⟨b, o + k * 3, none⟩ = some (.int .i64 x) ∧ w'.cell? ⟨b, o + k * 3 + 1, none⟩ = some (.int .i64 y) ∧ w'.cell? ⟨b, o + k * 3 + 2, none⟩ = some (.int .i64 z) := by
  have := h k hk
  rw [e] at this
  exact ⟨(hb.cell (p := ⟨b, o + k * 3, none⟩) hC).trans this.1, (hb.cell (p := ⟨b, o + k * 3 + 1, none⟩) hC).trans this.2.1, (hb.cell (p := ⟨b, o + k * 3 + 2, none⟩) hC).trans this.2.2⟩
end
/-- A new slice of dates. -/
def MadeD (E : TypeId) (l : List D3) (w : World) (e : Ending) (w' : World) : Prop :=
  ∃ g cap : Nat, e = .returned (.slice (some ⟨g, 0, none⟩) l.length cap) ∧ w'.ownsRow w.heap.size E 3 (.slice (some ⟨g, 0, none⟩) l.length cap) l.length (flatD l) ∧ Below w.heap.size w w'
theorem own_belowD {B : Nat} {e : TypeId} {k : Nat} {v : Value} {n : Nat} {xs : List Value} {w w' : World} (h : w.ownsRow B e k v n xs) (hb : Below w.heap.size w w') : w'.ownsRow B e k v n xs :=
  ⟨h.1, h.2.imp id fun ⟨g, cap, cur, a, b, c, d⟩ => ⟨g, cap, cur, a, b, (hb.block g (Array.getElem?_eq_some_iff.1 c).1).trans c, d⟩⟩
theorem made_dates (n : Nat) : (madeCells #[Value.int .i64 0, Value.int .i64 0, Value.int .i64 0] (n * 3)).toList = flatD (List.replicate n (0, 0, 0)) := by
  refine List.ext_getElem? fun j => ?_
  have e : (madeCells #[Value.int .i64 0, Value.int .i64 0, Value.int .i64 0] (n * 3)).toList[j]? = if j < n * 3 then some (.int .i64 0) else none := by
    unfold madeCells
    by_cases h : j < n * 3
    · rw [if_pos h]
      rcases (show j % 3 = 0 ∨ j % 3 = 1 ∨ j % 3 = 2 by omega) with h' | h' | h' <;> simp [h, h']
    · rw [if_neg h]
      simp [h]
  rw [e]
  by_cases h : j < n * 3
  · rw [if_pos h]
    have hg := flatD_get (List.replicate n (0, 0, 0)) (j / 3) (by simp; omega)
    rw [show (List.replicate n ((0 : Int), (0 : Int), (0 : Int))).getD (j / 3) (0, 0, 0) = (0, 0, 0) by simp [List.getD, List.getElem?_replicate]; split <;> rfl] at hg
    rcases (show j = j / 3 * 3 ∨ j = j / 3 * 3 + 1 ∨ j = j / 3 * 3 + 2 by omega) with h' | h' | h' <;> rw [h']
    · exact hg.1.symm
    · exact hg.2.1.symm
    · exact hg.2.2.symm
  · rw [if_neg h, List.getElem?_eq_none (by rw [flatD_len]; simp; omega)]
end Go.Proofs.YtdflacnegkgljaaDoor
