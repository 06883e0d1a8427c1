/- Contracts of container/list, as far as a chain of ranges needs them. -/
import Derived.Test.YtakccgajnmkplaaGc
namespace Go.Proofs.Ytakccgajnmkplaa
open Go.RowKit

def ptr (b : Nat) : Value := .pointer (some ⟨b, 0, none⟩)
def itm (r : R2) : Value := .iface 36 (.agg #[.int .i64 r.1, .int .i64 r.2])

/-- All blocks but those of P are as they were. -/
structure Kp (w w' : World) (P : Nat → Prop) : Prop where
  os : w'.os = w.os
  tape : w'.tape = w.tape
  output : w'.output = w.output
  size : w.heap.size ≤ w'.heap.size
  block : ∀ k, k < w.heap.size → ¬ P k → w'.heap[k]? = w.heap[k]?
section
variable {w0 w w' : World} {P Q : Nat → Prop}
theorem Kp.refl (w : World) (P : Nat → Prop) : Kp w w P := ⟨rfl, rfl, rfl, Nat.le_refl _, fun _ _ _ => rfl⟩
theorem Kp.alloc (h : Kp w0 w P) (o : Obj) : Kp w0 (w.alloc o) P :=
  ⟨h.os, h.tape, h.output, Nat.le_trans h.size (by simp), fun k hk hn => (Below.heap_alloc w o k (Nat.lt_of_lt_of_le hk h.size)).trans (h.block k hk hn)⟩
theorem Kp.setCell (h : Kp w0 w P) {a : Addr} (ha : P a.block ∨ w0.heap.size ≤ a.block) (u : Value) : Kp w0 (w.setCell a u) P :=
  ⟨h.os, h.tape, h.output, by simpa [World.setCell] using h.size, fun k hk hn => (Below.heap_setCell w a u k (by
    rintro rfl
    rcases ha with ha | ha
    · exact hn ha
    · omega)).trans (h.block k hk hn)⟩
theorem Kp.drew (h : Kp w0 w P) : Kp w0 w.drew P := ⟨h.os, h.tape, h.output, h.size, h.block⟩
theorem Kp.trans (h : Kp w0 w P) (k : Kp w w' Q) (hq : ∀ j, j < w0.heap.size → Q j → P j) : Kp w0 w' P :=
  ⟨k.os.trans h.os, k.tape.trans h.tape, k.output.trans h.output, Nat.le_trans h.size k.size, fun j hj hn => (k.block j (Nat.lt_of_lt_of_le hj h.size) (fun e => hn (hq j hj e))).trans (h.block j hj hn)⟩
theorem Kp.below (h : Kp w w' P) {c : Nat} (hc : ∀ k, P k → c ≤ k) (hw : c ≤ w.heap.size) : Below c w w' :=
  ⟨h.os, h.tape, h.output, h.size, fun k hk => h.block k (by omega) (fun e => by have := hc k e; omega)⟩
theorem Kp.of_below {c : Nat} (h : Below c w w') (hc : ∀ k, k < w.heap.size → ¬ P k → k < c) : Kp w w' P := ⟨h.os, h.tape, h.output, h.size, fun k hk hn => h.block k (hc k hk hn)⟩
theorem Blk.kp {g : Nat} {t : TypeId} {cs : Array Value} (h : Blk w g t cs) (k : Kp w w' P) (hn : ¬ P g) : Blk w' g t cs := (k.block g h.lt hn).trans h
theorem Blk.cast {g : Nat} {t : TypeId} {cs cs' : Array Value} (h : Blk w g t cs) (e : cs = cs') : Blk w g t cs' := e ▸ h
end

/-- The chain in block c; its elements lie in the blocks G. -/
def Chain (w : World) (c : Nat) (G : Nat → Nat) (l : List R2) : Prop :=
  (l = [] ∧ Blk w c 64 #[.pointer none, .pointer none, .pointer none, .nilIface, .int .i64 0]) ∨
  (0 < l.length ∧ Blk w c 64 #[ptr (G 0), ptr (G (l.length - 1)), .pointer none, .nilIface, .int .i64 l.length] ∧ (∀ i, i < l.length → c < G i) ∧ (∀ i j, i < j → j < l.length → G i < G j) ∧
    ∀ i, i < l.length → Blk w (G i) 60 #[ptr (if i + 1 < l.length then G (i + 1) else c), ptr (if i = 0 then c else G (i - 1)), ptr c, itm (l.getD i (0, 0))])
/-- The blocks of a chain. -/
def InCh (c : Nat) (G : Nat → Nat) (n : Nat) (k : Nat) : Prop := k = c ∨ ∃ i, i < n ∧ k = G i
/-- What a push leaves. -/
def Pushed (c : Nat) (G : Nat → Nat) (l : List R2) (r : R2) (w : World) (w' : World) : Prop :=
  ∃ G' : Nat → Nat, (∀ i, i < l.length → G' i = G i) ∧ G' l.length = w.heap.size ∧ Chain w' c G' (l ++ [r]) ∧ Kp w w' (InCh c G l.length)

theorem chain_one {w : World} {c : Nat} {G : Nat → Nat} {r : R2} {e : Nat} (h1 : Blk w c 64 #[ptr e, ptr e, .pointer none, .nilIface, .int .i64 1]) (hG : G 0 = e) (hlt : c < e)
    (h2 : Blk w e 60 #[ptr c, ptr c, ptr c, itm r]) : Chain w c G [r] := by
  refine .inr ⟨by simp, by simpa [hG] using h1, ?_, ?_, ?_⟩
  · intro i hi; simp at hi; subst hi; rw [hG]; exact hlt
  · intro i j hij hj; simp at hj; omega
  · intro i hi; simp at hi; subst hi; simpa [hG] using h2

set_option maxHeartbeats 1000000 in
theorem push_nil (c : Nat) (G : Nat → Nat) (x y : Int) (w : World) (h : Blk w c 64 #[.pointer none, .pointer none, .pointer none, .nilIface, .int .i64 0]) :
    Calls Try.prog 61 #[.pointer (some ⟨c, 0, none⟩), .iface 36 (.agg #[.int .i64 x, .int .i64 y])] w fun e w' => (∃ v, e = .returned v) ∧ Pushed c G [] (x, y) w w' := by
  have c0 := h.cell 0
  have c1 := h.cell 1
  have c2 := h.cell 2
  have c3 := h.cell 3
  have c4 := h.cell 4
  have f0 := h.frozen 0
  have f1 := h.frozen 1
  have f4 := h.frozen 4
  have hl := h.lt
  have HB := hide h
  simp at c0 c1 c2 c3 c4
  clear h
  go_enter Try.func61, Try.ntmps61
  go_wp2
  go_ret
  have HK : Kp w w (InCh c G 0) := Kp.refl _ _
  have hb : ∀ (i : Nat) (u : Value) (W : World), Kp w W (InCh c G 0) → Kp w (W.setCell ⟨c, i, none⟩ u) (InCh c G 0) := fun i u W hW => hW.setCell (.inl (.inl rfl)) u
  exact ⟨⟨_, rfl⟩, fun _ => w.heap.size, by intro i hi; simp at hi, rfl,
    chain_one (e := w.heap.size) (((((((HB.out.set_ 0 _).set_ 1 _).set_ 4 _).set_ 0 _).set_ 1 _).set_ 4 _).alloc _) rfl hl (Blk.newE (by simp)), (hb _ _ _ (hb _ _ _ (hb _ _ _ (hb _ _ _ (hb _ _ _ (hb _ _ _ HK)))))).alloc _⟩

set_option maxHeartbeats 1000000 in
theorem push_more (c z0 z1 n : Nat) (x y : Int) (p0 it : Value) (w : World) (hc : c < z1) (hN : n ≤ 1000)
    (h : Blk w c 64 #[ptr z0, ptr z1, .pointer none, .nilIface, .int .i64 n])
    (hl : Blk w z1 60 #[ptr c, p0, ptr c, it]) :
    Calls Try.prog 61 #[.pointer (some ⟨c, 0, none⟩), .iface 36 (.agg #[.int .i64 x, .int .i64 y])] w fun e w' => (∃ v, e = .returned v) ∧
      w' = (((w.setCell ⟨z1, 0, none⟩ (ptr w.heap.size)).setCell ⟨c, 1, none⟩ (ptr w.heap.size)).setCell ⟨c, 4, none⟩ (.int .i64 (n + 1))).alloc (.cells #[ptr c, ptr z1, ptr c, itm (x, y)] 60) := by
  have c0 := h.cell 0
  have c1 := h.cell 1
  have c2 := h.cell 2
  have c3 := h.cell 3
  have c4 := h.cell 4
  have f0 := h.frozen 0
  have f1 := h.frozen 1
  have f4 := h.frozen 4
  have e0 := hl.cell 0
  have e1 := hl.cell 1
  have e2 := hl.cell 2
  have k0 := hl.frozen 0
  have hlc := h.lt
  have hlz := hl.lt
  have hne : ¬ c = z1 := by omega
  have hne' : ¬ z1 = c := by omega
  simp [ptr] at c0 c1 c2 c3 c4 e0 e1 e2
  clear h hl
  go_enter Try.func61, Try.ntmps61
  go_wp2
  go_ret
  exact ⟨⟨_, rfl⟩, rfl⟩

theorem push_any (c : Nat) (G : Nat → Nat) (l : List R2) (x y : Int) (w : World) (hN : l.length ≤ 1000) (h : Chain w c G l) :
    Calls Try.prog 61 #[.pointer (some ⟨c, 0, none⟩), .iface 36 (.agg #[.int .i64 x, .int .i64 y])] w fun e w' => (∃ v, e = .returned v) ∧ Pushed c G l (x, y) w w' := by
  rcases h with ⟨rfl, hB⟩ | ⟨h0, hB, hcG, hmono, hE⟩
  · exact push_nil c G x y w hB
  · have hl := hE (l.length - 1) (by omega)
    rw [if_neg (by omega)] at hl
    have hc1 := hcG (l.length - 1) (by omega)
    refine (push_more c (G 0) (G (l.length - 1)) l.length x y _ _ w hc1 hN hB hl).mono ?_
    rintro e w' ⟨hv, rfl⟩
    have hne : c ≠ G (l.length - 1) := by omega
    have hgs : ∀ i, i < l.length → G i < w.heap.size := fun i hi => (hE i hi).lt
    have ex : ∀ j, j < l.length → (l ++ [(x, y)]).getD j (0, 0) = l.getD j (0, 0) := fun j hj => by simp [List.getD, List.getElem?_append_left hj]
    have en : (l ++ [(x, y)]).getD l.length (0, 0) = (x, y) := by simp [List.getD]
    refine ⟨hv, fun i => if i = l.length then w.heap.size else G i, fun i hi => if_neg (by omega), if_pos rfl, .inr ⟨by simp, ?_, ?_, ?_, ?_⟩, ?_⟩
    · have B := ((((hB.far (p := ⟨G (l.length - 1), 0, none⟩) hne (ptr w.heap.size)).set_ 1 (ptr w.heap.size)).set_ 4 (.int .i64 (l.length + 1))).alloc (.cells #[ptr c, ptr (G (l.length - 1)), ptr c, itm (x, y)] 60))
      simpa [show ¬ (0 = l.length) by omega] using B
    · intro i hi
      dsimp only
      simp only [List.length_append, List.length_singleton] at hi
      by_cases e : i = l.length
      · rw [if_pos e]; exact hB.lt
      · rw [if_neg e]; exact hcG i (by omega)
    · intro i j hij hj
      dsimp only
      simp only [List.length_append, List.length_singleton] at hj
      rw [if_neg (show ¬ i = l.length by omega)]
      by_cases e : j = l.length
      · rw [if_pos e]; exact hgs i (by omega)
      · rw [if_neg e]; exact hmono i j hij (by omega)
    · intro i hi
      dsimp only
      simp only [List.length_append, List.length_singleton] at hi ⊢
      by_cases e : i = l.length
      · subst e
        rw [if_pos rfl, if_neg (by omega), if_neg (by omega), if_neg (show ¬ l.length - 1 = l.length by omega), en]
        exact Blk.newE (by simp)
      · have hi' : i < l.length := by omega
        rw [if_neg e, if_pos (by omega), if_neg (show ¬ i - 1 = l.length by omega), ex i hi']
        by_cases e1 : i = l.length - 1
        · have B := (((((hE i hi').set_ 0 (ptr w.heap.size)).far (p := ⟨c, 1, none⟩) (by have := hcG i hi'; show G i ≠ c; omega) (ptr w.heap.size)).far (p := ⟨c, 4, none⟩) (by have := hcG i hi'; show G i ≠ c; omega) (.int .i64 (l.length + 1))).alloc (.cells #[ptr c, ptr (G (l.length - 1)), ptr c, itm (x, y)] 60))
          rw [if_pos (show i + 1 = l.length by omega)]
          rw [e1] at B ⊢
          simpa using B
        · have hm := hmono i (l.length - 1) (by omega) (by omega)
          have B := (((((hE i hi').far (p := ⟨G (l.length - 1), 0, none⟩) (by show G i ≠ G (l.length - 1); omega) (ptr w.heap.size)).far (p := ⟨c, 1, none⟩) (by have := hcG i hi'; show G i ≠ c; omega) (ptr w.heap.size)).far (p := ⟨c, 4, none⟩) (by have := hcG i hi'; show G i ≠ c; omega) (.int .i64 (l.length + 1))).alloc (.cells #[ptr c, ptr (G (l.length - 1)), ptr c, itm (x, y)] 60))
          rw [if_pos (by omega)] at B
          rw [if_neg (show ¬ i + 1 = l.length by omega)]
          exact B
    · exact ((((Kp.refl w _).setCell (.inl (.inr ⟨l.length - 1, by omega, rfl⟩)) _).setCell (.inl (.inl rfl)) _).setCell (.inl (.inl rfl)) _).alloc _
end Go.Proofs.Ytakccgajnmkplaa
