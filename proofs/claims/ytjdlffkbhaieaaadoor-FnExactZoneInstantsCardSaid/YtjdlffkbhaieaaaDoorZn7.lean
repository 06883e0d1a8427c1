/- Contracts: the tree of turns. -/
import Derived.Test.YtjdlffkbhaieaaaDoorZn1
import Derived.Test.YtjdlffkbhaieaaaDoorQt
namespace Go.Proofs.YtjdlffkbhaieaaaDoor
open Go.RowKit

inductive Tree where
  | leaf
  | node (x y : Int) (l r : Tree)
def Tree.els : Tree → List R2
  | .leaf => []
  | .node x y l r => l.els ++ (x, y) :: r.els
/-- The offset that the program's walk finds. -/
def Tree.at : Tree → Int → Int → Int
  | .leaf, o, _ => o
  | .node x y l r, o, t => if x ≤ t then r.at y t else l.at o t
theorem Tree.at_eq : ∀ {T : Tree} {o t : Int}, Up T.els → T.at o t = offAt o T.els t := by
  intro T
  induction T with
  | leaf => intro o t _; rfl
  | node x y l r ihl ihr =>
    intro o t h
    have h' := h
    unfold Up at h'
    rw [Tree.els, List.pairwise_append, List.pairwise_cons] at h'
    rw [Tree.els, offAt_mid (x, y) r.els h]
    unfold Tree.at
    rw [ihl h'.1, ihr h'.2.1.2]
/-- How far up a pointer points. -/
def pn : Option Addr → Nat
  | none => 0
  | some a => a.block + 1
def pv : Value → Nat
  | .pointer p => pn p
  | _ => 0
/-- A tree in memory. -/
def Tr (w : World) : Option Addr → Tree → Prop
  | p, .leaf => p = none
  | p, .node x y l r => ∃ (b : Nat) (pl pr : Option Addr), p = some ⟨b, 0, none⟩ ∧ pn pl ≤ b ∧ pn pr ≤ b ∧ Blk w b 105 #[.int .i64 x, .int .i64 y, .pointer pl, .pointer pr] ∧ Tr w pl l ∧ Tr w pr r
theorem Tr.below {w w' : World} (hb : Below w.heap.size w w') : ∀ {T : Tree} {p : Option Addr}, Tr w p T → Tr w' p T := by
  intro T
  induction T with
  | leaf => intro p h; exact h
  | node x y l r ihl ihr =>
    intro p h
    obtain ⟨b, pl, pr, hp, h1, h2, hB, hl, hr⟩ := h
    exact ⟨b, pl, pr, hp, h1, h2, hB.below hb hB.lt, ihl hl, ihr hr⟩
theorem Tr.pn_le {w : World} {T : Tree} {p : Option Addr} (h : Tr w p T) : pn p ≤ w.heap.size := by
  cases T with
  | leaf =>
    have h' : p = none := h
    subst h'
    exact Nat.zero_le _
  | node x y l r =>
    obtain ⟨b, pl, pr, rfl, _, _, hB, _⟩ := h
    exact hB.lt

/-- A new tree. -/
def MadeT (l : List R2) (w : World) (e : Ending) (w' : World) : Prop :=
  ∃ (p : Option Addr) (T : Tree), e = .returned (.pointer p) ∧ Tr w' p T ∧ T.els = l ∧ Below w.heap.size w w'

theorem Prs.take {B : Nat} {w : World} {A : Option Addr} {l : List R2} (h : Prs B w A l) (k : Nat) : Prs B w A (l.take k) := fun hl => by
  rw [List.length_take] at hl
  obtain ⟨b, o, e, hb, hc⟩ := h (by omega)
  refine ⟨b, o, e, hb, fun i hi => ?_⟩
  rw [List.length_take] at hi
  have := hc i (by omega)
  rwa [show (l.take k).getD i (0, 0) = l.getD i (0, 0) by simp [List.getD, show i < k by omega]]
theorem Prs.drop {B : Nat} {w : World} {b o : Nat} {l : List R2} (h : Prs B w (some ⟨b, o, none⟩) l) (k : Nat) : Prs B w (some ⟨b, o + k * 2, none⟩) (l.drop k) := fun hl => by
  rw [List.length_drop] at hl
  obtain ⟨b', o', e, hb, hc⟩ := h (by omega)
  cases e
  refine ⟨b, o + k * 2, rfl, hb, fun i hi => ?_⟩
  rw [List.length_drop] at hi
  have := hc (k + i) (by omega)
  rw [show (l.drop k).getD i (0, 0) = l.getD (k + i) (0, 0) by simp [List.getD]]
  rw [show o + k * 2 + i * 2 = o + (k + i) * 2 by omega]
  exact this

theorem split_at {l : List R2} {k : Nat} {r : R2} (hk : k < l.length) (h : l.getD k (0, 0) = r) : l.take k ++ r :: l.drop (k + 1) = l := by
  have e : l[k] = r := by simpa [List.getD, hk] using h
  rw [← e, ← List.drop_eq_getElem_cons hk, List.take_append_drop]

set_option maxHeartbeats 4000000 in
theorem treeOf_any : ∀ (n : Nat) (l : List R2) (len cap B : Nat) (A : Option Addr) (w : World), len ≤ n → l.length = len → Prs B w A l → B ≤ w.heap.size → len ≤ cap → cap ≤ 9223372036854775807 →
    Calls Tryd.prog 80 #[.slice A len cap] w (MadeT l w) := by
  intro n
  induction n with
  | zero =>
    intro l len cap B A w hn hl hP hB hc hm
    obtain rfl : len = 0 := by omega
    obtain rfl : l = [] := by cases l; rfl; simp at hl
    clear hl hP
    go_enter Tryd.func80, Tryd.ntmps80
    go_wp2
    go_ret
    exact ⟨none, .leaf, rfl, rfl, rfl, Below.refl _ _⟩
  | succ n ih =>
    intro l len cap B A w hn hl hP hB hc hm
    by_cases h0 : len = 0
    · subst h0
      obtain rfl : l = [] := by cases l; rfl; simp at hl
      clear hl hP
      go_enter Tryd.func80, Tryd.ntmps80
      go_wp2
      go_ret
      exact ⟨none, .leaf, rfl, rfl, rfl, Below.refl _ _⟩
    obtain ⟨b, o, rfl, hbB, hcs⟩ := hP (by omega)
    obtain ⟨m, hmid⟩ : ∃ m, m = len / 2 := ⟨_, rfl⟩
    have hml : m < len := by omega
    have em : Int.tdiv (len : Int) 2 = (m : Int) := by rw [hmid]; exact (Int.ofNat_tdiv len 2).symm
    obtain ⟨x, y, hxy⟩ := pair_ex l m
    have c0 := (hcs m (by omega)).1
    have c1 := (hcs m (by omega)).2
    rw [hxy] at c0 c1
    have g0 : ((len : Int) == 0) = false := beq_eq_false_iff_ne.2 (by omega)
    have HL := hide hl
    have HM := hide hmid
    have HX := hide hxy
    have HE := hide (show l.take m ++ (x, y) :: l.drop (m + 1) = l from split_at (by omega) hxy)
    have HP := hide hP
    have IL := hide (fun (w1 : World) (h : Prs B w1 (some ⟨b, o, none⟩) l) (hB1 : B ≤ w1.heap.size) => ih (l.take m) m cap B (some ⟨b, o, none⟩) w1 (by omega) (by rw [List.length_take]; omega) (h.take m) hB1 (by omega) hm)
    have hbw : b < w.heap.size := by omega
    have q1 : (0 : Int) ≤ (m : Int) := by omega
    have q2 : (m : Int) ≤ (cap : Int) := by omega
    have q3 : (m : Int) < (len : Int) := by omega
    have q4 : IntKind.i64.wrap ((m : Int) + 1) = (m : Int) + 1 := IntWalk.i64_in _ (by omega)
    have q5 : (0 : Int) ≤ (m : Int) + 1 := by omega
    have q6 : (m : Int) + 1 ≤ (len : Int) := by omega
    have q7 : (m : Int) + 1 ≤ (cap : Int) := by omega
    have q8 : ((m : Int) + 1).toNat = m + 1 := by omega
    have q9 : (m : Int) ≤ (len : Int) := by omega
    by_cases hck : cap = m + 1
    · have IR := hide (fun (w1 : World) (hB1 : B ≤ w1.heap.size) => ih (l.drop (m + 1)) 0 0 B (some ⟨b, o, none⟩) w1 (by omega) (by rw [List.length_drop]; omega) (by rw [List.drop_eq_nil_of_le (by omega)]; exact Prs.nil) hB1 (by omega) (by omega))
      obtain rfl : len = m + 1 := by omega
      subst hck
      have em' : Int.tdiv ((m : Int) + 1) 2 = (m : Int) := em
      have q10 : (m : Int) ≤ (m : Int) + 1 := by omega
      have q11 : ¬ m + 1 = m := by omega
      have hBd : B ≤ w.drew.heap.size := hB
      have HPd : Prs B w.drew (some ⟨b, o, none⟩) l := HP.out
      clear hcs hl hmid hxy hP ih
      go_enter Tryd.func80, Tryd.ntmps80
      go_wp2_with fail
      go_region_with (first | (go_at_call 80; (with_reducible refine (IL.out _ HPd hBd).mono ?_); rintro e w1 ⟨p1, T1, rfl, t1, e1, b1⟩; have k0 := ((bcell b1).1 b _ hbw).trans c0; have k1 := ((bcell b1).1 b _ hbw).trans c1; have hs1 := b1.size) | (go_at_call 80; (with_reducible refine (IR.out _ (Nat.le_trans hBd hs1)).mono ?_); rintro e w2 ⟨p2, T2, rfl, t2, e2, b2⟩; have j0 := ((bcell b2).1 b _ (Nat.lt_of_lt_of_le hbw hs1)).trans k0; have j1 := ((bcell b2).1 b _ (Nat.lt_of_lt_of_le hbw hs1)).trans k1))
      all_goals (go_wp2_with fail; go_ret; exact ⟨some ⟨w2.heap.size, 0, none⟩, .node x y T1 T2, rfl, ⟨w2.heap.size, p1, p2, rfl, Nat.le_trans t1.pn_le b2.size, t2.pn_le, Blk.new _ _ _, (t1.below b2).below (bal (Below.refl _ _) _), t2.below (bal (Below.refl _ _) _)⟩, by rw [Tree.els, e1, e2]; exact HE.out, bal (bto (bto (bdrew (Below.refl _ _)) b1) b2) _⟩)
    · have IR := hide (fun (w1 : World) (h : Prs B w1 (some ⟨b, o, none⟩) l) (hB1 : B ≤ w1.heap.size) => ih (l.drop (m + 1)) (len - (m + 1)) (cap - (m + 1)) B (some ⟨b, o + (m + 1) * 2, none⟩) w1 (by omega) (by rw [List.length_drop]; omega) (h.drop (m + 1)) hB1 (by omega) (by omega))
      have hBd : B ≤ w.drew.heap.size := hB
      have HPd : Prs B w.drew (some ⟨b, o, none⟩) l := HP.out
      have q10 : ¬ cap = m := by omega
      clear hcs hl hmid hxy hP ih
      go_enter Tryd.func80, Tryd.ntmps80
      go_wp2_with fail
      go_region_with (first | (go_at_call 80; (with_reducible refine (IL.out _ HPd hBd).mono ?_); rintro e w1 ⟨p1, T1, rfl, t1, e1, b1⟩; have k0 := ((bcell b1).1 b _ hbw).trans c0; have k1 := ((bcell b1).1 b _ hbw).trans c1; have hs1 := b1.size) | (go_at_call 80; (with_reducible refine (IR.out _ (HPd.below (b1.mono hBd)) (Nat.le_trans hBd hs1)).mono ?_); rintro e w2 ⟨p2, T2, rfl, t2, e2, b2⟩; have j0 := ((bcell b2).1 b _ (Nat.lt_of_lt_of_le hbw hs1)).trans k0; have j1 := ((bcell b2).1 b _ (Nat.lt_of_lt_of_le hbw hs1)).trans k1))
      all_goals (go_wp2_with fail; go_ret; exact ⟨some ⟨w2.heap.size, 0, none⟩, .node x y T1 T2, rfl, ⟨w2.heap.size, p1, p2, rfl, Nat.le_trans t1.pn_le b2.size, t2.pn_le, Blk.new _ _ _, (t1.below b2).below (bal (Below.refl _ _) _), t2.below (bal (Below.refl _ _) _)⟩, by rw [Tree.els, e1, e2]; exact HE.out, bal (bto (bto (bdrew (Below.refl _ _)) b1) b2) _⟩)
end Go.Proofs.YtjdlffkbhaieaaaDoor
