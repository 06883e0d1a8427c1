/- Contracts: what a chain of ranges is read by; a range is added. -/
import Derived.Test.YtakccgajnmkplaaCh
import Derived.Test.YtakccgajnmkplaaPut
import Derived.LaidEqlPtr
namespace Go.Proofs.Ytakccgajnmkplaa
open Go.RowKit

/-- A chain, its elements somewhere behind it. -/
def Ch (w : World) (c : Nat) (l : List R2) : Prop := ∃ G, Chain w c G l
theorem Ch.nil {w : World} {c : Nat} (h : Blk w c 64 #[.pointer none, .pointer none, .pointer none, .nilIface, .int .i64 0]) : Ch w c [] := ⟨fun _ => 0, .inl ⟨rfl, h⟩⟩
theorem Chain.below {w w' : World} {c : Nat} {G : Nat → Nat} {l : List R2} (h : Chain w c G l) (hb : Below w.heap.size w w') : Chain w' c G l := by
  rcases h with ⟨rfl, hB⟩ | ⟨h0, hB, hcG, hmono, hE⟩
  · exact .inl ⟨rfl, hB.below hb hB.lt⟩
  · exact .inr ⟨h0, hB.below hb hB.lt, hcG, hmono, fun i hi => (hE i hi).below hb (hE i hi).lt⟩
theorem Ch.below {w w' : World} {c : Nat} {l : List R2} (h : Ch w c l) (hb : Below w.heap.size w w') : Ch w' c l := by
  obtain ⟨G, h⟩ := h
  exact ⟨G, h.below hb⟩
theorem Ch.lt {w : World} {c : Nat} {l : List R2} (h : Ch w c l) : c < w.heap.size := by
  obtain ⟨G, ⟨_, hB⟩ | ⟨_, hB, _⟩⟩ := h
  · exact hB.lt
  · exact hB.lt

theorem back_nil (c : Nat) (w : World) (h : Blk w c 64 #[.pointer none, .pointer none, .pointer none, .nilIface, .int .i64 0]) :
    Calls Try.prog 60 #[.pointer (some ⟨c, 0, none⟩)] w fun e w' => e = .returned (.pointer none) ∧ w = w' := by
  have c4 := h.cell 4
  simp at c4
  clear h
  go_enter Try.func60, Try.ntmps60
  go_wp2
  go_ret
  exact ⟨rfl, rfl⟩
theorem back_more (c z0 z1 n : Nat) (w : World) (hn : 0 < n) (hN : n ≤ 1000) (h : Blk w c 64 #[ptr z0, ptr z1, .pointer none, .nilIface, .int .i64 n]) :
    Calls Try.prog 60 #[.pointer (some ⟨c, 0, none⟩)] w fun e w' => e = .returned (ptr z1) ∧ w = w' := by
  have c4 := h.cell 4
  have c1 := h.cell 1
  have g : ((n : Int) == 0) = false := beq_eq_false_iff_ne.2 (by omega)
  simp [ptr] at c1 c4
  clear h
  go_enter Try.func60, Try.ntmps60
  go_wp2
  go_ret
  exact ⟨rfl, rfl⟩
theorem front_nil (c : Nat) (w : World) (h : Blk w c 64 #[.pointer none, .pointer none, .pointer none, .nilIface, .int .i64 0]) :
    Calls Try.prog 63 #[.pointer (some ⟨c, 0, none⟩)] w fun e w' => e = .returned (.pointer none) ∧ w = w' := by
  have c4 := h.cell 4
  simp at c4
  clear h
  go_enter Try.func63, Try.ntmps63
  go_wp2
  go_ret
  exact ⟨rfl, rfl⟩
theorem front_more (c z0 z1 n : Nat) (w : World) (hn : 0 < n) (hN : n ≤ 1000) (h : Blk w c 64 #[ptr z0, ptr z1, .pointer none, .nilIface, .int .i64 n]) :
    Calls Try.prog 63 #[.pointer (some ⟨c, 0, none⟩)] w fun e w' => e = .returned (ptr z0) ∧ w = w' := by
  have c4 := h.cell 4
  have c0 := h.cell 0
  have g : ((n : Int) == 0) = false := beq_eq_false_iff_ne.2 (by omega)
  simp [ptr] at c0 c4
  clear h
  go_enter Try.func63, Try.ntmps63
  go_wp2
  go_ret
  exact ⟨rfl, rfl⟩
theorem len_any (c : Nat) (n : Int) (w : World) (h : w.cell? ⟨c, 4, none⟩ = some (.int .i64 n)) :
    Calls Try.prog 62 #[.pointer (some ⟨c, 0, none⟩)] w fun e w' => e = .returned (.int .i64 n) ∧ w = w' := by
  go_enter Try.func62, Try.ntmps62
  go_wp2
  go_ret
  exact ⟨rfl, rfl⟩
theorem neq_same {P : Program} {w : World} {tp te : TypeId} {j : TypeInfo} (a : Addr) (hp : P.underlying tp = some (.pointer te)) (hte : P.info? te = some j) :
    (binOp .neq tp (.pointer (some a)) (.pointer (some a))).run P w = .ok (.bool false) w := by
  have h : ∀ d : Nat, (Op.equalIn (d + 1) tp (.pointer (some a)) (.pointer (some a))).run P w = .ok true w := fun d => by
    simp [Op.equalIn, run_underlying hp, sizeOf, typeInfo, hte, run_sameAddr_same]
  simp only [binOp]
  simp [Op.equal, Op.maxDepth, h 9999]
theorem neq_other {P : Program} {w : World} {tp te : TypeId} {j : TypeInfo} {x c : Nat} {ca cb : Array Value} {ta tb : TypeId} (hp : P.underlying tp = some (.pointer te)) (hte : P.info? te = some j) (hsz : j.size ≠ 0)
    (hne : ¬ x = c) (ha : Blk w x ta ca) (hb : Blk w c tb cb) :
    (binOp .neq tp (.pointer (some ⟨x, 0, none⟩)) (.pointer (some ⟨c, 0, none⟩))).run P w = .ok (.bool true) w := by
  have h : ∀ d : Nat, (Op.equalIn (d + 1) tp (.pointer (some ⟨x, 0, none⟩)) (.pointer (some ⟨c, 0, none⟩))).run P w = .ok false w := fun d => by
    simp [Op.equalIn, run_underlying hp, sizeOf, typeInfo, hte, hsz, run_sameAddr_other w (a := ⟨x, 0, none⟩) (b := ⟨c, 0, none⟩) (fun e => hne (by cases e; rfl)) ha hb]
  simp only [binOp]
  simp [Op.equal, Op.maxDepth, h 9999]
theorem el_size : (Try.prog.info? 60).map (·.size) = some 4 := by kernel_rfl
theorem el_info : ∃ j, Try.prog.info? 60 = some j ∧ j.size ≠ 0 := by
  obtain ⟨j, h1, h2⟩ := Option.map_eq_some_iff.1 el_size
  exact ⟨j, h1, by rw [h2]; decide⟩
set_option maxRecDepth 100000 in
theorem next_last (c z : Nat) (p it : Value) (w : World) (h : Blk w z 60 #[ptr c, p, ptr c, it]) :
    Calls Try.prog 64 #[.pointer (some ⟨z, 0, none⟩)] w fun e w' => e = .returned (.pointer none) ∧ w = w' := by
  have c0 := h.cell 0
  have c2 := h.cell 2
  obtain ⟨j, hj, _⟩ := el_info
  have hq := neq_same (w := w) ⟨c, 0, none⟩ Try.underlying57 hj
  simp [ptr] at c0 c2
  clear h
  go_enter Try.func64, Try.ntmps64
  go_wp2
  go_ret
  exact ⟨rfl, rfl⟩
set_option maxRecDepth 100000 in
theorem next_more (c z x : Nat) (p it : Value) (w : World) (hne : ¬ x = c) {ca cb : Array Value} {ta tb : TypeId} (hx : Blk w x ta ca) (hc : Blk w c tb cb) (h : Blk w z 60 #[ptr x, p, ptr c, it]) :
    Calls Try.prog 64 #[.pointer (some ⟨z, 0, none⟩)] w fun e w' => e = .returned (ptr x) ∧ w = w' := by
  have c0 := h.cell 0
  have c2 := h.cell 2
  obtain ⟨j, hj, hs⟩ := el_info
  have hq := neq_other Try.underlying57 hj hs hne hx hc
  simp [ptr] at c0 c2
  clear h hx hc
  go_enter Try.func64, Try.ntmps64
  go_wp2
  go_ret
  exact ⟨rfl, rfl⟩

theorem take_snoc {l : List R2} {k : Nat} {r : R2} (hk : k < l.length) (e : l.getD k (0, 0) = r) : l.take (k + 1) = l.take k ++ [r] := by
  have ex : l[k] = r := by simpa [List.getD, hk] using e
  rw [List.take_succ_eq_append_getElem hk, ex]
/-- What an addition leaves. -/
def Added (c : Nat) (l : List R2) (w : World) (e : Ending) (w' : World) : Prop := (∃ v, e = .returned v) ∧ Ch w' c l ∧ Below c w w' ∧ ∀ (g : Nat) (cs : Array Value), Blk w g 36 cs → Blk w' g 36 cs
theorem notin {w : World} {c : Nat} {G : Nat → Nat} {l : List R2} (h : Chain w c G l) {g : Nat} {cs : Array Value} (hg : Blk w g 36 cs) : ¬ InCh c G l.length g := by
  rintro (rfl | ⟨i, hi, rfl⟩)
  · rcases h with ⟨_, hB⟩ | ⟨_, hB, _⟩
    · have e := hg.symm.trans hB
      simp at e
    · have e := hg.symm.trans hB
      simp at e
  · rcases h with ⟨rfl, _⟩ | ⟨_, _, _, _, hE⟩
    · simp at hi
    · have e := hg.symm.trans (hE i hi)
      simp at e
theorem inch_le {w : World} {c : Nat} {G : Nat → Nat} {l : List R2} (h : Chain w c G l) : ∀ k, InCh c G l.length k → c ≤ k := by
  rintro k (rfl | ⟨i, hi, rfl⟩)
  · exact Nat.le_refl _
  · rcases h with ⟨rfl, _⟩ | ⟨_, _, hcG, _⟩
    · simp at hi
    · exact Nat.le_of_lt (hcG i hi)

theorem keep2c {w w' : World} {g : Nat} {u v : Value} (hg : g < w.heap.size) (h0 : w.cell? ⟨g, 0, none⟩ = some u) (h1 : w.cell? ⟨g, 1, none⟩ = some v) (hb : Below w.heap.size w w') : w'.cell? ⟨g, 0, none⟩ = some u ∧ w'.cell? ⟨g, 1, none⟩ = some v :=
  ⟨(hb.cell (p := ⟨g, 0, none⟩) hg).trans h0, (hb.cell (p := ⟨g, 1, none⟩) hg).trans h1⟩
theorem keepK {w w' : World} {g : Nat} {u v : Value} {P : Nat → Prop} (hk : Kp w w' P) (hn : ¬ P g) (hg : g < w.heap.size) (h0 : w.cell? ⟨g, 0, none⟩ = some u) (h1 : w.cell? ⟨g, 1, none⟩ = some v) : w'.cell? ⟨g, 0, none⟩ = some u ∧ w'.cell? ⟨g, 1, none⟩ = some v :=
  ⟨(World.cell?_of_block (hk.block g hg hn)).trans h0, (World.cell?_of_block (hk.block g hg hn)).trans h1⟩
theorem inch_lt {w : World} {c : Nat} {G : Nat → Nat} {l : List R2} (h : Chain w c G l) : ∀ k, InCh c G l.length k → k < w.heap.size := by
  have hcl : c < w.heap.size := Ch.lt ⟨G, h⟩
  rintro k (rfl | ⟨i, hi, rfl⟩)
  · exact hcl
  · rcases h with ⟨rfl, _⟩ | ⟨_, _, _, _, hE⟩
    · simp at hi
    · exact (hE i hi).lt
theorem chain_touch {w w' : World} {c : Nat} {G : Nat → Nat} {d : List R2} {r s : R2} (h : Chain w c G (d ++ [r])) (hw : ∃ o1 o2, w' = ((w.setCell ⟨G d.length, 3, none⟩ (itm s)).alloc o1).alloc o2) : Chain w' c G (d ++ [s]) ∧ Below c w w' := by
  obtain ⟨o1, o2, rfl⟩ := hw
  have hcl : c < w.heap.size := Ch.lt ⟨G, h⟩
  rcases h with ⟨e, _⟩ | ⟨h0, hB, hcG, hmono, hE⟩
  · simp at e
  · have hlen : (d ++ [r]).length = d.length + 1 := by simp
    have hlen' : (d ++ [s]).length = d.length + 1 := by simp
    rw [hlen] at h0 hB hcG hmono hE
    have hc := hcG d.length (by omega)
    refine ⟨.inr ⟨by simp, ?_, ?_, ?_, ?_⟩, ?_⟩
    · rw [hlen']
      exact ((hB.far (p := ⟨G d.length, 3, none⟩) (by show c ≠ G d.length; omega) _).alloc o1).alloc o2
    · rw [hlen']; exact hcG
    · rw [hlen']; exact hmono
    · rw [hlen']
      intro i hi
      rcases (show i < d.length ∨ i = d.length by omega) with hlt | rfl
      · have hm := hmono i d.length hlt (by omega)
        have B2 := (((hE i hi).far (p := ⟨G d.length, 3, none⟩) (by show G i ≠ G d.length; omega) (itm s)).alloc o1).alloc o2
        have e : (d ++ [s]).getD i (0, 0) = (d ++ [r]).getD i (0, 0) := by simp [List.getD, List.getElem?_append_left hlt]
        rw [e]
        exact B2
      · have B2 := (((hE d.length (by omega)).set_ 3 (itm s)).alloc o1).alloc o2
        have e : (d ++ [s]).getD d.length (0, 0) = s := by simp [List.getD]
        rw [e]
        simpa using B2
    · exact (((Below.refl c w).setCell (by show c ≤ G d.length; omega) _).alloc (by simp; omega) o1).alloc (by simp; omega) o2

theorem asr (v : Value) (w : World) : (Instr.typeAssert (.iface 36 v) 20 36 false).run Try.prog w = .ok v w := by kernel_rfl

set_option maxRecDepth 100000 in
set_option maxHeartbeats 1000000 in
theorem add_any (c : Nat) (l : List R2) (x y : Int) (w : World) (hN : l.length ≤ 1000) (h : Ch w c l) :
    Calls Try.prog 48 #[.pointer (some ⟨c, 0, none⟩), .agg #[.int .i64 x, .int .i64 y]] w (Added c (addC l (x, y)) w) := by
  obtain ⟨G, h⟩ := h
  have hcl : c < w.heap.size := Ch.lt ⟨G, h⟩
  have HC := hide h
  have X0 : Blk (w.alloc (.cells #[.int .i64 x, .int .i64 y] 36)) w.heap.size 36 #[.int .i64 x, .int .i64 y] := Blk.new _ _ _
  have hXl := X0.lt
  have hx0 := X0.cell 0
  have hx1 := X0.cell 1
  simp only [List.getElem?_toArray, List.getElem?_cons_zero, List.getElem?_cons_succ] at hx0 hx1
  have HX := hide (⟨hx0, hx1, hXl⟩ : _ ∧ _ ∧ _)
  rcases snoc_cases l with rfl | ⟨d, ⟨p, q⟩, rfl⟩
  · rcases h with ⟨_, hB⟩ | ⟨h0, _⟩
    · have HB := hide hB
      clear hB X0 hx0 hx1 hXl
      go_enter Try.func48, Try.ntmps48
      go_wp2_with fail
      refine (back_nil c _ (HB.out.alloc _)).mono ?_
      rintro e w1 ⟨rfl, rfl⟩
      go_wp2_with fail
      go_region_held3 (fun w' => w'.cell? ⟨w.heap.size, 0, none⟩ = some (.int .i64 x) ∧ w'.cell? ⟨w.heap.size, 1, none⟩ = some (.int .i64 y)) (first | assumption | (refine keep2c HX.out.2.2 HX.out.1 HX.out.2.1 ?_; first | assumption | exact (by repeat' (first | (with_reducible exact Below.refl _ _) | (with_reducible assumption) | (with_reducible refine bal ?_ _) | (with_reducible refine bdrewN ?_ _) | (with_reducible refine bdrew ?_) | (with_reducible refine bset ?_ ?_ _) | (with_reducible refine brow ?_ ?_ _) | omega | (simp; done) | (simp; omega))))) (first | (go_at_call 61; refine (push_any c G [] x y _ (by simp) (HC.out.below (by repeat' (first | (with_reducible exact Below.refl _ _) | (with_reducible assumption) | (with_reducible refine bal ?_ _) | (with_reducible refine bdrewN ?_ _) | (with_reducible refine bdrew ?_) | (with_reducible refine bset ?_ ?_ _) | (with_reducible refine brow ?_ ?_ _) | omega | (simp; done) | (simp; omega))))).mono ?_; rintro e w2 ⟨⟨v, rfl⟩, G', _, _, hch, hk⟩; have hq := keepK hk (fun e => by have := inch_lt HC.out _ e; omega) HX.out.2.2 HX.out.1 HX.out.2.1))
      all_goals
        refine bodyPost_ret (by simp [results, Try.results48, go_sem, ]; try rfl) rfl ?_
        exact ⟨⟨_, rfl⟩, ⟨G', hch⟩, (show Below c w (w.alloc (.cells #[.int .i64 x, .int .i64 y] 36)).drew from ⟨rfl, rfl, rfl, by simp, fun k hk => Below.heap_alloc w _ k (by omega)⟩).trans (hk.below (inch_le HC.out) (by simp; omega)), fun g cs hg => ((hg.alloc _).drew).kp hk (notin HC.out hg)⟩
    · simp at h0
  · rcases h with ⟨h0, _⟩ | ⟨h0, hB, hcG, hmono, hE⟩
    · simp at h0
    · have hlen : (d ++ [(p, q)]).length = d.length + 1 := by simp
      have hE' := hE d.length (by omega)
      have eg : (d ++ [(p, q)]).getD d.length (0, 0) = (p, q) := by simp [List.getD]
      rw [eg] at hE'
      rw [hlen] at hB h0 hN
      have HB := hide hB
      have HE := hide hE'
      have HCG := hide (hcG d.length (by omega))
      have hgl := hE'.lt
      have v3 := (hE'.alloc (.cells #[.int .i64 x, .int .i64 y] 36)).cell 3
      have vf := (hE'.alloc (.cells #[.int .i64 x, .int .i64 y] 36)).frozen 3
      have vl := (hE'.alloc (.cells #[.int .i64 x, .int .i64 y] 36)).lt
      have X1 : Blk ((w.alloc (.cells #[.int .i64 x, .int .i64 y] 36)).alloc (.cells #[.int .i64 p, .int .i64 q] 36)) w.heap.size 36 #[.int .i64 x, .int .i64 y] := X0.alloc _
      have HX1 := hide X1
      simp [itm] at v3
      clear hB hE' hE hcG hmono X0 X1 hx0 hx1 hXl hlen eg
      by_cases hxq : x ≤ q
      · have HM := hide (show (if q < y then y else q) = max q y by split <;> omega)
        have HA := hide (show addC (d ++ [(p, q)]) (x, y) = d ++ [(p, max q y)] by rw [addC_snoc, if_pos (show (x, y).1 ≤ (p, q).2 from hxq)])
        go_enter Try.func48, Try.ntmps48
        go_wp2_with fail
        refine (back_more c _ _ _ _ h0 hN (HB.out.alloc _)).mono ?_
        rintro e w1 ⟨rfl, rfl⟩
        unfold ptr
        rw [Nat.add_sub_cancel]
        have ha := asr
        go_wp2_with fail
        all_goals
          refine bodyPost_ret (by simp [results, Try.results48, go_sem, ]; try rfl) rfl ?_
          have hm := HM.out
          have ht := fun s => chain_touch (s := s) HC.out ⟨.cells #[.int .i64 x, .int .i64 y] 36, .cells #[.int .i64 p, .int .i64 q] 36, rfl⟩
          refine ⟨⟨_, rfl⟩, ?_⟩
          rw [HA.out, ← hm]
          first | rw [if_pos (by omega)] | rw [if_neg (by omega)]
          exact ⟨⟨G, (ht (p, _)).1⟩, (ht (p, _)).2, fun g cs hg => ((hg.far (p := ⟨G d.length, 3, none⟩) (fun e => notin HC.out hg (.inr ⟨d.length, by simp, e⟩)) _).alloc _).alloc _⟩
      · have HA := hide (show addC (d ++ [(p, q)]) (x, y) = d ++ [(p, q)] ++ [(x, y)] by rw [addC_snoc, if_neg (show ¬ (x, y).1 ≤ (p, q).2 from hxq)])
        go_enter Try.func48, Try.ntmps48
        go_wp2_with fail
        refine (back_more c _ _ _ _ h0 hN (HB.out.alloc _)).mono ?_
        rintro e w1 ⟨rfl, rfl⟩
        unfold ptr
        rw [Nat.add_sub_cancel]
        have ha := asr
        go_wp2_with fail
        go_region_held3 (fun w' => w'.cell? ⟨w.heap.size, 0, none⟩ = some (.int .i64 x) ∧ w'.cell? ⟨w.heap.size, 1, none⟩ = some (.int .i64 y)) (first | assumption | exact ⟨(HX1.out.drew).cell 0, (HX1.out.drew).cell 1⟩) (first | (go_at_call 61; refine (push_any c G (d ++ [(p, q)]) x y _ (by rw [List.length_append]; exact hN) (HC.out.below (by repeat' (first | (with_reducible exact Below.refl _ _) | (with_reducible assumption) | (with_reducible refine bal ?_ _) | (with_reducible refine bdrewN ?_ _) | (with_reducible refine bdrew ?_) | (with_reducible refine bset ?_ ?_ _) | (with_reducible refine brow ?_ ?_ _) | omega | (simp; done) | (simp; omega))))).mono ?_; rintro e w2 ⟨⟨v, rfl⟩, G', _, _, hch, hk⟩; have hq := keepK hk (fun e => by have := inch_lt HC.out _ e; omega) HX1.out.lt (HX1.out.cell 0) (HX1.out.cell 1)))
        all_goals
          refine bodyPost_ret (by simp [results, Try.results48, go_sem, ]; try rfl) rfl ?_
          refine ⟨⟨_, rfl⟩, ?_⟩
          rw [HA.out]
          exact ⟨⟨G', hch⟩, (show Below c w ((w.alloc (.cells #[.int .i64 x, .int .i64 y] 36)).alloc (.cells #[.int .i64 p, .int .i64 q] 36)).drew from ⟨rfl, rfl, rfl, by simp; omega, fun k hk => ((bal (bal (Below.refl w.heap.size w) _) _).block k (by omega))⟩).trans (hk.below (inch_le HC.out) (by simp; omega)), fun g cs hg => (((hg.alloc _).alloc _).drew).kp hk (notin HC.out hg)⟩

set_option maxRecDepth 100000 in
set_option maxHeartbeats 1000000 in
theorem all_any (c : Nat) (l : List R2) (w : World) (hN : l.length ≤ 1000) (h : Ch w c l) :
    Calls Try.prog 49 #[.pointer (some ⟨c, 0, none⟩)] w (Made 36 l w) := by
  obtain ⟨i0, hi, hz0, hz1, hz2⟩ := info_parts info_impl
  obtain ⟨G, h⟩ := h
  have hcl : c < w.heap.size := Ch.lt ⟨G, h⟩
  have ha := asr
  rcases h with ⟨rfl, hB⟩ | ⟨h0, hB, hcG, hmono, hE⟩
  · have c4 := hB.cell 4
    have HB := hide hB
    simp at c4
    clear hB
    go_enter Try.func49, Try.ntmps49
    go_wp2_with fail
    refine (len_any c 0 _ (by assumption)).mono ?_
    rintro e w1 ⟨rfl, rfl⟩
    go_wp2_with (at_make; refine wpList_make_own _ rfl _ _ 25 rfl w.heap.size 36 i0 (.agg #[.int .i64 0, .int .i64 0]) 2 Try.underlying25 hi hz0 hz1 .i64 .i64 0 0 rfl rfl rfl (by rw [hz2]; omega) (by unfold maxLen; omega) (Nat.le_refl _) ?_; intro w1 hown1 hgrow1)
    have hb1 : Below w.heap.size w w1 := (Below.refl _ _).grown hgrow1 (Nat.le_refl _) (by intro k hk; cases hk)
    refine (front_nil c _ (HB.out.below hb1 hcl)).mono ?_
    rintro e w2 ⟨rfl, rfl⟩
    go_wp2_with fail
    refine wp_loop_rounds 1 ?_
    rw [rounds_succ]
    go_wp2
    go_ret
    exact ⟨w.heap.size, 0, rfl, hown1, hb1⟩
  · have c4 := hB.cell 4
    have HB := hide hB
    have HE := hide hE
    have HM := hide (⟨hcG, hmono⟩ : _ ∧ _)
    simp at c4
    clear hB hE hcG hmono
    go_enter Try.func49, Try.ntmps49
    go_wp2_with fail
    refine (len_any c l.length _ (by assumption)).mono ?_
    rintro e w1 ⟨rfl, rfl⟩
    go_wp2_with (at_make; refine wpList_make_own _ rfl _ _ 25 rfl w.heap.size 36 i0 (.agg #[.int .i64 0, .int .i64 0]) 2 Try.underlying25 hi hz0 hz1 .i64 .i64 l.length l.length rfl rfl rfl (by rw [hz2]; omega) (by unfold maxLen; omega) (Nat.le_refl _) ?_; intro w1 hown1 hgrow1)
    have hb1 : Below w.heap.size w w1 := (Below.refl _ _).grown hgrow1 (Nat.le_refl _) (by intro k hk; cases hk)
    refine (front_more c _ _ _ _ h0 hN (HB.out.below hb1 hcl)).mono ?_
    rintro e w2 ⟨rfl, rfl⟩
    have HO := hide hown1
    clear hown1 hgrow1
    unfold ptr
    go_wp2_with fail
    go_loopw [3, 4] (fun u v wr => ∃ (k : Nat) (g : Nat) (cap : Nat) (p : Option Addr), k ≤ l.length ∧ u = .slice (some ⟨g, 0, none⟩) k cap ∧ v = .pointer p ∧ Hid (p = if k < l.length then some ⟨G k, 0, none⟩ else none) ∧ Hid (wr.ownsRow w.heap.size 36 2 (.slice (some ⟨g, 0, none⟩) k cap) k (flatP (l.take k))) ∧ Below w.heap.size w wr) (fun u _ _ => l.length - (match u with | .slice _ n _ => n | _ => 0))
    case atStart => exact ⟨0, _, _, _, by omega, rfl, rfl, hide (by rw [if_pos h0]), HO, hb1⟩
    case round =>
      obtain ⟨k, g, cap, p, hk, rfl, rfl, hp, hO, hb⟩ := hrel
      by_cases hlt : k < l.length
      · obtain rfl : p = some ⟨G k, 0, none⟩ := by rw [hp.out, if_pos hlt]
        obtain ⟨x, y, hxy⟩ := pair_ex l k
        have hEk := (HE.out k hlt).below hb (HE.out k hlt).lt
        rw [hxy] at hEk
        have e3 := hEk.cell 3
        simp [itm] at e3
        have hgl := hEk.lt
        have hO1 := hO.out
        have HEk := hide hEk
        have hsz := hb.size
        clear hEk
        go_wp2_with (at_builtin; refine wpList_append_lies _ rfl (.tmp 18) (.tmp 24) _ rfl w.heap.size 36 i0 (.agg #[.int .i64 0, .int .i64 0]) 2 16 Try.underlying25 hi hz0 hz1 hz2 rfl (by omega) _ k (flatP (l.take k)) rfl (hO1.alloc _) ⟨wr.heap.size, 0, none⟩ 1 1 [.int .i64 x, .int .i64 y] rfl rfl (news2e _ _ _ _ _ (by simp)) (pair_one _ _) (by omega) (by unfold maxLen; omega) (by omega) (by simp; omega) _ rfl ?_; intro b' cap'' w3 hown' hgrow' hat' hlt')
        have hgb := (hO1.lt g rfl).1
        have hB3 : Below w.heap.size w w3 := below_only (hb.alloc hsz _) (show World.grownBy _ w3 (some g) from hgrow') hgb (by simp; omega)
        have hE3 := (HE.out k hlt).below hB3 (HE.out k hlt).lt
        have HO3 := hide (own_app hown')
        have HX := hide hxy
        clear hown' hgrow' hat' hlt' hO1
        by_cases hk1 : k + 1 < l.length
        · rw [if_pos hk1] at hE3
          have hcx := HM.out.1 (k + 1) hk1
          refine (next_more c (G k) (G (k + 1)) _ _ _ (by omega) ((HE.out (k + 1) hk1).below hB3 (HE.out (k + 1) hk1).lt) (HB.out.below hB3 hcl) hE3).mono ?_
          rintro e w4 ⟨rfl, rfl⟩
          unfold ptr
          go_wp2_with fail
          go_roundw
          case rel =>
            refine ⟨k + 1, b', cap'', some ⟨G (k + 1), 0, none⟩, by omega, rfl, rfl, hide (by rw [if_pos hk1]), hide ?_, hB3⟩
            rw [take_snoc (show k < l.length from hlt) HX.out]
            exact HO3.out
          case measure => simp; omega
        · rw [if_neg hk1] at hE3
          refine (next_last c (G k) _ _ _ hE3).mono ?_
          rintro e w4 ⟨rfl, rfl⟩
          go_wp2_with fail
          go_roundw
          case rel =>
            refine ⟨k + 1, b', cap'', none, by omega, rfl, rfl, hide (by rw [if_neg hk1]), hide ?_, hB3⟩
            rw [take_snoc (show k < l.length from hlt) HX.out]
            exact HO3.out
          case measure => simp; omega
      · obtain rfl : k = l.length := by omega
        obtain rfl : p = none := by rw [hp.out, if_neg (by omega)]
        go_wp2
        go_ret
        have h3 := hO.out
        rw [List.take_length] at h3
        exact ⟨g, cap, rfl, h3, hb⟩
end Go.Proofs.Ytakccgajnmkplaa
