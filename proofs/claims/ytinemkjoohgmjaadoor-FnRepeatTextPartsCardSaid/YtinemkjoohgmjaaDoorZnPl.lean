/- The plain law of zones: valid turns, the offset at an instant, the instants of a local time, gaps. -/
import Derived.Test.YtinemkjoohgmjaaDoorRgPl
namespace Go.Proofs.YtinemkjoohgmjaaDoor

def offB (n : Int) : Bool := inB n (-1439) 1439
theorem offB_iff {n : Int} : offB n = true ↔ -1439 ≤ n ∧ n ≤ 1439 := inB_iff
/-- All offsets of a zone, in order. -/
def offs (o : Int) (l : List R2) : List Int := o :: l.map (·.2)
theorem offs_len (o : Int) (l : List R2) : (offs o l).length = l.length + 1 := by simp [offs]
theorem offs_0 (o : Int) (l : List R2) : (offs o l).getD 0 0 = o := by simp [offs]
theorem offs_succ (o : Int) (l : List R2) (k : Nat) (h : k < l.length) : (offs o l).getD (k + 1) 0 = (l.getD k (0, 0)).2 := by
  simp [offs, List.getD, h]
/-- What is asked of turn k. -/
def zokAt (o : Int) (l : List R2) (k : Nat) : Bool :=
  insB (l.getD k (0, 0)).1 && (offB (l.getD k (0, 0)).2 && (!((l.getD k (0, 0)).2 == (offs o l).getD k 0) && (k == 0 || decide (172800000 < (l.getD k (0, 0)).1 - (l.getD (k - 1) (0, 0)).1))))
def zturnsB (o : Int) (l : List R2) : Bool := (List.range l.length).all (zokAt o l)
def zvB (o : Int) (l : List R2) : Bool := decide (l.length ≤ 6) && (offB o && zturnsB o l)
theorem zturns_of {o : Int} {l : List R2} (h : ∀ i, i < l.length → zokAt o l i = true) : zturnsB o l = true := by
  unfold zturnsB; rw [List.all_eq_true]; intro i hi; exact h i (List.mem_range.1 hi)
theorem zturns_not {o : Int} {l : List R2} {k : Nat} (hk : k < l.length) (h : zokAt o l k = false) : zturnsB o l = false := by
  cases e : zturnsB o l with
  | false => rfl
  | true =>
    unfold zturnsB at e
    rw [List.all_eq_true] at e
    rw [e k (List.mem_range.2 hk)] at h
    exact h
theorem zturns_at {o : Int} {l : List R2} (h : zturnsB o l = true) {i : Nat} (hi : i < l.length) : zokAt o l i = true := by
  unfold zturnsB at h; rw [List.all_eq_true] at h; exact h i (List.mem_range.2 hi)

/-- Turn k's instant. -/
def tA (l : List R2) (k : Nat) : Int := (l.getD k (0, 0)).1
def oA (o : Int) (l : List R2) (k : Nat) : Int := (offs o l).getD k 0
/-- A valid zone, said in parts. -/
structure ZV (o : Int) (l : List R2) : Prop where
  len : l.length ≤ 6
  off : ∀ i, i ≤ l.length → -1439 ≤ oA o l i ∧ oA o l i ≤ 1439
  ins : ∀ i, i < l.length → -86400000 ≤ tA l i ∧ tA l i ≤ 315537984000000
  dif : ∀ i, i < l.length → oA o l (i + 1) ≠ oA o l i
  gap : ∀ i, i + 1 < l.length → 172800000 < tA l (i + 1) - tA l i
theorem oA_succ {o : Int} {l : List R2} {k : Nat} (h : k < l.length) : oA o l (k + 1) = (l.getD k (0, 0)).2 := offs_succ o l k h
theorem oA_0 (o : Int) (l : List R2) : oA o l 0 = o := offs_0 o l
theorem zokAt_iff {o : Int} {l : List R2} {k : Nat} (hk : k < l.length) : zokAt o l k = true ↔ (-86400000 ≤ tA l k ∧ tA l k ≤ 315537984000000) ∧ (-1439 ≤ oA o l (k + 1) ∧ oA o l (k + 1) ≤ 1439) ∧ oA o l (k + 1) ≠ oA o l k ∧ (k = 0 ∨ 172800000 < tA l k - tA l (k - 1)) := by
  rw [oA_succ hk]
  unfold zokAt oA tA insB
  simp only [Bool.and_eq_true, Bool.or_eq_true, inB_iff, offB_iff, decide_eq_true_eq, Bool.not_eq_true', beq_eq_false_iff_ne, beq_iff_eq, ne_eq]
theorem zv_of {o : Int} {l : List R2} (h : zvB o l = true) : ZV o l := by
  unfold zvB at h
  simp only [Bool.and_eq_true, decide_eq_true_eq, offB_iff] at h
  obtain ⟨h1, h2, h3⟩ := h
  refine ⟨h1, ?_, ?_, ?_, ?_⟩
  · intro i hi
    cases i with
    | zero => rw [oA_0]; exact h2
    | succ i => exact ((zokAt_iff (by omega)).1 (zturns_at h3 (by omega))).2.1
  · intro i hi; exact ((zokAt_iff hi).1 (zturns_at h3 hi)).1
  · intro i hi; exact ((zokAt_iff hi).1 (zturns_at h3 hi)).2.2.1
  · intro i hi
    have := ((zokAt_iff hi).1 (zturns_at h3 hi)).2.2.2
    rcases this with h | h
    · omega
    · exact h
theorem of_zv {o : Int} {l : List R2} (h : ZV o l) : zvB o l = true := by
  unfold zvB
  simp only [Bool.and_eq_true, decide_eq_true_eq, offB_iff]
  refine ⟨h.len, by have := h.off 0 (by omega); rwa [oA_0] at this, zturns_of fun i hi => (zokAt_iff hi).2 ⟨h.ins i hi, h.off (i + 1) (by omega), h.dif i hi, ?_⟩⟩
  cases i with
  | zero => exact .inl rfl
  | succ i => exact .inr (h.gap i hi)
theorem ZV.far {o : Int} {l : List R2} (h : ZV o l) {i j : Nat} (hij : i < j) (hj : j < l.length) : 172800000 < tA l j - tA l i := by
  obtain ⟨d, rfl⟩ : ∃ d, j = i + 1 + d := ⟨j - i - 1, by omega⟩
  clear hij
  induction d with
  | zero => exact h.gap i hj
  | succ d ih =>
    have := ih (by omega)
    have := h.gap (i + 1 + d) hj
    rw [show i + 1 + (d + 1) = i + 1 + d + 1 by omega]
    omega
/-- Without its last turn a zone is valid, too. -/
theorem ZV.init {o : Int} {l : List R2} {t : R2} (h : ZV o (l ++ [t])) : ZV o l := by
  have e1 : ∀ i, i < l.length → tA (l ++ [t]) i = tA l i := fun i hi => by unfold tA; simp [List.getD, List.getElem?_append_left hi]
  have e2 : ∀ i, i ≤ l.length → oA o (l ++ [t]) i = oA o l i := fun i hi => by
    cases i with
    | zero => rw [oA_0, oA_0]
    | succ i =>
      rw [oA_succ (by simp; omega), oA_succ (by omega)]
      simp [List.getD, List.getElem?_append_left (show i < l.length by omega)]
  have hl : (l ++ [t]).length = l.length + 1 := by simp
  refine ⟨by have := h.len; omega, fun i hi => ?_, fun i hi => ?_, fun i hi => ?_, fun i hi => ?_⟩
  · rw [← e2 i hi]; exact h.off i (by omega)
  · rw [← e1 i hi]; exact h.ins i (by omega)
  · rw [← e2 i (by omega), ← e2 (i + 1) (by omega)]; exact h.dif i (by omega)
  · rw [← e1 i (by omega), ← e1 (i + 1) (by omega)]; exact h.gap i (by omega)

/-! The offset at an instant. -/
/-- Instant t lies behind turn i - 1 and ahead of turn i. -/
def Seg (l : List R2) (i : Nat) (t : Int) : Prop := i ≤ l.length ∧ (i = 0 ∨ tA l (i - 1) ≤ t) ∧ (i = l.length ∨ t < tA l i)
def offAt (o : Int) : List R2 → Int → Int
  | [], _ => o
  | r :: t, n => if r.1 ≤ n then offAt r.2 t n else o
theorem offAt_stop {o : Int} {l : List R2} {t : Int} (h : ∀ r ∈ l, t < r.1) : offAt o l t = o := by
  cases l with
  | nil => rfl
  | cons r l => unfold offAt; rw [if_neg (by have := h r (by simp); omega)]
/-- Turns ascend. -/
def Up (l : List R2) : Prop := l.Pairwise fun a b => a.1 < b.1
theorem offAt_mid {l : List R2} (m : R2) (r : List R2) : ∀ {o t : Int}, Up (l ++ m :: r) → offAt o (l ++ m :: r) t = if m.1 ≤ t then offAt m.2 r t else offAt o l t := by
  induction l with
  | nil =>
    intro o t h
    show (if m.1 ≤ t then offAt m.2 r t else o) = _
    rfl
  | cons x l ih =>
    intro o t h
    have h' := List.pairwise_cons.1 h
    have hx := h'.1 m (by simp)
    show (if x.1 ≤ t then offAt x.2 (l ++ m :: r) t else o) = if m.1 ≤ t then offAt m.2 r t else (if x.1 ≤ t then offAt x.2 l t else o)
    by_cases h1 : x.1 ≤ t
    · rw [if_pos h1, if_pos h1, ih h'.2]
    · rw [if_neg h1, if_neg h1, if_neg (by omega)]
theorem up_of {o : Int} {l : List R2} (h : ZV o l) : Up l := by
  refine List.pairwise_iff_getElem.2 fun i j hi hj hij => ?_
  have := h.far hij hj
  simp [tA, List.getD, hi, hj] at this
  omega
/-- After k turns the reference's loop stands at offset k if those turns are not later. -/
theorem offAt_drop {o : Int} {l : List R2} {t : Int} : ∀ k, k ≤ l.length → (∀ i, i < k → tA l i ≤ t) → offAt o l t = offAt (oA o l k) (l.drop k) t := by
  intro k
  induction k with
  | zero => intro _ _; rw [oA_0]; simp
  | succ k ih =>
    intro hk h
    rw [ih (by omega) (fun i hi => h i (by omega)), List.drop_eq_getElem_cons (show k < l.length by omega)]
    have hk' : k < l.length := by omega
    have h1 := h k (by omega)
    have e : l.getD k (0, 0) = l[k] := by simp [List.getD, hk']
    unfold tA at h1
    rw [e] at h1
    show (if (l[k]).1 ≤ t then offAt (l[k]).2 (l.drop (k + 1)) t else _) = _
    rw [if_pos h1, oA_succ hk', e]
theorem offAt_seg {o : Int} {l : List R2} {t : Int} {i : Nat} (h : ZV o l) (hs : Seg l i t) : offAt o l t = oA o l i := by
  obtain ⟨h1, h2, h3⟩ := hs
  rw [offAt_drop i h1 fun j hj => ?_]
  · refine offAt_stop fun r hr => ?_
    rcases h3 with rfl | h3
    · simp at hr
    · obtain ⟨j, hj, rfl⟩ := List.getElem_of_mem hr
      simp at hj ⊢
      have hij : i + j < l.length := by omega
      by_cases hj0 : j = 0
      · subst hj0
        have hi' : i < l.length := by omega
        simpa [tA, List.getD, hi'] using h3
      · have := h.far (show i < i + j by omega) hij
        have e : tA l (i + j) = (l[i + j]).1 := by simp [tA, List.getD, hij]
        omega
  · rcases h2 with rfl | h2
    · omega
    · by_cases e : j = i - 1
      · subst e; exact h2
      · have := h.far (show j < i - 1 by omega) (by omega)
        omega
theorem seg_ex (l : List R2) (t : Int) : ∃ i, Seg l i t := by
  have : ∀ k, k ≤ l.length → (∃ i, Seg l i t) ∨ (∀ i, i < k → tA l i ≤ t) := by
    intro k
    induction k with
    | zero => intro _; exact .inr (by omega)
    | succ k ih =>
      intro hk
      rcases ih (by omega) with h | h
      · exact .inl h
      · by_cases hc : tA l k ≤ t
        · exact .inr fun i hi => by
            rcases (show i < k ∨ i = k by omega) with h' | rfl
            · exact h i h'
            · exact hc
        · refine .inl ⟨k, by omega, ?_, .inr (by omega)⟩
          by_cases e : k = 0
          · exact .inl e
          · exact .inr (h (k - 1) (by omega))
  rcases this l.length (Nat.le_refl _) with h | h
  · exact h
  · refine ⟨l.length, Nat.le_refl _, ?_, .inl rfl⟩
    by_cases e : l.length = 0
    · exact .inl e
    · exact .inr (h _ (by omega))

/-! The instants at which a zone shows a local time. -/
def iA (o : Int) (l : List R2) (loc : Int) (i : Nat) : Int := loc - 60000 * oA o l i
def segB (l : List R2) (i : Nat) (t : Int) : Bool := (i == 0 || decide (tA l (i - 1) ≤ t)) && (i == l.length || decide (t < tA l i))
theorem segB_iff {l : List R2} {i : Nat} {t : Int} (hi : i ≤ l.length) : segB l i t = true ↔ Seg l i t := by
  unfold segB Seg
  simp only [Bool.and_eq_true, Bool.or_eq_true, beq_iff_eq, decide_eq_true_eq]
  exact ⟨fun h => ⟨hi, h⟩, fun h => h.2⟩
/-- The reference's list, of the first k offsets. -/
def insS (o : Int) (l : List R2) (loc : Int) (k : Nat) : List Int := ((List.range k).filter fun i => segB l i (iA o l loc i)).map (iA o l loc)
/-- The program's list, of the first k offsets. -/
def insP (o : Int) (l : List R2) (loc : Int) (k : Nat) : List Int := ((List.range k).filter fun i => offAt o l (iA o l loc i) == oA o l i).map (iA o l loc)
theorem insS_succ (o : Int) (l : List R2) (loc : Int) (k : Nat) : insS o l loc (k + 1) = insS o l loc k ++ (if segB l k (iA o l loc k) then [iA o l loc k] else []) := by
  unfold insS
  rw [List.range_succ, List.filter_append, List.map_append]
  congr 1
  cases h : segB l k (iA o l loc k) <;> simp [h]
theorem insP_succ (o : Int) (l : List R2) (loc : Int) (k : Nat) : insP o l loc (k + 1) = insP o l loc k ++ (if offAt o l (iA o l loc k) == oA o l k then [iA o l loc k] else []) := by
  unfold insP
  rw [List.range_succ, List.filter_append, List.map_append]
  congr 1
  cases h : offAt o l (iA o l loc k) == oA o l k <;> simp [h]
theorem ins_len (o : Int) (l : List R2) (loc : Int) (k : Nat) : (insS o l loc k).length ≤ k ∧ (insP o l loc k).length ≤ k := by
  unfold insS insP
  rw [List.length_map, List.length_map]
  have h1 := List.length_filter_le (fun i => segB l i (iA o l loc i)) (List.range k)
  have h2 := List.length_filter_le (fun i => offAt o l (iA o l loc i) == oA o l i) (List.range k)
  simp at h1 h2
  omega
theorem mem_insS {o : Int} {l : List R2} {loc x : Int} : x ∈ insS o l loc (l.length + 1) ↔ ∃ i, Seg l i (iA o l loc i) ∧ x = iA o l loc i := by
  unfold insS
  simp only [List.mem_map, List.mem_filter, List.mem_range]
  constructor
  · rintro ⟨i, ⟨h1, h2⟩, rfl⟩; exact ⟨i, (segB_iff (by omega)).1 h2, rfl⟩
  · rintro ⟨i, h1, rfl⟩; exact ⟨i, ⟨by have := h1.1; omega, (segB_iff h1.1).2 h1⟩, rfl⟩
theorem mem_insP {o : Int} {l : List R2} {loc x : Int} : x ∈ insP o l loc (l.length + 1) ↔ ∃ i, i ≤ l.length ∧ offAt o l (iA o l loc i) = oA o l i ∧ x = iA o l loc i := by
  unfold insP
  simp only [List.mem_map, List.mem_filter, List.mem_range, beq_iff_eq]
  constructor
  · rintro ⟨i, ⟨h1, h2⟩, rfl⟩; exact ⟨i, by omega, h2, rfl⟩
  · rintro ⟨i, h1, h2, rfl⟩; exact ⟨i, ⟨by omega, h2⟩, rfl⟩
theorem ins_mem {o : Int} {l : List R2} (h : ZV o l) (loc x : Int) : x ∈ insP o l loc (l.length + 1) ↔ x ∈ insS o l loc (l.length + 1) := by
  rw [mem_insP, mem_insS]
  constructor
  · rintro ⟨i, h1, h2, rfl⟩
    obtain ⟨j, hj⟩ := seg_ex l (iA o l loc i)
    have e := offAt_seg h hj
    have e' : iA o l loc j = iA o l loc i := by unfold iA; rw [← e, h2]
    exact ⟨j, by rw [e']; exact hj, e'.symm⟩
  · rintro ⟨i, h1, rfl⟩
    exact ⟨i, h1.1, offAt_seg h h1, rfl⟩
theorem seg_lt {o : Int} {l : List R2} (h : ZV o l) {loc : Int} {i j : Nat} (hij : i < j) (hi : Seg l i (iA o l loc i)) (hj : Seg l j (iA o l loc j)) : iA o l loc i < iA o l loc j ∧ j = i + 1 ∧ iA o l loc j - iA o l loc i < 172800000 := by
  have hi3 := hi.2.2
  have hj2 := hj.2.1
  have hj1 := hj.1
  have b1 := h.off i (by omega)
  have b2 := h.off j hj1
  have k1 : iA o l loc i < tA l i := by rcases hi3 with e | e; omega; exact e
  have k2 : tA l (j - 1) ≤ iA o l loc j := by rcases hj2 with e | e; omega; exact e
  have k3 : iA o l loc j - iA o l loc i < 172800000 := by unfold iA; omega
  have k4 : tA l i ≤ tA l (j - 1) := by
    by_cases e : i = j - 1
    · rw [e]; exact Int.le_refl _
    · have := h.far (show i < j - 1 by omega) (by omega); omega
  refine ⟨by omega, ?_, k3⟩
  by_cases e : i = j - 1
  · omega
  · have := h.far (show i < j - 1 by omega) (by omega)
    omega
theorem insS_sorted {o : Int} {l : List R2} (h : ZV o l) (loc : Int) : (insS o l loc (l.length + 1)).Pairwise (· < ·) := by
  unfold insS
  rw [List.pairwise_map]
  have hr : (List.range (l.length + 1)).Pairwise (· < ·) := List.pairwise_lt_range
  refine ((hr.filter _).imp_of_mem ?_)
  intro a b ha hb hab
  simp only [List.mem_filter, List.mem_range] at ha hb
  exact (seg_lt h hab ((segB_iff (by omega)).1 ha.2) ((segB_iff (by omega)).1 hb.2)).1
theorem insS_two {o : Int} {l : List R2} (h : ZV o l) (loc : Int) : (insS o l loc (l.length + 1)).length ≤ 2 ∧ ((insS o l loc (l.length + 1)).length = 2 → (insS o l loc (l.length + 1)).getD 0 0 < (insS o l loc (l.length + 1)).getD 1 0 ∧ (insS o l loc (l.length + 1)).getD 1 0 - (insS o l loc (l.length + 1)).getD 0 0 < 172800000) := by
  unfold insS
  have hr : (List.range (l.length + 1)).Pairwise (· < ·) := List.pairwise_lt_range
  have hf := hr.filter fun i => segB l i (iA o l loc i)
  have hm : ∀ a ∈ (List.range (l.length + 1)).filter fun i => segB l i (iA o l loc i), Seg l a (iA o l loc a) := fun a ha => by
    simp only [List.mem_filter, List.mem_range] at ha
    exact (segB_iff (by omega)).1 ha.2
  generalize (List.range (l.length + 1)).filter (fun i => segB l i (iA o l loc i)) = L at hf hm
  rcases L with _ | ⟨a, _ | ⟨b, _ | ⟨c, L⟩⟩⟩
  · simp
  · simp
  · have hab := (List.pairwise_cons.1 hf).1 b (by simp)
    have := seg_lt h hab (hm a (by simp)) (hm b (by simp))
    simp
    omega
  · exfalso
    have h1 := List.pairwise_cons.1 hf
    have hab := h1.1 b (by simp)
    have hac := h1.1 c (by simp)
    have hbc := (List.pairwise_cons.1 h1.2).1 c (by simp)
    have e1 := seg_lt h hac (hm a (by simp)) (hm c (by simp))
    omega
/-- Lists that ascend are known by their members. -/
theorem sorted_unique {a : List Int} : ∀ {b : List Int}, a.Pairwise (· < ·) → b.Pairwise (· < ·) → (∀ x, x ∈ a ↔ x ∈ b) → a = b := by
  induction a with
  | nil =>
    intro b _ _ h
    cases b with
    | nil => rfl
    | cons y b => exact absurd ((h y).2 (by simp)) (by simp)
  | cons x a ih =>
    intro b ha hb h
    cases b with
    | nil => exact absurd ((h x).1 (by simp)) (by simp)
    | cons y b =>
      have ha' := List.pairwise_cons.1 ha
      have hb' := List.pairwise_cons.1 hb
      have e : x = y := by
        have k1 := (h x).1 (by simp)
        have k2 := (h y).2 (by simp)
        rcases List.mem_cons.1 k1 with k1 | k1
        · exact k1
        · rcases List.mem_cons.1 k2 with k2 | k2
          · exact k2.symm
          · have := ha'.1 y k2
            have := hb'.1 x k1
            omega
      subst e
      rw [ih ha'.2 hb'.2 fun z => ?_]
      constructor
      · intro hz
        rcases List.mem_cons.1 ((h z).1 (by simp [hz])) with k | k
        · subst k; have := ha'.1 z hz; omega
        · exact k
      · intro hz
        rcases List.mem_cons.1 ((h z).2 (by simp [hz])) with k | k
        · subst k; have := hb'.1 z hz; omega
        · exact k

/-! Without an instant there is a gap. -/
def gapB (o : Int) (l : List R2) (loc : Int) (i : Nat) : Bool := decide (iA o l loc (i + 1) < tA l i) && decide (tA l i ≤ iA o l loc i)
theorem gap_ex {o : Int} {l : List R2} {loc : Int} (h : insS o l loc (l.length + 1) = []) : ∃ i, i < l.length ∧ gapB o l loc i = true := by
  have hno : ∀ i, ¬ Seg l i (iA o l loc i) := fun i hi => by
    have : iA o l loc i ∈ insS o l loc (l.length + 1) := mem_insS.2 ⟨i, hi, rfl⟩
    rw [h] at this
    simp at this
  have main : ∀ k, k ≤ l.length → (∃ i, i < l.length ∧ gapB o l loc i = true) ∨ (k = 0 ∨ tA l (k - 1) ≤ iA o l loc k) := by
    intro k
    induction k with
    | zero => intro _; exact .inr (.inl rfl)
    | succ k ih =>
      intro hk
      rcases ih (by omega) with h | h
      · exact .inl h
      · have hs : tA l k ≤ iA o l loc k := by
          rcases Int.lt_or_le (iA o l loc k) (tA l k) with hl | hl
          · exact absurd ⟨by omega, h, .inr hl⟩ (hno k)
          · exact hl
        rcases Int.lt_or_le (iA o l loc (k + 1)) (tA l k) with hl | hl
        · refine .inl ⟨k, by omega, ?_⟩
          unfold gapB
          simp [hl, hs]
        · exact .inr (.inr hl)
  rcases main l.length (Nat.le_refl _) with h | h
  · exact h
  · exact absurd ⟨Nat.le_refl _, h, .inl rfl⟩ (hno l.length)
open Classical in
/-- The first gap. -/
noncomputable def gapI (o : Int) (l : List R2) (loc : Int) : Nat := if h : ∃ i, i < l.length ∧ gapB o l loc i = true ∧ ∀ j, j < i → gapB o l loc j = false then h.choose else 0
theorem first_of {p : Nat → Bool} : ∀ {n : Nat}, p n = true → ∃ i, i ≤ n ∧ p i = true ∧ ∀ j, j < i → p j = false := by
  intro n
  induction n using Nat.strongRecOn with
  | ind n ih =>
    intro h
    by_cases hx : ∃ m, m < n ∧ p m = true
    · obtain ⟨m, h1, h2⟩ := hx
      obtain ⟨i, k1, k2⟩ := ih m h1 h2
      exact ⟨i, by omega, k2⟩
    · refine ⟨n, Nat.le_refl _, h, fun j hj => ?_⟩
      cases e : p j with
      | false => rfl
      | true => exact absurd ⟨j, hj, e⟩ hx
theorem gapI_law {o : Int} {l : List R2} {loc : Int} (h : insS o l loc (l.length + 1) = []) : gapI o l loc < l.length ∧ gapB o l loc (gapI o l loc) = true ∧ ∀ j, j < gapI o l loc → gapB o l loc j = false := by
  obtain ⟨n, hn, hg⟩ := gap_ex h
  obtain ⟨i, h1, h2, h3⟩ := first_of hg
  have hex : ∃ i, i < l.length ∧ gapB o l loc i = true ∧ ∀ j, j < i → gapB o l loc j = false := ⟨i, by omega, h2, h3⟩
  unfold gapI
  rw [dif_pos hex]
  exact hex.choose_spec
theorem gapI_eq {o : Int} {l : List R2} {loc : Int} (h : insS o l loc (l.length + 1) = []) {i : Nat} (h1 : gapB o l loc i = true) (h2 : ∀ j, j < i → gapB o l loc j = false) : gapI o l loc = i := by
  obtain ⟨_, g2, g3⟩ := gapI_law h
  rcases Nat.lt_trichotomy (gapI o l loc) i with e | e | e
  · rw [h2 _ e] at g2; simp at g2
  · exact e
  · rw [g3 _ e] at h1; simp at h1
/-- On both sides of a gap lie the offsets beside it. -/
theorem gap_offs {o : Int} {l : List R2} (h : ZV o l) {loc : Int} {i : Nat} (hi : i < l.length) (hg : gapB o l loc i = true) :
    offAt o l (iA o l loc (i + 1)) = oA o l i ∧ offAt o l (iA o l loc i) = oA o l (i + 1) ∧ iA o l loc (i + 1) < tA l i ∧ tA l i ≤ iA o l loc i := by
  unfold gapB at hg
  simp only [Bool.and_eq_true, decide_eq_true_eq] at hg
  obtain ⟨g1, g2⟩ := hg
  have b1 := h.off i (by omega)
  have b2 := h.off (i + 1) (by omega)
  have hd : iA o l loc i - iA o l loc (i + 1) < 172800000 := by unfold iA; omega
  refine ⟨offAt_seg h ⟨by omega, ?_, .inr g1⟩, offAt_seg h ⟨by omega, .inr g2, ?_⟩, g1, g2⟩
  · by_cases e : i = 0
    · exact .inl e
    · have := h.far (show i - 1 < i by omega) hi
      exact .inr (by omega)
  · by_cases e : i + 1 = l.length
    · exact .inl e
    · have := h.far (show i < i + 1 by omega) (by omega)
      exact .inr (by omega)
end Go.Proofs.YtinemkjoohgmjaaDoor
