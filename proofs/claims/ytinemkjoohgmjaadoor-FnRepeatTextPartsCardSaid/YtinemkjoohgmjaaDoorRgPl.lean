/- The plain law of ranges: valid lists, joining, what is in both. -/
import Derived.Test.YtinemkjoohgmjaaDoorBase
namespace Go.Proofs.YtinemkjoohgmjaaDoor

abbrev R2 := Int × Int
/-- An instant is in range. -/
def insB (n : Int) : Bool := inB n (-86400000) 315537984000000
/-- A range is valid. -/
def rB (r : R2) : Bool := insB r.1 && insB r.2 && decide (r.1 < r.2)
theorem rB_iff {r : R2} : rB r = true ↔ (-86400000 ≤ r.1 ∧ r.1 < r.2 ∧ r.2 ≤ 315537984000000) := by
  unfold rB insB
  simp only [Bool.and_eq_true, inB_iff, decide_eq_true_eq]
  omega
/-- What is asked at place k. -/
def okAt (l : List R2) (k : Nat) : Bool := rB (l.getD k (0, 0)) && (k == 0 || decide ((l.getD (k - 1) (0, 0)).2 < (l.getD k (0, 0)).1))
def ascB (l : List R2) : Bool := (List.range l.length).all (okAt l)
def rvB (l : List R2) : Bool := decide (l.length ≤ 8) && ascB l
/-- Valid ranges that ascend. -/
def Asc (l : List R2) : Prop := (∀ r ∈ l, rB r = true) ∧ l.Pairwise (fun a b => a.2 < b.1)

theorem ascB_of {l : List R2} (h : ∀ i, i < l.length → okAt l i = true) : ascB l = true := by
  unfold ascB; rw [List.all_eq_true]; intro i hi; exact h i (List.mem_range.1 hi)
theorem ascB_not {l : List R2} {k : Nat} (hk : k < l.length) (h : okAt l k = false) : ascB l = false := by
  cases e : ascB l with
  | false => rfl
  | true =>
    unfold ascB at e
    rw [List.all_eq_true] at e
    rw [e k (List.mem_range.2 hk)] at h
    exact h
theorem ascB_at {l : List R2} (h : ascB l = true) {i : Nat} (hi : i < l.length) : okAt l i = true := by
  unfold ascB at h; rw [List.all_eq_true] at h; exact h i (List.mem_range.2 hi)

theorem pair_of_next {l : List R2} (h1 : ∀ r ∈ l, rB r = true) (h2 : ∀ i, i + 1 < l.length → (l.getD i (0, 0)).2 < (l.getD (i + 1) (0, 0)).1) : l.Pairwise (fun a b => a.2 < b.1) := by
  induction l with
  | nil => exact List.Pairwise.nil
  | cons r t ih =>
    have ht := ih (fun r hr => h1 r (List.mem_cons_of_mem _ hr)) (fun i hi => by simpa using h2 (i + 1) (by simpa using hi))
    refine List.Pairwise.cons ?_ ht
    cases t with
    | nil => intro a ha; simp at ha
    | cons s t =>
      have h0 := h2 0 (by simp)
      simp at h0
      intro a ha
      rcases List.mem_cons.1 ha with rfl | ha
      · exact h0
      · have hs := rB_iff.1 (h1 s (by simp))
        have := (List.pairwise_cons.1 ht).1 a ha
        omega
theorem asc_of {l : List R2} (h : ascB l = true) : Asc l := by
  have h1 : ∀ r ∈ l, rB r = true := by
    intro r hr
    obtain ⟨i, hi, rfl⟩ := List.getElem_of_mem hr
    have := ascB_at h hi
    unfold okAt at this
    simp only [Bool.and_eq_true] at this
    have e := this.1
    simpa [List.getD, hi] using e
  refine ⟨h1, pair_of_next h1 fun i hi => ?_⟩
  have := ascB_at h hi
  unfold okAt at this
  simp only [Bool.and_eq_true, Bool.or_eq_true, decide_eq_true_eq] at this
  rcases this.2 with h | h
  · simp at h
  · simpa using h
theorem asc_next {l : List R2} (h : l.Pairwise (fun a b => a.2 < b.1)) {i : Nat} (hi : i + 1 < l.length) : (l.getD i (0, 0)).2 < (l.getD (i + 1) (0, 0)).1 := by
  have := List.pairwise_iff_getElem.1 h i (i + 1) (by omega) hi (by omega)
  simpa [List.getD, hi, show i < l.length by omega] using this
theorem of_asc {l : List R2} (h : Asc l) : ascB l = true := by
  refine ascB_of fun i hi => ?_
  unfold okAt
  simp only [Bool.and_eq_true, Bool.or_eq_true, decide_eq_true_eq]
  refine ⟨by have := h.1 (l[i]) (List.getElem_mem hi); simpa [List.getD, hi] using this, ?_⟩
  cases i with
  | zero => left; rfl
  | succ i => right; exact asc_next h.2 hi
theorem asc_nil : Asc [] := ⟨by simp, List.Pairwise.nil⟩
theorem asc_cons {r : R2} {t : List R2} : Asc (r :: t) ↔ rB r = true ∧ (∀ a ∈ t, r.2 < a.1) ∧ Asc t := by
  unfold Asc
  rw [List.pairwise_cons]
  constructor
  · rintro ⟨h1, h2, h3⟩
    exact ⟨h1 r (by simp), h2, fun a ha => h1 a (by simp [ha]), h3⟩
  · rintro ⟨h1, h2, h3, h4⟩
    exact ⟨fun a ha => by rcases List.mem_cons.1 ha with rfl | ha; exact h1; exact h3 a ha, h2, h4⟩
theorem asc_app {a b : List R2} : Asc (a ++ b) ↔ Asc a ∧ Asc b ∧ ∀ x ∈ a, ∀ y ∈ b, x.2 < y.1 := by
  unfold Asc
  rw [List.pairwise_append]
  constructor
  · rintro ⟨h1, h2, h3, h4⟩
    exact ⟨⟨fun r hr => h1 r (by simp [hr]), h2⟩, ⟨fun r hr => h1 r (by simp [hr]), h3⟩, h4⟩
  · rintro ⟨⟨h1, h2⟩, ⟨h3, h4⟩, h5⟩
    exact ⟨fun r hr => by rcases List.mem_append.1 hr with hr | hr; exact h1 r hr; exact h3 r hr, h2, h4, h5⟩

/-- An instant lies in one of the ranges. -/
def Cov (l : List R2) (x : Int) : Prop := ∃ r ∈ l, r.1 ≤ x ∧ x < r.2
theorem cov_nil (x : Int) : ¬ Cov [] x := fun ⟨r, hr, _⟩ => by simp at hr
theorem cov_cons {r : R2} {t : List R2} {x : Int} : Cov (r :: t) x ↔ (r.1 ≤ x ∧ x < r.2) ∨ Cov t x := by
  unfold Cov
  simp
theorem cov_app {a b : List R2} {x : Int} : Cov (a ++ b) x ↔ Cov a x ∨ Cov b x := by
  unfold Cov
  constructor
  · rintro ⟨r, hr, h⟩
    rcases List.mem_append.1 hr with hr | hr
    · exact .inl ⟨r, hr, h⟩
    · exact .inr ⟨r, hr, h⟩
  · rintro (⟨r, hr, h⟩ | ⟨r, hr, h⟩)
    · exact ⟨r, by simp [hr], h⟩
    · exact ⟨r, by simp [hr], h⟩
theorem cov_lt {r : R2} {t : List R2} (h : Asc (r :: t)) {x : Int} (hx : Cov t x) : r.2 < x := by
  obtain ⟨s, hs, h1, h2⟩ := hx
  have := (asc_cons.1 h).2.1 s hs
  omega

/-- Valid ranges that ascend are known by what they have. -/
theorem asc_unique {a : List R2} : ∀ {b : List R2}, Asc a → Asc b → (∀ x, Cov a x ↔ Cov b x) → a = b := by
  induction a with
  | nil =>
    intro b _ hb h
    cases b with
    | nil => rfl
    | cons s t =>
      exfalso
      have hs := rB_iff.1 (asc_cons.1 hb).1
      exact cov_nil s.1 ((h s.1).2 (cov_cons.2 (.inl ⟨by omega, by omega⟩)))
  | cons r a ih =>
    intro b ha hb h
    have hr := rB_iff.1 (asc_cons.1 ha).1
    cases b with
    | nil => exact absurd ((h r.1).1 (cov_cons.2 (.inl ⟨by omega, by omega⟩))) (cov_nil _)
    | cons s b =>
      have hs := rB_iff.1 (asc_cons.1 hb).1
      have e1 : r.1 = s.1 := by
        have k1 := (h r.1).1 (cov_cons.2 (.inl ⟨by omega, by omega⟩))
        have k2 := (h s.1).2 (cov_cons.2 (.inl ⟨by omega, by omega⟩))
        have m1 : s.1 ≤ r.1 := by
          rcases cov_cons.1 k1 with k | k
          · exact k.1
          · have := cov_lt hb k; omega
        have m2 : r.1 ≤ s.1 := by
          rcases cov_cons.1 k2 with k | k
          · exact k.1
          · have := cov_lt ha k; omega
        omega
      have e2 : r.2 = s.2 := by
        rcases Int.lt_trichotomy r.2 s.2 with hl | hl | hl
        · exfalso
          rcases cov_cons.1 ((h r.2).2 (cov_cons.2 (.inl ⟨by omega, hl⟩))) with k | k
          · omega
          · have := cov_lt ha k; omega
        · exact hl
        · exfalso
          rcases cov_cons.1 ((h s.2).1 (cov_cons.2 (.inl ⟨by omega, hl⟩))) with k | k
          · omega
          · have := cov_lt hb k; omega
      have e : r = s := Prod.ext e1 e2
      subst e
      rw [ih (asc_cons.1 ha).2.2 (asc_cons.1 hb).2.2 fun x => ?_]
      constructor
      · intro hx
        have hl := cov_lt ha hx
        rcases cov_cons.1 ((h x).1 (cov_cons.2 (.inr hx))) with k | k
        · omega
        · exact k
      · intro hx
        have hl := cov_lt hb hx
        rcases cov_cons.1 ((h x).2 (cov_cons.2 (.inr hx))) with k | k
        · omega
        · exact k

/-! What the reference does: a range is put into ranges that ascend. -/
def putStep (st : List R2 × Bool × R2) (y : R2) : List R2 × Bool × R2 :=
  if y.2 < st.2.2.1 then (st.1 ++ [y], st.2)
  else if st.2.2.2 < y.1 then ((if st.2.1 then st.1 else st.1 ++ [st.2.2]) ++ [y], true, st.2.2)
  else (st.1, st.2.1, (min st.2.2.1 y.1, max st.2.2.2 y.2))
def putSt (l : List R2) (x : R2) : List R2 × Bool × R2 := l.foldl putStep ([], false, x)
def put (l : List R2) (x : R2) : List R2 := let st := putSt l x; if st.2.1 then st.1 else st.1 ++ [st.2.2]
def putR : List R2 → R2 → List R2
  | [], x => [x]
  | y :: t, x => if y.2 < x.1 then y :: putR t x else if x.2 < y.1 then x :: y :: t else putR t (min x.1 y.1, max x.2 y.2)
theorem put_done (l : List R2) (out : List R2) (x : R2) (hx : x.1 < x.2) (h : ∀ y ∈ l, x.2 < y.1 ∧ y.1 < y.2) : l.foldl putStep (out, true, x) = (out ++ l, true, x) := by
  induction l generalizing out with
  | nil => simp
  | cons y t ih =>
    have hy := h y (by simp)
    rw [List.foldl_cons]
    have e : putStep (out, true, x) y = (out ++ [y], true, x) := by
      unfold putStep
      rw [if_neg (by show ¬ y.2 < x.1; omega), if_pos (show x.2 < y.1 from hy.1)]
      simp
    rw [e, ih _ (fun z hz => h z (by simp [hz]))]
    simp
theorem put_go (l : List R2) (out : List R2) (x : R2) (hx : x.1 < x.2) (h : Asc l) : (let st := l.foldl putStep (out, false, x); if st.2.1 then st.1 else st.1 ++ [st.2.2]) = out ++ putR l x := by
  induction l generalizing out x with
  | nil => simp [putR]
  | cons y t ih =>
    obtain ⟨hy, hyt, ht⟩ := asc_cons.1 h
    have hy' := rB_iff.1 hy
    rw [List.foldl_cons]
    unfold putR
    by_cases h1 : y.2 < x.1
    · have e : putStep (out, false, x) y = (out ++ [y], false, x) := by
        unfold putStep
        rw [if_pos (show y.2 < x.1 from h1)]
      rw [e, if_pos h1, ih _ _ hx ht]
      simp
    · rw [if_neg h1]
      by_cases h2 : x.2 < y.1
      · have e : putStep (out, false, x) y = (out ++ [x] ++ [y], true, x) := by
          unfold putStep
          rw [if_neg (show ¬ y.2 < x.1 from h1), if_pos (show x.2 < y.1 from h2)]
          simp
        rw [e, if_pos h2, put_done t _ x hx (fun z hz => ⟨by have := hyt z hz; omega, by have := rB_iff.1 (ht.1 z hz); omega⟩)]
        simp
      · have e : putStep (out, false, x) y = (out, false, (min x.1 y.1, max x.2 y.2)) := by
          unfold putStep
          rw [if_neg (show ¬ y.2 < x.1 from h1), if_neg (show ¬ x.2 < y.1 from h2)]
        rw [e, if_neg h2]
        exact ih _ _ (by show min x.1 y.1 < max x.2 y.2; omega) ht
theorem put_eq {l : List R2} {x : R2} (hx : x.1 < x.2) (h : Asc l) : put l x = putR l x := by
  exact (put_go l [] x hx h).trans (List.nil_append _)

def tot (l : List R2) : Int := (l.map fun r => r.2 - r.1).sum
theorem tot_cons (r : R2) (t : List R2) : tot (r :: t) = r.2 - r.1 + tot t := by simp [tot]
theorem tot_app (a b : List R2) : tot (a ++ b) = tot a + tot b := by simp [tot]
theorem rB_merge {x y : R2} (hx : rB x = true) (hy : rB y = true) : rB (min x.1 y.1, max x.2 y.2) = true := by
  have := rB_iff.1 hx
  have := rB_iff.1 hy
  refine rB_iff.2 ?_
  show _ ≤ min x.1 y.1 ∧ min x.1 y.1 < max x.2 y.2 ∧ max x.2 y.2 ≤ _
  omega

theorem putR_law (l : List R2) : ∀ (x : R2), Asc l → rB x = true →
    Asc (putR l x) ∧ (∀ z, Cov (putR l x) z ↔ Cov l z ∨ (x.1 ≤ z ∧ z < x.2)) ∧ tot (putR l x) ≤ tot l + (x.2 - x.1) ∧ (putR l x).length ≤ l.length + 1 ∧ (∀ k, k < x.1 → (∀ y ∈ l, k < y.1) → ∀ a ∈ putR l x, k < a.1) := by
  induction l with
  | nil =>
    intro x _ hx
    refine ⟨⟨by simpa [putR] using hx, by simp [putR]⟩, fun z => ?_, by simp [putR, tot], by simp [putR], ?_⟩
    · simp [putR, Cov]
    · intro k hk _ a ha
      simp [putR] at ha
      rw [ha]; exact hk
  | cons y t ih =>
    intro x h hx
    obtain ⟨hy, hyt, ht⟩ := asc_cons.1 h
    have hy' := rB_iff.1 hy
    have hx' := rB_iff.1 hx
    unfold putR
    by_cases h1 : y.2 < x.1
    · rw [if_pos h1]
      obtain ⟨i1, i2, i3, i4, i5⟩ := ih x ht hx
      refine ⟨asc_cons.2 ⟨hy, i5 y.2 h1 hyt, i1⟩, fun z => ?_, ?_, ?_, ?_⟩
      · rw [cov_cons, cov_cons, i2]
        constructor
        · rintro (h | h | h)
          · exact .inl (.inl h)
          · exact .inl (.inr h)
          · exact .inr h
        · rintro ((h | h) | h)
          · exact .inl h
          · exact .inr (.inl h)
          · exact .inr (.inr h)
      · rw [tot_cons, tot_cons]; omega
      · simp; omega
      · intro k hk hl a ha
        rcases List.mem_cons.1 ha with rfl | ha
        · exact hl _ (by simp)
        · exact i5 k hk (fun y hy => hl y (by simp [hy])) a ha
    · rw [if_neg h1]
      by_cases h2 : x.2 < y.1
      · rw [if_pos h2]
        refine ⟨asc_cons.2 ⟨hx, fun a ha => ?_, h⟩, fun z => ?_, ?_, ?_, ?_⟩
        · rcases List.mem_cons.1 ha with rfl | ha
          · exact h2
          · have := hyt a ha; omega
        · rw [cov_cons]
          exact Or.comm
        · rw [tot_cons]; omega
        · simp
        · intro k hk hl a ha
          rcases List.mem_cons.1 ha with rfl | ha
          · exact hk
          · exact hl a ha
      · rw [if_neg h2]
        obtain ⟨i1, i2, i3, i4, i5⟩ := ih _ ht (rB_merge hx hy)
        refine ⟨i1, fun z => ?_, ?_, ?_, ?_⟩
        · rw [i2, cov_cons]
          show Cov t z ∨ (min x.1 y.1 ≤ z ∧ z < max x.2 y.2) ↔ ((y.1 ≤ z ∧ z < y.2) ∨ Cov t z) ∨ (x.1 ≤ z ∧ z < x.2)
          constructor
          · rintro (h | h)
            · exact .inl (.inr h)
            · by_cases hz : x.1 ≤ z ∧ z < x.2
              · exact .inr hz
              · exact .inl (.inl (by omega))
          · rintro ((h | h) | h)
            · exact .inr (by omega)
            · exact .inl h
            · exact .inr (by omega)
        · rw [tot_cons]
          have i3' : tot (putR t (min x.1 y.1, max x.2 y.2)) ≤ tot t + (max x.2 y.2 - min x.1 y.1) := i3
          omega
        · simp; omega
        · intro k hk hl a ha
          have := hl y (by simp)
          exact i5 k (by show k < min x.1 y.1; omega) (fun y hy => hl y (by simp [hy])) a ha

/-- The reference's join. -/
def joinS (l : List R2) : List R2 := l.foldl put []
theorem joinS_law (l : List R2) (h : ∀ r ∈ l, rB r = true) : Asc (joinS l) ∧ (∀ z, Cov (joinS l) z ↔ Cov l z) ∧ tot (joinS l) ≤ tot l ∧ (joinS l).length ≤ l.length := by
  have main : ∀ (l a b : List R2), (∀ r ∈ l, rB r = true) → Asc a → Asc (l.foldl put a) ∧ (∀ z, Cov (l.foldl put a) z ↔ Cov a z ∨ Cov l z) ∧ tot (l.foldl put a) ≤ tot a + tot l ∧ (l.foldl put a).length ≤ a.length + l.length := by
    intro l
    induction l with
    | nil => intro a _ _ ha; exact ⟨ha, fun z => by simp [cov_nil], by simp [tot], by simp⟩
    | cons x t ih =>
      intro a b hl ha
      have hx := hl x (by simp)
      rw [List.foldl_cons, put_eq (by have := rB_iff.1 hx; omega) ha]
      obtain ⟨p1, p2, p3, p4, _⟩ := putR_law a x ha hx
      obtain ⟨i1, i2, i3, i4⟩ := ih (putR a x) b (fun r hr => hl r (by simp [hr])) p1
      refine ⟨i1, fun z => ?_, ?_, ?_⟩
      · rw [i2, p2, cov_cons]
        exact or_assoc
      · rw [tot_cons]; omega
      · simp; omega
  obtain ⟨h1, h2, h3, h4⟩ := main l [] [] h asc_nil
  exact ⟨h1, fun z => by rw [joinS, h2]; simp [cov_nil], by show tot (l.foldl put []) ≤ _; simpa [tot] using h3, by show (l.foldl put []).length ≤ _; simpa using h4⟩

/-! What the program does: a chain of ranges that ascend. -/
def addC (c : List R2) (r : R2) : List R2 :=
  match c.getLast? with
  | none => [r]
  | some last => if r.1 ≤ last.2 then c.dropLast ++ [(last.1, max last.2 r.2)] else c ++ [r]
theorem addC_nil (r : R2) : addC [] r = [r] := rfl
theorem addC_snoc (c : List R2) (last r : R2) : addC (c ++ [last]) r = if r.1 ≤ last.2 then c ++ [(last.1, max last.2 r.2)] else c ++ [last] ++ [r] := by
  simp [addC]
theorem snoc_cases {α : Type} (c : List α) : c = [] ∨ ∃ d x, c = d ++ [x] := by
  rcases List.eq_nil_or_concat c with h | ⟨d, x, h⟩
  · exact .inl h
  · exact .inr ⟨d, x, by simpa using h⟩
theorem addC_law {c : List R2} {r : R2} (h : Asc c) (hr : rB r = true) (hl : ∀ a ∈ c, a.1 ≤ r.1) :
    Asc (addC c r) ∧ (∀ z, Cov (addC c r) z ↔ Cov c z ∨ (r.1 ≤ z ∧ z < r.2)) ∧ (∀ a ∈ addC c r, a.1 ≤ r.1) := by
  have hr' := rB_iff.1 hr
  rcases snoc_cases c with rfl | ⟨d, last, rfl⟩
  · rw [addC_nil]
    exact ⟨⟨by simpa using hr, by simp⟩, fun z => by simp [Cov], by simp⟩
  · obtain ⟨h1, h2, h3⟩ := asc_app.1 h
    have hla := h2.1 last (by simp)
    have hla' := rB_iff.1 hla
    have hle := hl last (by simp)
    rw [addC_snoc]
    by_cases hc : r.1 ≤ last.2
    · rw [if_pos hc]
      refine ⟨asc_app.2 ⟨h1, ⟨by simp only [List.mem_singleton]; rintro _ rfl; exact rB_iff.2 (by show _ ≤ last.1 ∧ last.1 < max last.2 r.2 ∧ max last.2 r.2 ≤ _; omega), by simp⟩, ?_⟩, fun z => ?_, ?_⟩
      · intro x hx y hy
        simp only [List.mem_singleton] at hy
        subst hy
        exact h3 x hx last (by simp)
      · rw [cov_app, cov_app, cov_cons, cov_cons]
        have n1 := cov_nil z
        constructor
        · rintro (h | h | h)
          · exact .inl (.inl h)
          · have h' : last.1 ≤ z ∧ z < max last.2 r.2 := h
            by_cases hz : last.1 ≤ z ∧ z < last.2
            · exact .inl (.inr (.inl hz))
            · exact .inr (by omega)
          · exact absurd h n1
        · rintro ((h | h | h) | h)
          · exact .inl h
          · exact .inr (.inl (by show last.1 ≤ z ∧ z < max last.2 r.2; omega))
          · exact absurd h n1
          · exact .inr (.inl (by show last.1 ≤ z ∧ z < max last.2 r.2; omega))
      · intro a ha
        rcases List.mem_append.1 ha with ha | ha
        · exact hl a (by simp [ha])
        · simp only [List.mem_singleton] at ha
          subst ha
          exact hle
    · rw [if_neg hc]
      refine ⟨asc_app.2 ⟨h, ⟨by simpa using hr, by simp⟩, ?_⟩, fun z => ?_, ?_⟩
      · intro x hx y hy
        simp only [List.mem_singleton] at hy
        subst hy
        rcases List.mem_append.1 hx with hx | hx
        · have := h3 x hx last (by simp)
          have := rB_iff.1 (h1.1 x hx)
          omega
        · simp only [List.mem_singleton] at hx
          subst hx
          omega
      · rw [cov_app, cov_cons]
        have n1 := cov_nil z
        constructor
        · rintro (h | h | h)
          · exact .inl h
          · exact .inr h
          · exact absurd h n1
        · rintro (h | h)
          · exact .inl h
          · exact .inr (.inl h)
      · intro a ha
        rcases List.mem_append.1 ha with ha | ha
        · exact hl a ha
        · simp only [List.mem_singleton] at ha
          subst ha
          exact Int.le_refl _
theorem addC_len (c : List R2) (r : R2) : (addC c r).length ≤ c.length + 1 := by
  rcases snoc_cases c with rfl | ⟨d, last, rfl⟩
  · simp [addC_nil]
  · rw [addC_snoc]; split <;> simp
/-- Sorted ranges, chained. -/
theorem chain_law (l : List R2) : ∀ (c : List R2), (∀ r ∈ l, rB r = true) → l.Pairwise (fun a b => a.1 ≤ b.1) → Asc c → (∀ a ∈ c, ∀ r ∈ l, a.1 ≤ r.1) →
    Asc (l.foldl addC c) ∧ ∀ z, Cov (l.foldl addC c) z ↔ Cov c z ∨ Cov l z := by
  induction l with
  | nil => intro c _ _ hc _; exact ⟨hc, fun z => by simp [cov_nil]⟩
  | cons r t ih =>
    intro c hl hs hc hcl
    obtain ⟨hs1, hs2⟩ := List.pairwise_cons.1 hs
    obtain ⟨a1, a2, a3⟩ := addC_law hc (hl r (by simp)) (fun a ha => hcl a ha r (by simp))
    obtain ⟨i1, i2⟩ := ih (addC c r) (fun x hx => hl x (by simp [hx])) hs2 a1 (fun a ha x hx => Int.le_trans (a3 a ha) (hs1 x hx))
    rw [List.foldl_cons]
    refine ⟨i1, fun z => ?_⟩
    rw [i2, a2, cov_cons]
    exact or_assoc
theorem cov_perm {a b : List R2} (h : a.Perm b) (z : Int) : Cov a z ↔ Cov b z := by
  unfold Cov
  constructor
  · rintro ⟨r, hr, k⟩; exact ⟨r, h.mem_iff.1 hr, k⟩
  · rintro ⟨r, hr, k⟩; exact ⟨r, h.mem_iff.2 hr, k⟩
/-- Both joins are the same. -/
theorem join_same {l s : List R2} (h : ∀ r ∈ l, rB r = true) (hp : s.Perm l) (hs : s.Pairwise (fun a b => a.1 ≤ b.1)) : s.foldl addC [] = joinS l := by
  obtain ⟨a1, a2⟩ := chain_law s [] (fun r hr => h r (hp.mem_iff.1 hr)) hs asc_nil (by simp)
  obtain ⟨b1, b2, _⟩ := joinS_law l h
  refine asc_unique a1 b1 fun x => ?_
  rw [a2, b2, cov_perm hp]
  simp [cov_nil]
theorem join_perm {l s : List R2} (h : ∀ r ∈ l, rB r = true) (hp : s.Perm l) : joinS s = joinS l := by
  obtain ⟨a1, a2, _⟩ := joinS_law s (fun r hr => h r (hp.mem_iff.1 hr))
  obtain ⟨b1, b2, _⟩ := joinS_law l h
  exact asc_unique a1 b1 fun x => by rw [a2, b2, cov_perm hp]
theorem join_self {l : List R2} (h : Asc l) : joinS l = l := by
  obtain ⟨a1, a2, _⟩ := joinS_law l h.1
  exact asc_unique a1 h a2
/-- A chain of what ascends already is that list. -/
theorem chain_asc (l : List R2) : ∀ c : List R2, Asc (c ++ l) → l.foldl addC c = c ++ l := by
  induction l with
  | nil => intro c _; simp
  | cons r t ih =>
    intro c h
    have e : addC c r = c ++ [r] := by
      rcases snoc_cases c with rfl | ⟨d, last, rfl⟩
      · rfl
      · rw [addC_snoc, if_neg]
        have := (asc_app.1 h).2.2 last (by simp) r (by simp)
        omega
    rw [List.foldl_cons, e, ih _ (by simpa using h)]
    simp

/-! What is in both. -/
def meet1 (r s : R2) : List R2 := if max r.1 s.1 < min r.2 s.2 then [(max r.1 s.1, min r.2 s.2)] else []
def meetR (r : R2) (b : List R2) : List R2 := b.flatMap (meet1 r)
def meetS (a b : List R2) : List R2 := a.flatMap fun r => meetR r b
theorem mem_meet1 {r s x : R2} : x ∈ meet1 r s ↔ max r.1 s.1 < min r.2 s.2 ∧ x = (max r.1 s.1, min r.2 s.2) := by
  unfold meet1
  split
  · simp [*]
  · simp; omega
theorem mem_meetS {a b : List R2} {x : R2} : x ∈ meetS a b ↔ ∃ r ∈ a, ∃ s ∈ b, max r.1 s.1 < min r.2 s.2 ∧ x = (max r.1 s.1, min r.2 s.2) := by
  unfold meetS meetR
  simp only [List.mem_flatMap, mem_meet1]
theorem meet_asc {a b : List R2} (ha : Asc a) (hb : Asc b) : Asc (meetS a b) := by
  refine ⟨fun x hx => ?_, ?_⟩
  · obtain ⟨r, hr, s, hs, h1, rfl⟩ := mem_meetS.1 hx
    have := rB_iff.1 (ha.1 r hr)
    have := rB_iff.1 (hb.1 s hs)
    exact rB_iff.2 (by show _ ≤ max r.1 s.1 ∧ max r.1 s.1 < min r.2 s.2 ∧ min r.2 s.2 ≤ _; omega)
  · unfold meetS
    rw [List.pairwise_flatMap]
    refine ⟨fun r hr => ?_, ?_⟩
    · unfold meetR
      rw [List.pairwise_flatMap]
      refine ⟨fun s hs => by unfold meet1; split <;> simp, ?_⟩
      refine hb.2.imp fun {s s'} h x hx y hy => ?_
      obtain ⟨h1, rfl⟩ := mem_meet1.1 hx
      obtain ⟨h2, rfl⟩ := mem_meet1.1 hy
      show min r.2 s.2 < max r.1 s'.1
      omega
    · refine ha.2.imp fun {r r'} h x hx y hy => ?_
      unfold meetR at hx hy
      obtain ⟨s, _, hx⟩ := List.mem_flatMap.1 hx
      obtain ⟨s', _, hy⟩ := List.mem_flatMap.1 hy
      obtain ⟨h1, rfl⟩ := mem_meet1.1 hx
      obtain ⟨h2, rfl⟩ := mem_meet1.1 hy
      show min r.2 s.2 < max r'.1 s'.1
      omega
theorem meet_cov {a b : List R2} (z : Int) : Cov (meetS a b) z ↔ Cov a z ∧ Cov b z := by
  constructor
  · rintro ⟨x, hx, k1, k2⟩
    obtain ⟨r, hr, s, hs, h1, rfl⟩ := mem_meetS.1 hx
    have k1' : max r.1 s.1 ≤ z := k1
    have k2' : z < min r.2 s.2 := k2
    exact ⟨⟨r, hr, by omega, by omega⟩, ⟨s, hs, by omega, by omega⟩⟩
  · rintro ⟨⟨r, hr, h1, h2⟩, ⟨s, hs, h3, h4⟩⟩
    exact ⟨_, mem_meetS.2 ⟨r, hr, s, hs, by omega, rfl⟩, by show max r.1 s.1 ≤ z; omega, by show z < min r.2 s.2; omega⟩
theorem meet_comm {a b : List R2} (ha : Asc a) (hb : Asc b) : meetS b a = meetS a b :=
  asc_unique (meet_asc hb ha) (meet_asc ha hb) fun x => by rw [meet_cov, meet_cov]; exact And.comm
theorem meet_self {a : List R2} (ha : Asc a) : meetS a a = a :=
  asc_unique (meet_asc ha ha) ha fun x => by rw [meet_cov]; exact ⟨fun h => h.1, fun h => ⟨h, h⟩⟩
/-- What has a whole range has it in one piece. -/
theorem asc_piece {l : List R2} (h : Asc l) {x : R2} (hx : x.1 < x.2) (hc : ∀ z, x.1 ≤ z → z < x.2 → Cov l z) : ∃ r ∈ l, r.1 ≤ x.1 ∧ x.2 ≤ r.2 := by
  obtain ⟨r, hr, h1, h2⟩ := hc x.1 (by omega) hx
  refine ⟨r, hr, h1, ?_⟩
  rcases Int.lt_or_le r.2 x.2 with hl | hl
  · exfalso
    obtain ⟨s, hs, h3, h4⟩ := hc r.2 (by omega) hl
    obtain ⟨i, hi, rfl⟩ := List.getElem_of_mem hr
    obtain ⟨j, hj, rfl⟩ := List.getElem_of_mem hs
    have hp := List.pairwise_iff_getElem.1 h.2
    rcases Nat.lt_trichotomy i j with e | e | e
    · have := hp i j hi hj e; omega
    · subst e; omega
    · have := hp j i hj hi e
      have := rB_iff.1 (h.1 _ hr)
      omega
  · exact hl
theorem tot_ge {l : List R2} (h : ∀ r ∈ l, rB r = true) : (l.length : Int) ≤ tot l := by
  induction l with
  | nil => simp [tot]
  | cons r t ih =>
    have := rB_iff.1 (h r (by simp))
    have := ih (fun x hx => h x (by simp [hx]))
    rw [tot_cons]; simp; omega
theorem tot_mem {l : List R2} (h : ∀ r ∈ l, rB r = true) {r : R2} (hr : r ∈ l) : r.2 - r.1 ≤ tot l := by
  induction l with
  | nil => simp at hr
  | cons s t ih =>
    have hs := rB_iff.1 (h s (by simp))
    have ht : ∀ x ∈ t, rB x = true := fun x hx => h x (by simp [hx])
    have := tot_ge ht
    rw [tot_cons]
    rcases List.mem_cons.1 hr with rfl | hr
    · omega
    · have := ih ht hr; omega
theorem tot_bd {l : List R2} (h : ∀ r ∈ l, rB r = true) : 0 ≤ tot l ∧ tot l ≤ 315538070400000 * (l.length : Int) := by
  induction l with
  | nil => simp [tot]
  | cons s t ih =>
    have hs := rB_iff.1 (h s (by simp))
    have := ih (fun x hx => h x (by simp [hx]))
    rw [tot_cons]; simp; omega
theorem join_most {l : List R2} (h : ∀ r ∈ l, rB r = true) {r : R2} (hr : r ∈ l) : r.2 - r.1 ≤ tot (joinS l) := by
  obtain ⟨a1, a2, _⟩ := joinS_law l h
  have hr' := rB_iff.1 (h r hr)
  obtain ⟨s, hs, h1, h2⟩ := asc_piece a1 (x := r) (by omega) (fun z h1 h2 => (a2 z).2 ⟨r, hr, h1, h2⟩)
  have := tot_mem a1.1 hs
  omega
end Go.Proofs.YtinemkjoohgmjaaDoor
