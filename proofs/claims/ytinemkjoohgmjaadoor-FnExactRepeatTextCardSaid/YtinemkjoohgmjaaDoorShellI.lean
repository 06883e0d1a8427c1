/- What the statements' frames share: structs of numbers, opened. -/
import Derived.Test.YtinemkjoohgmjaaDoorShell
import Derived.Test.YtinemkjoohgmjaaDoorStPl
import Derived.ChangeSame
namespace Go.Proofs.YtinemkjoohgmjaaDoor
open Go.ChangeShapes Go.WideShapes Go.ChangeAt Go.RowKit

/-- Whatever is read at type t is made of numbers. -/
structure AllI (P : Program) (t : TypeId) : Prop where
  all : ∀ {H : Type} {enc : TypeId × Value → H} {w : World} {base : Nat} {spare : Nat → Bool} {held : Bool} {fuel : Nat} {cs : List Value} {x : DataW H × List MemPlace},
  DataW.trod enc P w base spare held fuel t cs = some x → ∀ c ∈ cs, ∃ z : Int, c = .int .i64 z ∧ I64 z
theorem AllI.int {P : Program} {t : TypeId} (ht : P.underlying t = some (.int .i64)) : AllI P t := by
  refine ⟨?_⟩
  intro H enc w base spare held fuel cs x h c hc
  obtain ⟨n, rfl, _, hw⟩ := DataW.trod_int ht h
  simp only [List.mem_singleton] at hc
  exact ⟨n, hc, i64_of_wf hw⟩
theorem AllI.struct {P : Program} {t : TypeId} {fs : Array Field} (ht : P.underlying t = some (.struct fs)) (hf : ∀ (i : Nat) (f : Field), fs[i]? = some f → AllI P f.type)
    (hc : ((List.range (P.cellsOf t)).all fun j => fs.toList.any fun f => decide (f.offset ≤ j) && decide (j < f.offset + P.cellsOf f.type)) = true) : AllI P t := by
  refine ⟨?_⟩
  intro H enc w base spare held fuel cs x h c hcs
  obtain ⟨xs, n, _, _, hl, hlen, hg⟩ := DataW.trod_struct ht h
  obtain ⟨j, hj, rfl⟩ := List.getElem_of_mem hcs
  rw [List.all_eq_true] at hc
  have := hc j (List.mem_range.2 (by omega))
  rw [List.any_eq_true] at this
  obtain ⟨f, hfm, hff⟩ := this
  simp only [Bool.and_eq_true, decide_eq_true_eq] at hff
  obtain ⟨i, hi, rfl⟩ := List.getElem_of_mem hfm
  have hi' : fs[i]? = some fs[i] := by simp at hi; simp [hi]
  have hr := hg i _ hi'
  have hx : ∃ y, xs[i]? = some y := by
    have : i < xs.length := by rw [hlen]; simpa using hi
    exact ⟨xs[i], by simp [this]⟩
  obtain ⟨y, hy⟩ := hx
  rw [hy] at hr
  simp only [Array.getElem_toList] at hff
  refine (hf i _ hi').all hr cs[j] ?_
  rw [List.mem_iff_getElem?]
  refine ⟨j - fs[i].offset, ?_⟩
  rw [List.getElem?_take, if_pos (by omega), List.getElem?_drop, show fs[i].offset + (j - fs[i].offset) = j by omega, List.getElem?_eq_getElem hj]

/-- A field's type, where all fields' types are on a list. -/
theorem fields_on {P : Program} {fs : Array Field} {l : List TypeId} (h : (fs.toList.all fun f => l.contains f.type) = true) (hl : ∀ t ∈ l, AllI P t) : ∀ (i : Nat) (f : Field), fs[i]? = some f → AllI P f.type := by
  intro i f hf
  rw [List.all_eq_true] at h
  have := h f (by rw [Array.mem_toList_iff]; exact Array.mem_of_getElem? hf)
  exact hl _ (by simpa using this)
set_option maxRecDepth 100000 in
theorem allI_int : AllI Tryd.prog 3 := AllI.int Tryd.underlying3
set_option maxRecDepth 100000 in
theorem allI_Date : AllI Tryd.prog 35 := AllI.struct Tryd.underlying35 (fields_on (l := [3]) (by kernel_rfl) (by intro t ht; simp only [List.mem_cons, List.not_mem_nil, or_false] at ht; subst ht; exact allI_int)) (by kernel_rfl)
set_option maxRecDepth 100000 in
theorem allI_Clock : AllI Tryd.prog 36 := AllI.struct Tryd.underlying36 (fields_on (l := [3]) (by kernel_rfl) (by intro t ht; simp only [List.mem_cons, List.not_mem_nil, or_false] at ht; subst ht; exact allI_int)) (by kernel_rfl)
section
variable {H : Type} {enc : TypeId × Value → H} {w : World} {r : Reach} {b0 base : Nat} {spare : Nat → Bool} {held : Bool} {v : Value} {d : DataW H} {p : List MemPlace}
set_option maxRecDepth 100000 in
theorem ints_of {t : TypeId} {fs : Array Field} (ht : Tryd.prog.underlying t = some (.struct fs)) (ha : AllI Tryd.prog t) (hval : Value.okWide Tryd.prog w r b0 t v) (h : DataW.Trod enc Tryd.prog w base spare held t v d p) :
    ∃ l : List Int, v = .agg (l.map (Value.int .i64)).toArray ∧ l.length = Tryd.prog.cellsOf t ∧ ∀ z ∈ l, I64 z := by
  obtain ⟨cs, rfl, hsz⟩ := okWide_struct ht hval
  obtain ⟨fuel, hf⟩ := h
  have hc := ha.all hf
  simp only [Value.cells] at hc
  have key : ∀ l : List Value, (∀ c ∈ l, ∃ z : Int, c = .int .i64 z ∧ I64 z) → ∃ zs : List Int, l = zs.map (Value.int .i64) ∧ ∀ z ∈ zs, I64 z := by
    intro l
    induction l with
    | nil => intro _; exact ⟨[], rfl, by simp⟩
    | cons a l ih =>
      intro hl
      obtain ⟨z, rfl, hz⟩ := hl a (by simp)
      obtain ⟨zs, rfl, hzs⟩ := ih fun c hc => hl c (by simp [hc])
      exact ⟨z :: zs, rfl, fun y hy => by
        rcases List.mem_cons.1 hy with rfl | hy
        · exact hz
        · exact hzs y hy⟩
  obtain ⟨zs, e, hz⟩ := key cs.toList hc
  have hcs : cs = (zs.map (Value.int .i64)).toArray := by rw [← e]
  refine ⟨zs, by rw [hcs], ?_, hz⟩
  rw [← hsz, hcs]
  simp
set_option maxRecDepth 100000 in
theorem ints_of_Date (hval : Value.okWide Tryd.prog w r b0 35 v) (h : DataW.Trod enc Tryd.prog w base spare held 35 v d p) :
    ∃ x : Int × Int × Int, v = .agg #[.int .i64 x.1, .int .i64 x.2.1, .int .i64 x.2.2] ∧ True := by
  obtain ⟨l, rfl, hl, _⟩ := ints_of Tryd.underlying35 allI_Date hval h
  rw [show Tryd.prog.cellsOf 35 = 3 by kernel_rfl] at hl
  match l, hl with
  | [a, b, c], _ => exact ⟨(a, b, c), rfl, trivial⟩
set_option maxRecDepth 100000 in
theorem ints_of_Clock (hval : Value.okWide Tryd.prog w r b0 36 v) (h : DataW.Trod enc Tryd.prog w base spare held 36 v d p) :
    ∃ x : Int × Int × Int × Int, v = .agg #[.int .i64 x.1, .int .i64 x.2.1, .int .i64 x.2.2.1, .int .i64 x.2.2.2] ∧ True := by
  obtain ⟨l, rfl, hl, _⟩ := ints_of Tryd.underlying36 allI_Clock hval h
  rw [show Tryd.prog.cellsOf 36 = 4 by kernel_rfl] at hl
  match l, hl with
  | [a, b, c, d], _ => exact ⟨(a, b, c, d), rfl, trivial⟩
set_option maxRecDepth 100000 in
theorem allI_Stamp : AllI Tryd.prog 38 := AllI.struct Tryd.underlying38 (fields_on (l := [35, 36, 3]) (by kernel_rfl) (by intro t ht; simp only [List.mem_cons, List.not_mem_nil, or_false] at ht; rcases ht with rfl | rfl | rfl; exact allI_Date; exact allI_Clock; exact allI_int)) (by kernel_rfl)
set_option maxRecDepth 100000 in
theorem ints_of_Stamp (hval : Value.okWide Tryd.prog w r b0 38 v) (h : DataW.Trod enc Tryd.prog w base spare held 38 v d p) :
    ∃ x : S8, v = .agg x.v ∧ True := by
  obtain ⟨l, rfl, hl, _⟩ := ints_of Tryd.underlying38 allI_Stamp hval h
  rw [show Tryd.prog.cellsOf 38 = 8 by kernel_rfl] at hl
  match l, hl with
  | [a, b, c, d, e, f, g, h'], _ => exact ⟨⟨a, b, c, d, e, f, g, h'⟩, rfl, trivial⟩
set_option maxRecDepth 100000 in
theorem allI_Period : AllI Tryd.prog 40 := AllI.struct Tryd.underlying40 (fields_on (l := [3]) (by kernel_rfl) (by intro t ht; simp only [List.mem_cons, List.not_mem_nil, or_false] at ht; subst ht; exact allI_int)) (by kernel_rfl)
set_option maxRecDepth 100000 in
theorem allI_Repeat : AllI Tryd.prog 42 := AllI.struct Tryd.underlying42 (fields_on (l := [38, 40, 3]) (by kernel_rfl) (by intro t ht; simp only [List.mem_cons, List.not_mem_nil, or_false] at ht; rcases ht with rfl | rfl | rfl; exact allI_Stamp; exact allI_Period; exact allI_int)) (by kernel_rfl)
set_option maxRecDepth 100000 in
theorem ints_of_Repeat (hval : Value.okWide Tryd.prog w r b0 42 v) (h : DataW.Trod enc Tryd.prog w base spare held 42 v d p) :
    ∃ x : S8 × (Int × Int × Int × Int × Int × Int) × Int, v = .agg #[.int .i64 x.1.y, .int .i64 x.1.mo, .int .i64 x.1.d, .int .i64 x.1.h, .int .i64 x.1.mi, .int .i64 x.1.s, .int .i64 x.1.ms, .int .i64 x.1.o, .int .i64 x.2.1.1, .int .i64 x.2.1.2.1, .int .i64 x.2.1.2.2.1, .int .i64 x.2.1.2.2.2.1, .int .i64 x.2.1.2.2.2.2.1, .int .i64 x.2.1.2.2.2.2.2, .int .i64 x.2.2] ∧ True := by
  obtain ⟨l, rfl, hl, _⟩ := ints_of Tryd.underlying42 allI_Repeat hval h
  rw [show Tryd.prog.cellsOf 42 = 15 by kernel_rfl] at hl
  match l, hl with
  | [a, b, c, d, e, f, g, h', p1, p2, p3, p4, p5, p6, n], _ => exact ⟨(⟨a, b, c, d, e, f, g, h'⟩, (p1, p2, p3, p4, p5, p6), n), rfl, trivial⟩
end
end Go.Proofs.YtinemkjoohgmjaaDoor
