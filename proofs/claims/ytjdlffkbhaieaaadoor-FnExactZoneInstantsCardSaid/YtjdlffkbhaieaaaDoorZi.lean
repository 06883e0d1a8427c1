/- Contracts: all offsets of a zone, the instants of a local time (the reference's). -/
import Derived.Test.YtjdlffkbhaieaaaDoorZn3
import Derived.Test.YtjdlffkbhaieaaaDoorZn4
import Derived.Test.YtjdlffkbhaieaaaDoorSt3
import Derived.Test.YtjdlffkbhaieaaaDoorGz
import Derived.Deep.AppendLies
namespace Go.Proofs.YtjdlffkbhaieaaaDoor
open Go.RowKit
attribute [local go_sem] lt_cell

/-- The cells of a list of numbers. -/
def flatI (l : List Int) : List Value := l.map (Value.int .i64)
theorem flatI_len (l : List Int) : (flatI l).length = l.length := by simp [flatI]
theorem flatI_app (a b : List Int) : flatI (a ++ b) = flatI a ++ flatI b := by simp [flatI]
theorem flatI_one' (l : List Int) : ∀ u ∈ flatI l, u.oneCell' = true := by
  intro u hu
  unfold flatI at hu
  simp only [List.mem_map] at hu
  obtain ⟨z, _, rfl⟩ := hu
  rfl
theorem flatI_get (l : List Int) (i : Nat) (h : i < l.length) : (flatI l)[i]? = some (.int .i64 (l.getD i 0)) := by simp [flatI, List.getD, h]
theorem info_int : (Tryd.prog.info? 3).map (fun i => (i.zero, i.size, i.bytes)) = some (some (.int .i64 0), 1, 8) := by kernel_rfl
theorem info_int' : ∃ i, Tryd.prog.info? 3 = some i ∧ i.zero = some (.int .i64 0) ∧ i.size = 1 ∧ i.bytes = 8 := by
  have h := info_int
  cases e : Tryd.prog.info? 3 with
  | none => rw [e] at h; simp at h
  | some i => rw [e] at h; simp at h; exact ⟨i, rfl, h⟩
theorem news1e (w : World) (x : Value) (T : TypeId) (H : Nat) (e : w.heap.size = H) : ∀ j u, [x][j]? = some u → (w.alloc (.cells #[x] T)).cell? ((⟨H, 0, none⟩ : Addr).add j) = some u := by
  subst e
  intro j u hj
  rcases j with _ | j
  · simp at hj; subst hj; exact World.cell?_alloc_new w #[x] T 0
  · simp at hj
theorem int_one (a : Int) : ∀ u ∈ [Value.int .i64 a], u.oneCell' = true := by
  intro u hu
  simp at hu
  subst hu
  rfl
/-- A new slice of numbers. -/
def MadeI (l : List Int) (w : World) (e : Ending) (w' : World) : Prop :=
  ∃ g cap : Nat, e = .returned (.slice (some ⟨g, 0, none⟩) l.length cap) ∧ w'.ownsRow w.heap.size 3 1 (.slice (some ⟨g, 0, none⟩) l.length cap) l.length (flatI l) ∧ Below w.heap.size w w'
theorem offs_take {o : Int} {l : List R2} {k : Nat} {x y : Int} (hk : k < l.length) (h : l.getD k (0, 0) = (x, y)) : offs o (l.take (k + 1)) = offs o (l.take k) ++ [y] := by
  have e : l[k] = (x, y) := by rw [← h]; simp [List.getD, hk]
  unfold offs
  rw [List.take_succ_eq_append_getElem hk, e]
  simp

set_option maxHeartbeats 2000000 in
theorem l22Offsets_any (o : Int) (l : List R2) (len cap B : Nat) (A : Option Addr) (w : World) (hl : l.length = len) (hP : Prs B w A l) (hB : B ≤ w.heap.size) (hm : len ≤ 1048576) :
    Calls Tryd.prog 62 #[.agg #[.int .i64 o, .slice A len cap]] w (MadeI (offs o l) w) := by
  obtain ⟨i0, hi, hz0, hz1, hz2⟩ := info_int'
  have HL := hide hl
  have HV := hide hP.view
  have hs : len = 0 ∨ ∃ b o, A = some ⟨b, o, none⟩ := by
    rcases hP.view with h | ⟨b, o, h, _⟩
    · exact .inl (by omega)
    · exact .inr ⟨b, o, h⟩
  clear hP hl
  have main : ∀ A' : Option Addr, A' = A → (len = 0 ∨ ∃ b o, A' = some ⟨b, o, none⟩) → Calls Tryd.prog 62 #[.agg #[.int .i64 o, .slice A' len cap]] w (MadeI (offs o l) w) := by
    intro A' hA' hs
    have HA := hide hA'
    clear hA'
    go_enter Tryd.func62, Tryd.ntmps62
    go_wp2_with fail
    have hx0 := hide ((Blk.new w 36 #[.int .i64 o, .slice A' len cap]).alloc (.cells #[.int .i64 o] 3))
    have hb0 := bal (bal (Below.refl w.heap.size w) (.cells #[.int .i64 o, .slice A' len cap] 36)) (.cells #[.int .i64 o] 3)
    have ho0 : ((w.alloc (.cells #[.int .i64 o, .slice A' len cap] 36)).alloc (.cells #[.int .i64 o] 3)).ownsRow (w.heap.size + 1) 3 1 (.slice (some ⟨w.heap.size + 1, 0, none⟩) 1 1) 1 (flatI (offs o (l.take 0))) := by
      have := World.ownsRow_lit (base := w.heap.size + 1) (size := 1) (e := 3) (w.alloc (.cells #[.int .i64 o, .slice A' len cap] 36)) #[.int .i64 o] 1 (by simp) (by simp [maxLen]) (by simp)
      simpa [offs, flatI] using this
    have HO := hide ho0
    clear ho0
    go_loopw [3, 4] (fun u i wr => ∃ (k b c : Nat), k ≤ len ∧ i = .int .i64 k ∧ u = .slice (some ⟨b, 0, none⟩) (k + 1) c ∧ Hid (wr.ownsRow (w.heap.size + 1) 3 1 (.slice (some ⟨b, 0, none⟩) (k + 1) c) (k + 1) (flatI (offs o (l.take k)))) ∧ Hid (Blk wr w.heap.size 36 #[.int .i64 o, .slice A' len cap]) ∧ Below w.heap.size w wr) (fun _ i _ => len - (intOf i).toNat)
    case atStart => exact ⟨0, w.heap.size + 1, 1, by omega, rfl, rfl, HO, hx0, hb0⟩
    case round =>
      obtain ⟨k, b, c, hk, rfl, rfl, hO, hX, hb⟩ := hrel
      have hsz := hb.size
      have x0 := hX.out.cell 0
      have x1 := hX.out.cell 1
      have xl := hX.out.lt
      simp at x0 x1
      by_cases hlt : k < len
      · rcases hs with hs | ⟨b0, o0, rfl⟩
        · omega
        have hcs : ∀ i, i < l.length → b0 < B ∧ w.cell? ⟨b0, o0 + i * 2, none⟩ = some (.int .i64 (l.getD i (0, 0)).1) ∧ w.cell? ⟨b0, o0 + i * 2 + 1, none⟩ = some (.int .i64 (l.getD i (0, 0)).2) := by
          rcases HV.out with h | ⟨b1, o1, e1, h1, h2⟩
          · intro i hi; omega
          · rw [← HA.out] at e1
            cases e1
            exact fun i hi => ⟨h1, h2 i hi⟩
        obtain ⟨x, y, hxy⟩ := pair_ex l k
        obtain ⟨hbB, c0, c1⟩ := hcs k (by rw [HL.out]; exact hlt)
        rw [hxy] at c0 c1
        have hbw : b0 < w.heap.size := by omega
        replace c0 := (hb.cell (p := ⟨b0, o0 + k * 2, none⟩) hbw).trans c0
        replace c1 := (hb.cell (p := ⟨b0, o0 + k * 2 + 1, none⟩) hbw).trans c1
        have HT := hide (offs_take (o := o) (by rw [HL.out]; exact hlt) hxy)
        have hbb := hO.out.lt b rfl
        have n1 : b0 < wr.heap.size := by omega
        clear hcs hxy
        have hO1 := hO.out.alloc (.cells #[.int .i64 y] 3)
        have hh : w.heap.size + 1 ≤ (wr.alloc (.cells #[.int .i64 y] 3)).heap.size := by simp; omega
        go_wp2_with (at_builtin; refine wpList_append_lies _ rfl _ _ _ rfl (w.heap.size + 1) 3 i0 (.int .i64 0) 1 8 Tryd.underlying50 hi hz0 hz1 hz2 rfl (by omega) _ (k + 1) (flatI (offs o (l.take k))) rfl hO1 ⟨wr.heap.size, 0, none⟩ 1 1 [.int .i64 y] rfl rfl (news1e _ _ _ _ rfl) (int_one _) (by omega) (by unfold maxLen; omega) (by omega) hh _ rfl ?_; intro b' cap' w3 hown' hgrow' hat' hlt')
        have hg3 : (wr.alloc (.cells #[.int .i64 y] 3)).grownBy w3 (some b) := hgrow'
        have hX3 := hide ((hX.out.alloc (.cells #[.int .i64 y] 3)).grown' hg3 (by omega))
        have hb3 := bonly (bal hb (.cells #[.int .i64 y] 3)) hg3 (by omega)
        have hO3 := hide hown'
        clear hown' hgrow' hat' hO1 c0 c1 x0 x1
        go_wp2
        go_roundw
        case rel =>
          refine ⟨k + 1, b', cap', by omega, by go_num, rfl, ?_, hX3, hb3⟩
          have h3 := hO3.out
          rw [HT.out, flatI_app]
          exact hide h3
        case measure => simp [intOf]; omega
      · obtain rfl : k = len := by omega
        go_wp2
        go_ret
        have h3 := hO.out
        rw [List.take_of_length_le (by rw [HL.out]; omega)] at h3
        have e : (offs o l).length = k + 1 := by rw [offs_len, HL.out]
        refine ⟨b, c, by rw [e]; rfl, ?_, hb⟩
        rw [e]
        exact own_more h3 (by omega)
  exact main A rfl hs

/-- What stands while the reference's list is made. -/
structure Li (w0 w : World) (base zb b c ob oc : Nat) (o : Int) (l : List R2) (A : Option Addr) (len cap : Nat) (out : List Int) : Prop where
  Z : Blk w zb 36 #[.int .i64 o, .slice A len cap]
  O : w.ownsRow base 3 1 (.slice (some ⟨ob, 0, none⟩) (len + 1) oc) (len + 1) (flatI (offs o l))
  R : w.ownsRow base 3 1 (.slice (some ⟨b, 0, none⟩) out.length c) out.length (flatI out)
  G : Below w0.heap.size w0 w
  h0 : zb < base
  h1 : ob ≠ b
  h2 : w0.heap.size ≤ base
theorem segB_eq {l : List R2} {k len : Nat} {t : Int} (hl : l.length = len) : segB l k t = ((k == 0 || decide (tA l (k - 1) ≤ t)) && (k == len || decide (t < tA l k))) := by unfold segB; rw [hl]
end Go.Proofs.YtjdlffkbhaieaaaDoor
