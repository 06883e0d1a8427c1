/- A send, a receive, in one goroutine, as laws of the walk: a region one of whose operations is a communication that need not wait. -/
import Derived.Test.YtdflacnegkgljaaDoorBase
import Derived.Conc.LoneCalls
import Derived.Conc.LoneSelectN
namespace Go.Proofs.YtdflacnegkgljaaDoor
open Go.RowKit Go.Conc

/-- The operations l of a region, from this state on, come to an exit of which Q holds. -/
def OpsTo (P : Program) (ops : Array Oper) (Q : Exit → Act → World → Prop) (l : List Nat) (a : Act) (w : World) : Prop :=
  ∀ (b : Frame) (k : List Item) (cs : List Frame), ∃ e a' w', Q e a' w' ∧ Arrives P (lone (b.at a (.inRegion ops l :: k)) cs w) b k cs e a' w'
section
variable {P : Program} {ops : Array Oper} {Q : Exit → Act → World → Prop} {l : List Nat} {a : Act} {w w' : World} {i : Nat} {rest : List Nat} {o : Oper}
theorem opsTo_wp (h : wpOps P ops Q l a w) : OpsTo P ops Q l a w := wp_ops l a w h
theorem wp_region_to {id : Nat} (h : OpsTo P ops Q (List.range ops.size) a w) : (Code.region id ops false).wp P Q a w :=
  fun b k cs => let ⟨e, a', w', q, r⟩ := h b k cs; ⟨e, a', w', q, .of_steps (.one step_region) r⟩
theorem opsTo_value {v : Value} (ho : ops[i]? = some o) (hw : Region.wanted o (yielded ops a.tmps) = true) (hr : (execOp a.eval o).run P w = .ok (.value v) w')
    (h : OpsTo P ops Q rest (a.put o.dst v) w') : OpsTo P ops Q (i :: rest) a w := by
  intro b k cs
  obtain ⟨e, a', w'', hq, harr⟩ := h b k cs
  refine ⟨e, a', w'', hq, .of_steps (.one (step_lone_go ?_)) harr⟩
  have hfin : (b.at a (.inRegion ops (i :: rest) :: k)).finish v = b.at (a.put o.dst v) (.inRegion ops rest :: k) := by
    rw [Frame.finish_at, ho]; rfl
  rw [Go.stepG_op ho hw, ← hfin]; simp [stepG.apply, hr]
theorem opsTo_skip (h' : ((ops[i]?).map (Region.wanted · (yielded ops a.tmps))).getD false = false) (h : OpsTo P ops Q rest (a.put ((ops[i]?).bind (·.dst)) undef) w) : OpsTo P ops Q (i :: rest) a w := by
  intro b k cs
  obtain ⟨e, a', w'', hq, harr⟩ := h b k cs
  exact ⟨e, a', w'', hq, .of_steps (.one (step_op_skip h')) harr⟩
theorem stepG_comm_any {b : Frame} {k : List Item} {cs : List Frame} {cases : Array CommCase} {blocking : Bool} {shape : CommShape} (ho : ops[i]? = some o) (hw : Region.wanted o (yielded ops a.tmps) = true)
    (hr : (execOp a.eval o).run P w = .ok (.comm cases blocking shape) w') :
    ∃ es, stepG P true (G (b.at a (.inRegion ops (i :: rest) :: k)) cs) w = .comm (G (b.at a (.inRegion ops (i :: rest) :: k)) cs) cases blocking shape w' es := by
  rw [Go.Conc.stepG_oper ho hw]
  simp [stepG.apply, hr, G, Frame.at, GStep.after]
theorem opsTo_send {c cap s r : Nat} {buf : Array Value} {v z : Value} {tm : Bool} (ho : ops[i]? = some o) (hw : Region.wanted o (yielded ops a.tmps) = true)
    (hr : (execOp a.eval o).run P w = .ok (.comm #[scase c v z] true .send) w) (hc : w.heap[c]? = some (.chan cap buf false s r tm)) (hroom : buf.size < cap)
    (h : OpsTo P ops Q rest (a.put o.dst undef) (w.setChan c cap (buf.push v) false (s + 1) r tm)) : OpsTo P ops Q (i :: rest) a w := by
  intro b k cs
  obtain ⟨e, a', w'', hq, harr⟩ := h b k cs
  refine ⟨e, a', w'', hq, .of_steps (.one ?_) harr⟩
  obtain ⟨es, hs⟩ := stepG_comm_any (P := P) (b := b) (k := k) (cs := cs) (rest := rest) ho hw hr
  have := step_lone_send_room hs hc hroom
  rw [Frame.finish_at, ho] at this
  exact this
theorem opsTo_recv {c cap s r : Nat} {buf : Array Value} {z : Value} {tm closed : Bool} (ok : Bool) (ho : ops[i]? = some o) (hw : Region.wanted o (yielded ops a.tmps) = true)
    (hr : (execOp a.eval o).run P w = .ok (.comm #[rcase c z] true (.recv ok)) w) (hc : w.heap[c]? = some (.chan cap buf closed s r tm)) (hsome : 0 < buf.size)
    (h : OpsTo P ops Q rest (a.put o.dst (got ok (buf.getD 0 undef) true)) (w.setChan c cap (buf.extract 1 buf.size) closed s (r + 1) tm)) : OpsTo P ops Q (i :: rest) a w := by
  intro b k cs
  obtain ⟨e, a', w'', hq, harr⟩ := h b k cs
  refine ⟨e, a', w'', hq, .of_steps (.one ?_) harr⟩
  obtain ⟨es, hs⟩ := stepG_comm_any (P := P) (b := b) (k := k) (cs := cs) (rest := rest) ho hw hr
  have := step_lone_recv_buf ok hs hc hsome
  rw [Frame.finish_at, ho] at this
  exact this
theorem opsTo_shut {c cap s r : Nat} {z : Value} {tm : Bool} (ok : Bool) (ho : ops[i]? = some o) (hw : Region.wanted o (yielded ops a.tmps) = true)
    (hr : (execOp a.eval o).run P w = .ok (.comm #[rcase c z] true (.recv ok)) w) (hc : w.heap[c]? = some (.chan cap #[] true s r tm))
    (h : OpsTo P ops Q rest (a.put o.dst (got ok z false)) w) : OpsTo P ops Q (i :: rest) a w := by
  intro b k cs
  obtain ⟨e, a', w'', hq, harr⟩ := h b k cs
  refine ⟨e, a', w'', hq, .of_steps (.one ?_) harr⟩
  obtain ⟨es, hs⟩ := stepG_comm_any (P := P) (b := b) (k := k) (cs := cs) (rest := rest) ho hw hr
  have := step_lone_recv_shut ok hs hc
  rw [Frame.finish_at, ho] at this
  exact this
end
end Go.Proofs.YtdflacnegkgljaaDoor
