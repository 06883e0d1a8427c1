/- Facts of the whole program that each law's frame asks. -/
import Derived.Test.YtakccgajnmkplaaRows
import Derived.ProofKit
import Derived.JoinedOf
namespace Go.Proofs.Ytakccgajnmkplaa

theorem whole : (Try.prog.mayEnter && ((Rows.fnJoinRow.lifted == Try.prog.liftsFinal) && (Try.prog.make == some Rows.fnJoinRow.make))) = true := by kernel_rfl
theorem whole1 : Try.prog.mayEnter = true := (Bool.and_eq_true_iff.1 whole).1
theorem whole2 : (Rows.fnJoinRow.lifted == Try.prog.liftsFinal) = true := (Bool.and_eq_true_iff.1 (Bool.and_eq_true_iff.1 whole).2).1
theorem whole3 : (Try.prog.make == some Rows.fnJoinRow.make) = true := (Bool.and_eq_true_iff.1 (Bool.and_eq_true_iff.1 whole).2).2
theorem band {a b : Bool} (h : a = true) (k : b = true) : (a && b) = true := by rw [h, k]; rfl
end Go.Proofs.Ytakccgajnmkplaa
