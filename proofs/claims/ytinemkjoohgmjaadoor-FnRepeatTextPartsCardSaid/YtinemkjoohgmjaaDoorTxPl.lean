/- Texts, in plain lists of bytes. -/
import Derived.Test.YtinemkjoohgmjaaDoorStPl
import Derived.Test.YtinemkjoohgmjaaDoorSh
namespace Go.Proofs.YtinemkjoohgmjaaDoor

/-- A string of these bytes. -/
def S (l : List UInt8) : ByteArray := ⟨l.toArray⟩
theorem S_mk (l : List UInt8) : ByteArray.mk l.toArray = S l := rfl
theorem S_size (l : List UInt8) : (S l).size = l.length := by simp [S, ByteArray.size]
theorem S_app (a b : List UInt8) : S a ++ S b = S (a ++ b) := ByteArray.mk_append_mk a b
theorem S_inj {a b : List UInt8} : S a = S b ↔ a = b := ⟨fun h => by
  have := congrArg (fun x : ByteArray => x.data.toList) h
  simpa [S] using this, fun h => by rw [h]⟩
/-- The last digit of a number. -/
def dg (n : Int) : UInt8 := UInt8.ofNat (48 + (n % 10).toNat)
theorem dg_val (n : Int) : ((dg n).toNat : Int) = 48 + n % 10 := by
  have h1 := Int.emod_nonneg n (show (10 : Int) ≠ 0 by decide)
  have h2 := Int.emod_lt_of_pos n (show (0 : Int) < 10 by decide)
  unfold dg
  rw [UInt8.toNat_ofNat']
  omega
def p1 (n : Int) : List UInt8 := [dg n]
def p2 (n : Int) : List UInt8 := [dg (n / 10), dg n]
def p3 (n : Int) : List UInt8 := [dg (n / 100), dg (n / 10), dg n]
def p4 (n : Int) : List UInt8 := [dg (n / 1000), dg (n / 100), dg (n / 10), dg n]
theorem p1_len (n : Int) : (p1 n).length = 1 := rfl
theorem p2_len (n : Int) : (p2 n).length = 2 := rfl
theorem p3_len (n : Int) : (p3 n).length = 3 := rfl
theorem p4_len (n : Int) : (p4 n).length = 4 := rfl
end Go.Proofs.YtinemkjoohgmjaaDoor
