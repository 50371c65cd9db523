/-
  The document's keys (raddleref04): Derive, key, Sign, Check.
-/
import Derived.Test.YtmacgmmjgdmleaaSeal1
import Derived.Test.YtmacgmmjgdmleaaRMac
namespace Go.Proofs.Ytmacgmmjgdmleaa
open Go Go.RowKit
set_option linter.unusedSimpArgs false
set_option linter.unusedVariables false

/-- The document's keys, as a value. -/
abbrev rkeys (seed : ByteArray) (n : Int) : Value := .agg #[.string seed, .int .i64 n]
def Sha.rsign (seed : List UInt8) (n : Nat) (id : Int) (body : List UInt8) : List UInt8 × Nat :=
  if id < 0 ∨ (n : Int) ≤ id then (noTag, 2) else (Sha.tagOf seed id body, 0)
theorem Sha.rsign_length (seed : List UInt8) (n : Nat) (id : Int) (body : List UInt8) : (Sha.rsign seed n id body).1.length = 16 := by
  unfold Sha.rsign
  split
  · rfl
  · exact Sha.tagOf_length _ _ _
theorem Sha.rsign_eq (seed : List UInt8) (n : Nat) (id : Int) (body : List UInt8) (h : n ≠ 0) : Sha.sign seed n id body = Sha.rsign seed n id body := by rw [Sha.sign, if_neg h, Sha.rsign]
def Sha.rcheck (seed : List UInt8) (n : Nat) (id : Int) (body t : List UInt8) : Bool := decide ((Sha.rsign seed n id body).2 = 0) && ((Sha.rsign seed n id body).1 == t)
theorem Sha.rcheck_eq (seed : List UInt8) (n : Nat) (id : Int) (body t : List UInt8) (h : n ≠ 0) : Sha.check seed n id body t = Sha.rcheck seed n id body t := by rw [Sha.check, Sha.rsign_eq _ _ _ _ h, Sha.rcheck]
end Go.Proofs.Ytmacgmmjgdmleaa
