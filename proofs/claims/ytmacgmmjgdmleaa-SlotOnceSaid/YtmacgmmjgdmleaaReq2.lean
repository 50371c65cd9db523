/-
  Requests: which are good, their bucket.
-/
import Derived.Test.YtmacgmmjgdmleaaReq1
import Derived.Test.YtmacgmmjgdmleaaDig1
namespace Go.Proofs.Ytmacgmmjgdmleaa
open Go Go.RowKit
set_option linter.unusedSimpArgs false
set_option linter.unusedVariables false

/-- The error's number. -/
def Req.good (seed : List UInt8) (N : Nat) (nodes clients : Int) (r : Req) : Nat :=
  if r.may clients = false then 60 else if nodes < 0 ∨ 64 < nodes ∨ (N : Int) ≤ r.client ∨ Sha.check seed N (nodes + r.client) (reqBody r) r.tag = false then 61 else 0
def Req.pgood (seed : List UInt8) (N : Nat) (nodes clients : Int) (r : Req) : Nat := if N = 0 then 1 else r.good seed N nodes clients
theorem Sha.check_far (seed : List UInt8) (n : Nat) (id : Int) (body t : List UInt8) (h : (n : Int) ≤ id) : Sha.check seed n id body t = false := by
  unfold Sha.check Sha.sign
  by_cases h0 : n = 0
  · rw [if_pos h0]; rfl
  · rw [if_neg h0, if_pos (.inr h)]; rfl
theorem Req.good_no {seed : List UInt8} {N : Nat} {nodes clients : Int} {r : Req} (h : r.may clients = false) : r.good seed N nodes clients = 60 := by rw [Req.good, if_pos h]
theorem Req.good_bad {seed : List UInt8} {N : Nat} {nodes clients : Int} {r : Req} (h : r.may clients = true) (h2 : nodes < 0 ∨ 64 < nodes ∨ (N : Int) ≤ r.client ∨ Sha.check seed N (nodes + r.client) (reqBody r) r.tag = false) : r.good seed N nodes clients = 61 := by rw [Req.good, if_neg (by simp [h]), if_pos h2]
theorem Req.good_ok {seed : List UInt8} {N : Nat} {nodes clients : Int} {r : Req} (h : r.may clients = true) (h2 : ¬ (nodes < 0 ∨ 64 < nodes ∨ (N : Int) ≤ r.client ∨ Sha.check seed N (nodes + r.client) (reqBody r) r.tag = false)) : r.good seed N nodes clients = 0 := by rw [Req.good, if_neg (by simp [h]), if_neg h2]
end Go.Proofs.Ytmacgmmjgdmleaa
