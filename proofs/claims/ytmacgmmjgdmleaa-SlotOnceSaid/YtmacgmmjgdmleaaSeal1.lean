/-
  The seal's keys, the program's: Derive, Len, Sign, Check.
-/
import Derived.Test.YtmacgmmjgdmleaaMac2
import Derived.Test.YtmacgmmjgdmleaaEq
import Derived.Test.YtmacgmmjgdmleaaMut
import Derived.Test.YtmacgmmjgdmleaaRes
import Derived.Deep.DeepCutAuto
namespace Go.Proofs.Ytmacgmmjgdmleaa
open Go Go.RowKit
set_option linter.unusedSimpArgs false
set_option linter.unusedVariables false

section
variable {P : Program} {ops : Array Oper} {rest : List Oper} {o : Oper} {a : Act} {Q : Exit → Act → World → Prop} {e : TypeId}
/-- '[]byte(s)'. -/
theorem conv_bytes {W : World} {s : ByteArray} {src dst : TypeId} (hg : Region.wanted o (yielded ops a.tmps) = true) (x : Operand) (ho : o.op = .convert src dst x) (hs : P.underlying src = some .string) (ht : P.underlying dst = some (.slice e)) (he : P.underlying e = some (.int .u8))
    (hx : a.eval x = .string s) (hm : s.size ≤ maxLen)
    (h : ∀ ao c w', Sl w' 1 ao s.size c (bv s.data.toList) → Same W w' → wpList P ops Q rest (a.put o.dst (.slice ao s.size c)) w') : wpList P ops Q (o :: rest) a W := by
  refine wpL hg fun K hK => ?_
  unfold Oper.wp execOp
  simp only [ho, Sem.run_bind, Sem.run_pure, Result.andThen_ok, hx, Lib.run_convert_string_bytes W src dst e s hs ht he]
  refine hK _ _ (h _ _ _ ⟨by rw [bv_length, Nat.mul_one]; simp, grownCap_ge _ _ _ _, grownCap_le_maxLen _ _ _ _ hm, (fun e => by cases e), ?_⟩ ⟨rfl, rfl, rfl, by rw [Lib.bytesWorld_size]; omega, fun k hk => Lib.bytesWorld_at_old W e s k hk⟩)
  intro b hb j u hu
  injection hb with hb
  subst hb
  have hj : j < s.size := by
    have := (List.getElem?_eq_some_iff.1 hu).1
    rw [bv_length] at this
    simpa using this
  have hj2 : j < s.data.toList.length := by simpa using hj
  rw [add0, Lib.bytesWorld_cell W e s j hj]
  rw [bv_get hj2] at hu
  injection hu with hu
  rw [← hu]
  congr 2
  simp only [List.getD, List.getElem?_eq_getElem hj2, Option.getD_some]
end
/-- What identity id's key is made of. -/
def Sha.idKey (seed : List UInt8) (id : Int) : List UInt8 := Sha.sum (Num.putT seed ++ Num.putI id)
def Sha.tagOf (seed : List UInt8) (id : Int) (body : List UInt8) : List UInt8 := (Sha.mac (Sha.idKey seed id) body).take 16
def noTag : List UInt8 := List.replicate 16 0
/-- The tag and the error's number. -/
def Sha.sign (seed : List UInt8) (n : Nat) (id : Int) (body : List UInt8) : List UInt8 × Nat :=
  if n = 0 then (noTag, 1) else if id < 0 ∨ (n : Int) ≤ id then (noTag, 2) else (Sha.tagOf seed id body, 0)
theorem Sha.idKey_length (seed : List UInt8) (id : Int) : (Sha.idKey seed id).length = 32 := Sha.sum_length _
theorem Sha.mac_length (key b : List UInt8) : (Sha.mac key b).length = 32 := by rw [Sha.mac_eq, Sha.sum_length]
theorem Sha.tagOf_length (seed : List UInt8) (id : Int) (body : List UInt8) : (Sha.tagOf seed id body).length = 16 := by rw [Sha.tagOf, List.length_take, Sha.mac_length]; rfl
theorem noTag_length : noTag.length = 16 := rfl
theorem Sha.sign_length (seed : List UInt8) (n : Nat) (id : Int) (body : List UInt8) : (Sha.sign seed n id body).1.length = 16 := by
  unfold Sha.sign
  split
  · rfl
  · split
    · rfl
    · exact Sha.tagOf_length _ _ _
theorem Sha.tagOf_eq (seed : List UInt8) (id : Int) (body : List UInt8) : Sha.tagOf seed id body = (Sha.mac (Sha.idKey seed id) body).take 16 := rfl
theorem Sha.idKey_eq (seed : List UInt8) (id : Int) : Sha.idKey seed id = Sha.sum (Num.putT seed ++ Num.putI id) := rfl
theorem tag_info {l : List UInt8} (hl : l.length = 16) : (Try.prog.info? 88).map (·.size) = some (bv l).toArray.size := by
  rw [List.size_toArray, bv_length, hl]
  kernel_rfl
/-- A tag and an error. -/
def RetTag (w : World) (x : List UInt8 × Nat) (e : Ending) (w' : World) : Prop := e = .returned (.tuple #[.agg (bv x.1).toArray, .int .i64 (x.2 : Int)]) ∧ Same w w'
/-- Is it the tag? -/
def Sha.check (seed : List UInt8) (n : Nat) (id : Int) (body t : List UInt8) : Bool := decide ((Sha.sign seed n id body).2 = 0) && ((Sha.sign seed n id body).1 == t)
end Go.Proofs.Ytmacgmmjgdmleaa
