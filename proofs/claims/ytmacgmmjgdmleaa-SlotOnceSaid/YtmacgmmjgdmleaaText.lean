/-
  The digest's Text.
-/
import Derived.Test.YtmacgmmjgdmleaaSha5
import Derived.Test.YtmacgmmjgdmleaaTails
import Derived.ChangeKeysEq
namespace Go.Proofs.Ytmacgmmjgdmleaa
open Go Go.RowKit
set_option linter.unusedSimpArgs false
set_option linter.unusedVariables false

/-- A half byte's digit. -/
def Sha.hexd (n : Nat) : UInt8 := if n < 10 then UInt8.ofNat (48 + n) else UInt8.ofNat (87 + n)
def Sha.text (l : List UInt8) : List UInt8 := l.flatMap fun b => [Sha.hexd (b.toNat / 16), Sha.hexd (b.toNat % 16)]
theorem Sha.text_abc : Sha.text (Sha.sum [97, 98, 99]) = [98, 97, 55, 56, 49, 54, 98, 102, 56, 102, 48, 49, 99, 102, 101, 97, 52, 49, 52, 49, 52, 48, 100, 101, 53, 100, 97, 101, 50, 50, 50, 51, 98, 48, 48, 51, 54, 49, 97, 51, 57, 54, 49, 55, 55, 97, 57, 99, 98, 52, 49, 48, 102, 102, 54, 49, 102, 50, 48, 48, 49, 53, 97, 100] := by decide +kernel
theorem Sha.text_nil : Sha.text (Sha.sum []) = [101, 51, 98, 48, 99, 52, 52, 50, 57, 56, 102, 99, 49, 99, 49, 52, 57, 97, 102, 98, 102, 52, 99, 56, 57, 57, 54, 102, 98, 57, 50, 52, 50, 55, 97, 101, 52, 49, 101, 52, 54, 52, 57, 98, 57, 51, 52, 99, 97, 52, 57, 53, 57, 57, 49, 98, 55, 56, 53, 50, 98, 56, 53, 53] := by decide +kernel
theorem Sha.text_take (l : List UInt8) (k : Nat) (h : k < l.length) : Sha.text (l.take (k + 1)) = Sha.text (l.take k) ++ [Sha.hexd ((l.getD k 0).toNat / 16), Sha.hexd ((l.getD k 0).toNat % 16)] := by
  have e : l.take (k + 1) = l.take k ++ [l.getD k 0] := by
    rw [List.take_add_one]
    simp [List.getD, h]
  rw [e, Sha.text, List.flatMap_append]
  rfl
theorem Sha.text_length (l : List UInt8) : (Sha.text l).length = 2 * l.length := by
  induction l with
  | nil => rfl
  | cons b l ih =>
    simp only [Sha.text, List.flatMap_cons, List.length_append, List.length_cons, List.length_nil] at ih ⊢
    omega
theorem arr_index (l : List UInt8) (hl : l.length = 32) (k : Nat) (hk : k < 32) (w : World) : (Instr.index 28 (.agg (bv l).toArray) (.int .i64 (k : Int))).run Try.prog w = .ok (.int .u8 ((l.getD k 0).toNat : Int)) w := by
  have h1 : (bv l).toArray[k]? = some (.int .u8 ((l.getD k 0).toNat : Int)) := by
    have hk2 : k < l.length := by omega
    rw [List.getElem?_toArray, bv_get hk2]
    simp [List.getD, hk2]
  have h2 : (k : Int) < 32 := by omega
  have h3 := run_part_plain (P := Try.prog) (e := 5) (by kernel_rfl) (w := w) h1
  have h4 : (sizeOf 5).run Try.prog w = .ok 1 w := by kernel_rfl
  simp [Instr.index, run_underlying Try.underlying28, asIntOf, Sem.run_bind, Result.andThen, hk, h3, h4]
theorem hex_get : ∀ k : Nat, (h : k < 16) → ({ data := #[48, 49, 50, 51, 52, 53, 54, 55, 56, 57, 97, 98, 99, 100, 101, 102] } : ByteArray)[k].toNat = (Sha.hexd k).toNat := by
  intro k hk
  rcases k with _ | _ | _ | _ | _ | _ | _ | _ | _ | _ | _ | _ | _ | _ | _ | _ | k <;> first | omega | rfl
end Go.Proofs.Ytmacgmmjgdmleaa
