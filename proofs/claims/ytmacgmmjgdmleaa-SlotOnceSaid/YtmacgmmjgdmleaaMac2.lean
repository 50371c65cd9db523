/-
  The seal's Mac, the program's: the whole.
-/
import Derived.Test.YtmacgmmjgdmleaaMac1
namespace Go.Proofs.Ytmacgmmjgdmleaa
open Go Go.RowKit
set_option linter.unusedSimpArgs false
set_option linter.unusedVariables false

section
variable {P : Program} {ops : Array Oper} {rest : List Oper} {o : Oper} {a : Act} {Q : Exit → Act → World → Prop} {t e : TypeId} {z : Value} {sz by_ : Nat}
/-- 'copy(row, s)', all of s, whatever s. -/
theorem copy_all {W : World} (hg : Region.wanted o (yielded ops a.tmps) = true) (d s : Operand) (dT sT : TypeId)
    (ho : o.op = .call { callee := .builtin .copy, args := #[d, s], argTypes := #[dT, sT] }) (hu : P.underlying dT = some (.slice e)) (hsz : (P.info? e).map (·.size) = some 1)
    (g dLen dCap : Nat) (ao : Option Addr) (sLen sCap : Nat) (hd : a.eval d = .slice (some ⟨g, 0, none⟩) dLen dCap) (hs : a.eval s = .slice ao sLen sCap)
    (cur : Array Value) (T : TypeId) (hb : W.heap[g]? = some (.cells cur T (0, 0))) (cs : List Value) (hsl : Sl W 1 ao sLen sCap cs) (hle : sLen ≤ dLen) (hfit : dLen ≤ cur.size) (h1 : ∀ v ∈ cs, v.oneCell' = true)
    (h : ∀ w', w'.heap[g]? = some (.cells (cs ++ cur.toList.drop cs.length).toArray T (0, 0)) → Keep (· = g) W w' → wpList P ops Q rest (a.put o.dst (goInt cs.length)) w') : wpList P ops Q (o :: rest) a W := by
  have hlen : cs.length = sLen := by have := hsl.len; omega
  rcases ao with _ | ad
  · have h0 := hsl.nil rfl
    have h2 := hsl.cap
    obtain rfl : sLen = 0 := by omega
    obtain rfl : cs = [] := List.eq_nil_of_length_eq_zero hlen
    refine wpL hg fun K hK => ?_
    obtain ⟨i, hi, hi1⟩ : ∃ i, P.info? e = some i ∧ i.size = 1 := by
      cases hx : P.info? e with
      | none => rw [hx] at hsz; cases hsz
      | some i => rw [hx] at hsz; exact ⟨i, rfl, by simpa using hsz⟩
    have hrun : (Builtin.copy_ #[dT, sT] o.type #[.slice (some ⟨g, 0, none⟩) dLen dCap, .slice none 0 sCap]).run P W = .ok (goInt 0) W := by
      simp [Builtin.copy_, Builtin.lenOf, Builtin.firstCells, run_underlying hu, Sem.run_bind, Result.andThen, sizeOf, typeInfo, hi, hi1, storeCells]
    unfold Oper.wp
    simp [execOp, ho, resolve, invoke, builtin, hd, hs, hrun, Result.andThen]
    exact hK _ _ (h W (by simpa using hb) Keep.refl)
  · refine copy_row hg d s dT sT ho hu hsz g 0 dLen dCap ad sLen sCap hd hs cur T hb cs (by rw [hlen]; exact (Nat.min_eq_left hle).symm) (fun j v hj => hsl.cell ad rfl j v hj) (by omega) h1 ?_
    intro w' hb' hk'
    refine h w' ?_ hk'
    simpa using hb'
end
theorem kblk_bv (k : List UInt8) (hk : k.length ≤ 64) : (bv k ++ (bv (List.replicate 64 (0 : UInt8))).toArray.toList.drop (bv k).length).toArray = (bv (k ++ List.replicate (64 - k.length) 0)).toArray := by
  rw [List.toList_toArray, bv_drop, bv_length, bv_append, List.drop_replicate]
def MacOf (w : World) (l : List UInt8) (e : Ending) (w' : World) : Prop := e = .returned (.agg (bv l).toArray) ∧ Same w w'
/-- A key, as it is taken. -/
def Sha.keyOf (key : List UInt8) : List UInt8 := if 64 < key.length then Sha.sum key else key
theorem Sha.keyOf_le (key : List UInt8) : (Sha.keyOf key).length ≤ 64 := by
  unfold Sha.keyOf
  split
  · rw [Sha.sum_length]
    omega
  · omega
theorem Sha.kblk_eq (key : List UInt8) : Sha.kblk key = Sha.keyOf key ++ List.replicate (64 - (Sha.keyOf key).length) 0 := rfl
theorem Sha.mac_eq (key b : List UInt8) : Sha.mac key b = Sha.sum (Sha.xorl (Sha.kblk key) 0x5c ++ Sha.sum (Sha.xorl (Sha.kblk key) 0x36 ++ b)) := rfl
end Go.Proofs.Ytmacgmmjgdmleaa
