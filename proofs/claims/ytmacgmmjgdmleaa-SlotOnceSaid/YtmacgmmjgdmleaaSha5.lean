/-
  The digest's begun, end, Sum, Chain.
-/
import Derived.Test.YtmacgmmjgdmleaaSha4
namespace Go.Proofs.Ytmacgmmjgdmleaa
open Go Go.RowKit
set_option linter.unusedSimpArgs false
set_option linter.unusedVariables false

section
variable {P : Program} {ops : Array Oper} {rest : List Oper} {o : Oper} {a : Act} {Q : Exit → Act → World → Prop}
/-- A whole value put into a block of its own. -/
theorem box_row {W : World} (hg : Region.wanted o (yielded ops a.tmps) = true) (ty : TypeId) (x : Operand) (ho : o.op = .box ty x) (cells : Array Value) (hx : a.eval x = .agg cells) (hi : (P.info? ty).map (·.size) = some cells.size)
    (h : ∀ w', w'.heap[W.heap.size]? = some (.cells cells ty (0, 0)) → Same W w' → wpList P ops Q rest (a.put o.dst (.pointer (some ⟨W.heap.size, 0, none⟩))) w') : wpList P ops Q (o :: rest) a W := by
  refine wpL hg fun K hK => ?_
  unfold Oper.wp execOp
  simp only [ho, hx, Sem.run_bind, Instr.box, newVar, newRow, run_newObj_alloc, Sem.run_pure, Result.andThen_ok, Value.cells]
  exact hK _ _ (h _ (heap_alloc_new _ _) (Same.alloc Same.refl _))
/-- A new variable, told by its cells. -/
theorem alloc_new {W : World} (hg : Region.wanted o (yielded ops a.tmps) = true) (ty : TypeId) (_ho : o.op = .alloc ty) (cells : Array Value) (hr : (execOp a.eval o).run P W = .ok (.value (.pointer (some ⟨W.heap.size, 0, none⟩))) (W.alloc (.cells cells ty)))
    (h : ∀ w', w'.heap[W.heap.size]? = some (.cells cells ty (0, 0)) → Same W w' → wpList P ops Q rest (a.put o.dst (.pointer (some ⟨W.heap.size, 0, none⟩))) w') : wpList P ops Q (o :: rest) a W := by
  refine wpL hg fun K hK => ?_
  unfold Oper.wp
  rw [hr]
  exact hK _ _ (h _ (heap_alloc_new _ _) (Same.alloc Same.refl _))
/-- A new row of known length, told by its cells. -/
theorem make_new {W : World} (hg : Region.wanted o (yielded ops a.tmps) = true) (t e : TypeId) (l c : Operand) (_ho : o.op = Op.makeSlice t l c) (n : Nat) (cells : Array Value) (hr : (execOp a.eval o).run P W = .ok (.value (.slice (some ⟨W.heap.size, 0, none⟩) n n)) (W.alloc (.cells cells e)))
    (h : ∀ w', w'.heap[W.heap.size]? = some (.cells cells e (0, 0)) → Same W w' → wpList P ops Q rest (a.put o.dst (.slice (some ⟨W.heap.size, 0, none⟩) n n)) w') : wpList P ops Q (o :: rest) a W := by
  refine wpL hg fun K hK => ?_
  unfold Oper.wp
  rw [hr]
  exact hK _ _ (h _ (heap_alloc_new _ _) (Same.alloc Same.refl _))
end
/-- Bytes that are known, zeros behind them. -/
def fillb (l : List UInt8) (n : Nat) : List UInt8 := l ++ List.replicate (n - l.length) 0
theorem fillb_length (l : List UInt8) (n : Nat) (h : l.length ≤ n) : (fillb l n).length = n := by simp [fillb]; omega
theorem fillb_set (l : List UInt8) (n : Nat) (x : UInt8) (h : l.length < n) : (bv (fillb l n)).toArray.setIfInBounds l.length (.int .u8 (x.toNat : Int)) = (bv (fillb (l ++ [x]) n)).toArray := by
  have e : List.replicate (n - l.length) (0 : UInt8) = 0 :: List.replicate (n - (l.length + 1)) 0 := by
    rw [← List.replicate_succ]
    congr 1
    omega
  simp [fillb, bv, e, List.set_append]
theorem fillb_full (l : List UInt8) (n : Nat) (h : l.length = n) : fillb l n = l := by simp [fillb, h]
theorem fillb_nil (n : Nat) : fillb [] n = List.replicate n 0 := by simp [fillb]
def gen (f : Nat → UInt8) (k : Nat) : List UInt8 := (List.range k).map f
theorem gen_length (f : Nat → UInt8) (k : Nat) : (gen f k).length = k := by simp [gen]
theorem gen_succ (f : Nat → UInt8) (k : Nat) : gen f (k + 1) = gen f k ++ [f k] := by simp [gen, List.range_succ]
theorem be8_gen (n : Nat) : Sha.be8 n = gen (fun i => UInt8.ofNat (n / 2 ^ (56 - 8 * i))) 8 := rfl
theorem bytesOf_gen (s : Sha.S8) : Sha.bytesOf s = gen (Sha.byteOf s) 32 := rfl
set_option maxRecDepth 100000 in
set_option maxHeartbeats 400000 in
theorem begun_any (w : World) : Calls Try.prog 177 #[] w fun e w' => ∃ sb, e = .returned (.pointer (some ⟨sb, 0, none⟩)) ∧ w.heap.size ≤ sb ∧ Strm w' sb [] ∧ Same w w' := by
  have h0 : Sha.hash [] = Sha.begun := by rw [Sha.hash_eq]; exact Sha.fold_zero _ _
  replace h0 := Lib.hid h0
  go_enter Try.func177, Try.ntmps177
  go_wp2_with (first | (refine build_const (ty := 214) (.agg (uvs Sha.begun.list).toArray) rfl rfl (by kernel_rfl) ?_) | (refine build_const (ty := 254) (.agg (stm Sha.begun.list (List.replicate 64 0) 0).toArray) rfl rfl (by kernel_rfl) ?_) | (refine box_row rfl _ _ rfl _ rfl (by kernel_rfl) ?_; intro w2 hb2 hs2; replace hb2 := Lib.hid hb2; replace hs2 := Lib.hid hs2))
  go_ret
  exact ⟨_, rfl, Nat.le_refl _, ⟨List.replicate 64 0, by rw [h0.out]; exact hb2.out, by simp, by simp⟩, hs2.out⟩
end Go.Proofs.Ytmacgmmjgdmleaa
