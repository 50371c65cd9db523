/-
  New rows, told by their cells (as in Sha5, for seats without digests).
-/
import Derived.Test.YtkhloanpdehegaaDoorRes
import Derived.Test.YtkhloanpdehegaaDoorRef1
namespace Go.Proofs.YtkhloanpdehegaaDoor
open Go Go.RowKit
set_option linter.unusedSimpArgs false
set_option linter.unusedVariables false

section
variable {P : Program} {ops : Array Oper} {rest : List Oper} {o : Oper} {a : Act} {Q : Exit → Act → World → Prop}
/-- A whole value put into a block of its own. -/
theorem box_row {W : World} (hg : Region.wanted o (yielded ops a.tmps) = true) (ty : TypeId) (x : Operand) (ho : o.op = .box ty x) (cells : Array Value) (hx : a.eval x = .agg cells) (hi : (P.info? ty).map (·.size) = some cells.size)
    (h : ∀ w', w'.heap[W.heap.size]? = some (.cells cells ty (0, 0)) → Same W w' → wpList P ops Q rest (a.put o.dst (.pointer (some ⟨W.heap.size, 0, none⟩))) w') : wpList P ops Q (o :: rest) a W := by
  refine wpL hg fun K hK => ?_
  unfold Oper.wp execOp
  simp only [ho, hx, Sem.run_bind, Instr.box, newVar, newRow, run_newObj_alloc, Sem.run_pure, Result.andThen_ok, Value.cells]
  exact hK _ _ (h _ (heap_alloc_new _ _) (Same.alloc Same.refl _))
/-- A new variable, told by its cells. -/
theorem alloc_new {W : World} (hg : Region.wanted o (yielded ops a.tmps) = true) (ty : TypeId) (_ho : o.op = .alloc ty) (cells : Array Value) (hr : (execOp a.eval o).run P W = .ok (.value (.pointer (some ⟨W.heap.size, 0, none⟩))) (W.alloc (.cells cells ty)))
    (h : ∀ w', w'.heap[W.heap.size]? = some (.cells cells ty (0, 0)) → Same W w' → wpList P ops Q rest (a.put o.dst (.pointer (some ⟨W.heap.size, 0, none⟩))) w') : wpList P ops Q (o :: rest) a W := by
  refine wpL hg fun K hK => ?_
  unfold Oper.wp
  rw [hr]
  exact hK _ _ (h _ (heap_alloc_new _ _) (Same.alloc Same.refl _))
/-- A new row of known length, told by its cells. -/
theorem make_new {W : World} (hg : Region.wanted o (yielded ops a.tmps) = true) (t e : TypeId) (l c : Operand) (_ho : o.op = Op.makeSlice t l c) (n : Nat) (cells : Array Value) (hr : (execOp a.eval o).run P W = .ok (.value (.slice (some ⟨W.heap.size, 0, none⟩) n n)) (W.alloc (.cells cells e)))
    (h : ∀ w', w'.heap[W.heap.size]? = some (.cells cells e (0, 0)) → Same W w' → wpList P ops Q rest (a.put o.dst (.slice (some ⟨W.heap.size, 0, none⟩) n n)) w') : wpList P ops Q (o :: rest) a W := by
  refine wpL hg fun K hK => ?_
  unfold Oper.wp
  rw [hr]
  exact hK _ _ (h _ (heap_alloc_new _ _) (Same.alloc Same.refl _))
end
def isBn (n : Nat) (l : List UInt8) : Value → World → Prop := fun v w => ∃ ao c, v = .slice ao n c ∧ Sl w 1 ao n c (bv l)
theorem isBn_stable (n : Nat) (l : List UInt8) : Stable Same (isBn n l) := fun _ _ _ k ⟨ao, c, h, hs⟩ => ⟨ao, c, h, hs.same k⟩
end Go.Proofs.YtkhloanpdehegaaDoor
