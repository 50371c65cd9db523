/-
  When two arrays of bytes are told equal.
-/
import Derived.Test.YtmacgmmjgdmleaaProg
import Derived.Test.YtmacgmmjgdmleaaArr
import Derived.DeepKeys
namespace Go.Proofs.Ytmacgmmjgdmleaa
open Go Go.RowKit
set_option linter.unusedSimpArgs false
set_option linter.unusedVariables false
set_option maxRecDepth 100000

section
variable {P : Program} {t e : TypeId} {n : Nat}
theorem mapM_some_of {α β : Type} {f : α → Option β} {g : α → β} : ∀ (l : List α), (∀ x ∈ l, f x = some (g x)) → l.mapM f = some (l.map g) := by
  intro l
  induction l with
  | nil => intro _; rfl
  | cons x l ih =>
    intro h
    rw [List.mapM_cons, h x (List.mem_cons_self ..), ih fun y hy => h y (List.mem_cons_of_mem _ hy)]
    rfl
theorem wf_byte (b : UInt8) : (Lit.int .u8 (b.toNat : Int)).wf = true := by
  have := b.toNat_lt
  simp [Lit.wf, IntKind.min, IntKind.max, IntKind.signed, IntKind.bits]
  omega
def lits8 (l : List UInt8) : List Lit := l.map fun b => .int .u8 (b.toNat : Int)
theorem lits8_inj {l m : List UInt8} : lits8 l = lits8 m ↔ l = m := by
  constructor
  · intro h
    unfold lits8 at h
    refine (List.map_inj_right ?_).1 h
    intro a b hab
    simp at hab
    exact UInt8.toNat_inj.1 (by omega)
  · rintro rfl
    rfl
theorem keyLits_bytes (ht : P.underlying t = some (.array n e)) (he : P.underlying e = some (.int .u8)) (hc : P.cellsOf e = 1) (hn : P.cellsOf t = n) (l : List UInt8) (hl : l.length = n) (d : Nat) : P.keyLits (d + 2) t (bv l) = some (lits8 l) := by
  unfold Program.keyLits
  rw [ht]
  simp only [bv_length, hl, hn, if_true, hc]
  have h1 : ∀ i ∈ List.range n, P.keyLits (d + 1) e (((bv l).drop (i * 1)).take 1) = some [Lit.int .u8 ((l.getD i 0).toNat : Int)] := by
    intro i hi
    rw [List.mem_range] at hi
    have hil : i < l.length := by omega
    have e1 : ((bv l).drop (i * 1)).take 1 = [.int .u8 ((l.getD i 0).toNat : Int)] := by
      rw [Nat.mul_one, bv_drop, bv_take]
      have : (l.drop i).take 1 = [l.getD i 0] := by
        simp only [List.getD, List.getElem?_eq_getElem hil, Option.getD_some]
        rw [List.drop_eq_getElem_cons hil]
        rfl
      rw [this]
      rfl
    rw [e1]
    unfold Program.keyLits
    rw [he]
    simp [wf_byte]
  rw [mapM_some_of _ h1]
  simp only [Option.map_some, Option.some.injEq]
  rw [← List.flatMap_def, lits8]
  apply List.ext_getElem?
  intro i
  have key : ∀ (k : Nat), k ≤ n → (List.range k).flatMap (fun i => [Lit.int .u8 ((l.getD i 0).toNat : Int)]) = (l.take k).map fun b => Lit.int .u8 (b.toNat : Int) := by
    intro k
    induction k with
    | zero => intro _; rfl
    | succ k ih =>
      intro hk
      have hkl : k < l.length := by omega
      rw [List.range_succ, List.flatMap_append, ih (by omega), List.take_succ_eq_append_getElem hkl, List.map_append]
      simp [List.getD, hkl]
  rw [key n (Nat.le_refl _), List.take_of_length_le (by omega)]
theorem equal_lits (w : World) {m : Nat} (hm : m ≤ 10000) (hk : P.keyTypeAt m t = true) (hd : (match P.underlying t with | some (.struct _) | some (.array _ _) => true | _ => false) = true) (xs ys : List Value) (la lb : List Lit) (d : Nat)
    (hx : P.keyLits d t xs = some la) (hy : P.keyLits d t ys = some lb) (lx : xs.length = P.cellsOf t) (ly : ys.length = P.cellsOf t) :
    ∃ r, (Op.equalIn 10000 t (.agg xs.toArray) (.agg ys.toArray)).run P w = .ok r w ∧ (r = true ↔ la = lb) := by
  have hf : ∀ xs : List Value, xs.length = P.cellsOf t → (Value.agg xs.toArray).formed P t = true := by
    intro xs h
    revert hd
    cases hu : P.underlying t with
    | none => intro h; cases h
    | some d => cases d <;> intro hd <;> first | (cases hd; done) | (simp [Value.formed, hu, h])
  obtain ⟨r, hr, hiff⟩ := run_equalIn_deep (10000 - m) m t hk w d d (.agg xs.toArray) (.agg ys.toArray) la lb (hf _ lx) (hf _ ly) (by simpa [Value.cells] using hx) (by simpa [Value.cells] using hy)
  rw [Nat.sub_add_cancel hm] at hr
  exact ⟨r, hr, hiff⟩
theorem eql_bytes (w : World) (ht : P.underlying t = some (.array n e)) (he : P.underlying e = some (.int .u8)) (hc : P.cellsOf e = 1) (hn : P.cellsOf t = n) (hk : P.keyTypeAt 2 t = true) (l m : List UInt8) (hl : l.length = n) (hm : m.length = n) :
    (Op.equalIn 10000 t (.agg (bv l).toArray) (.agg (bv m).toArray)).run P w = .ok (l == m) w := by
  obtain ⟨r, hr, hiff⟩ := equal_lits w (by decide : 2 ≤ 10000) hk (by rw [ht]) (bv l) (bv m) _ _ 2 (keyLits_bytes ht he hc hn l hl 0) (keyLits_bytes ht he hc hn m hm 0) (by rw [bv_length, hl, hn]) (by rw [bv_length, hm, hn])
  rw [hr]
  congr 1
  rw [Bool.eq_iff_iff, hiff, lits8_inj, beq_iff_eq]
end
theorem dig_eql (l m : List UInt8) (hl : l.length = 32) (hm : m.length = 32) (w : World) : (binOp .eql 28 (.agg (bv l).toArray) (.agg (bv m).toArray)).run Try.prog w = .ok (.bool (l == m)) w := by
  rw [run_eql_struct, eql_bytes w Try.underlying28 Try.underlying5 (by kernel_rfl) (by kernel_rfl) (by kernel_rfl) l m hl hm]
  rfl
theorem dig_neq (l m : List UInt8) (hl : l.length = 32) (hm : m.length = 32) (w : World) : (binOp .neq 28 (.agg (bv l).toArray) (.agg (bv m).toArray)).run Try.prog w = .ok (.bool (l != m)) w := by
  rw [run_neq_struct, eql_bytes w Try.underlying28 Try.underlying5 (by kernel_rfl) (by kernel_rfl) (by kernel_rfl) l m hl hm]
  rfl
theorem dig_guard (op : BinOp) (x y : Operand) (a b : Array Value) (w : World) : (eqGuard op 28 x y (.agg a) (.agg b)).run Try.prog w = .ok () w := run_eqGuard_agg w op _ x y a b (by kernel_rfl)
theorem tag_eql (l m : List UInt8) (hl : l.length = 16) (hm : m.length = 16) (w : World) : (binOp .eql 88 (.agg (bv l).toArray) (.agg (bv m).toArray)).run Try.prog w = .ok (.bool (l == m)) w := by
  rw [run_eql_struct, eql_bytes w Try.underlying88 Try.underlying5 (by kernel_rfl) (by kernel_rfl) (by kernel_rfl) l m hl hm]
  rfl
theorem tag_neq (l m : List UInt8) (hl : l.length = 16) (hm : m.length = 16) (w : World) : (binOp .neq 88 (.agg (bv l).toArray) (.agg (bv m).toArray)).run Try.prog w = .ok (.bool (l != m)) w := by
  rw [run_neq_struct, eql_bytes w Try.underlying88 Try.underlying5 (by kernel_rfl) (by kernel_rfl) (by kernel_rfl) l m hl hm]
  rfl
theorem tag_guard (op : BinOp) (x y : Operand) (a b : Array Value) (w : World) : (eqGuard op 88 x y (.agg a) (.agg b)).run Try.prog w = .ok () w := run_eqGuard_agg w op _ x y a b (by kernel_rfl)
end Go.Proofs.Ytmacgmmjgdmleaa
