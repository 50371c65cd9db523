/-
  Requests: how one is made.
-/
import Derived.Test.YtmacgmmjgdmleaaReq2
namespace Go.Proofs.Ytmacgmmjgdmleaa
open Go Go.RowKit
set_option linter.unusedSimpArgs false
set_option linter.unusedVariables false

theorem setCells_block {b T : Nat} : ∀ (vs : List Value) (o : Nat) (w : World) (old : List Value), w.heap[b]? = some (.cells old.toArray T (0, 0)) → o + vs.length ≤ old.length → (w.setCells b o vs).heap[b]? = some (.cells (old.take o ++ (vs ++ old.drop (o + vs.length))).toArray T (0, 0)) := by
  intro vs
  induction vs with
  | nil => intro o w old h _; simpa [World.setCells] using h
  | cons v r ih =>
    intro o w old h hl
    simp only [List.length_cons] at hl
    have h2 : (w.setCell ⟨b, o, none⟩ v).heap[b]? = some (.cells (old.set o v).toArray T (0, 0)) := by
      rw [blk_set h]
      simp
    have := ih (o + 1) _ _ h2 (by simp; omega)
    rw [World.setCells, this]
    have ho : o < old.length := by omega
    have e1 : (old.set o v).take (o + 1) = old.take o ++ [v] := by
      rw [List.take_succ_eq_append_getElem (by simp; omega)]
      have e3 : (old.set o v).take o = old.take o := by
        apply List.ext_getElem?
        intro i
        rw [List.getElem?_take, List.getElem?_take]
        split
        · rw [List.getElem?_set_ne (by omega)]
        · rfl
      rw [e3]
      simp
    have e2 : (old.set o v).drop (o + 1 + r.length) = old.drop (o + (v :: r).length) := by
      rw [List.drop_set_of_lt (by omega)]
      congr 1
      simp
      omega
    rw [e1, e2]
    simp
theorem setCells_keep {b : Nat} : ∀ (vs : List Value) (o : Nat) (w : World), Keep (· = b) w (w.setCells b o vs) := by
  intro vs
  induction vs with
  | nil => intro o w; exact Keep.refl
  | cons v r ih =>
    intro o w
    rw [World.setCells]
    exact (Keep.setCell (p := (· = b)) _ rfl).trans (ih (o + 1) _) (fun _ _ h => h)
section
variable {P : Program} {ops : Array Oper} {rest : List Oper} {o : Oper} {a : Act} {Q : Exit → Act → World → Prop}
/-- A whole value stored into the middle of a block. -/
theorem store_mid {W : World} (hg : Region.wanted o (yielded ops a.tmps) = true) (ty : TypeId) (x y : Operand) (ho : o.op = .store ty x y)
    (b off : Nat) (cs : List Value) (hx : a.eval x = .pointer (some ⟨b, off, none⟩)) (hy : a.eval y = .agg cs.toArray)
    (T : TypeId) (old : List Value) (hb : W.heap[b]? = some (.cells old.toArray T (0, 0))) (hi : (P.info? ty).map (·.size) = some cs.length)
    (hfit : off + cs.length ≤ old.length) (h1 : ∀ u ∈ cs, u.oneCell' = true)
    (h : ∀ w', w'.heap[b]? = some (.cells (old.take off ++ (cs ++ old.drop (off + cs.length))).toArray T (0, 0)) → Keep (· = b) W w' → wpList P ops Q rest (a.put o.dst undef) w') : wpList P ops Q (o :: rest) a W := by
  refine wpL hg fun K hK => ?_
  refine wp_store_mid ty x y ho b off cs.toArray hx hy ?_ (by simpa using hi) (by simpa [List.all_eq_true] using h1) (hK _ _ (h _ ?_ ?_))
  · intro j hj
    have hj2 : j < cs.length := by simpa using hj
    rw [blk_cell hb, blk_frozen hb]
    refine ⟨?_, rfl⟩
    rw [List.getElem?_toArray, List.getElem?_eq_getElem (by omega)]
    rfl
  · exact setCells_block cs off W old hb hfit
  · exact setCells_keep _ _ _
end
def req0 (client num : Int) (data : ByteArray) : Req := ⟨client, num, data, noTag⟩
def reqT (client num : Int) (data : ByteArray) (t : List UInt8) : Req := ⟨client, num, data, t⟩
def Req.make (seed : List UInt8) (N : Nat) (nodes client num : Int) (data : ByteArray) : Req × Nat :=
  if (req0 client num data).may 8 = false then (zeroReq, 60) else if nodes < 0 ∨ 64 < nodes then (zeroReq, 2) else
    if (Sha.sign seed N (nodes + client) (reqBody (req0 client num data))).2 = 0 then (reqT client num data (Sha.sign seed N (nodes + client) (reqBody (req0 client num data))).1, 0)
    else (zeroReq, (Sha.sign seed N (nodes + client) (reqBody (req0 client num data))).2)
theorem Req.make_tag (seed : List UInt8) (N : Nat) (nodes client num : Int) (data : ByteArray) : (Req.make seed N nodes client num data).1.tag.length = 16 := by
  unfold Req.make
  split
  · rfl
  · split
    · rfl
    · split
      · exact Sha.sign_length _ _ _ _
      · rfl
/-- A request and an error. -/
def RetReq (w : World) (x : Req × Nat) (e : Ending) (w' : World) : Prop := e = .returned (.tuple #[.agg x.1.cells.toArray, .int .i64 (x.2 : Int)]) ∧ Same w w'
theorem reqT_set (c n : Int) (d : ByteArray) (t : List UInt8) : (reqT c n d t).cells = (req0 c n d).cells.take 3 ++ bv t := rfl
theorem zeroReq_cells : zeroReq.cells.toArray = #[.int .i64 0, .int .i64 0, .string ByteArray.empty, .int .u8 0, .int .u8 0, .int .u8 0, .int .u8 0, .int .u8 0, .int .u8 0, .int .u8 0, .int .u8 0, .int .u8 0, .int .u8 0, .int .u8 0, .int .u8 0, .int .u8 0, .int .u8 0, .int .u8 0, .int .u8 0] := rfl
end Go.Proofs.Ytmacgmmjgdmleaa
