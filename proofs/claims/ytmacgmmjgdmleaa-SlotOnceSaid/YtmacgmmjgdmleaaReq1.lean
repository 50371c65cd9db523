/-
  Requests: the struct, which may be, its body.
-/
import Derived.Test.YtmacgmmjgdmleaaSeal2
import Derived.Test.YtmacgmmjgdmleaaEq
import Derived.Test.YtmacgmmjgdmleaaSha3
namespace Go.Proofs.Ytmacgmmjgdmleaa
open Go Go.RowKit
set_option linter.unusedSimpArgs false
set_option linter.unusedVariables false

theorem Same.at {w w' : World} (k : Same w w') {b : Nat} {o : Obj} (h : w.heap[b]? = some o) : w'.heap[b]? = some o := (k.block _ (blk_lt h)).trans h
theorem Same.range {w w' : World} (k : Same w w') {b o : Nat} {cs : List Value} (h : w.rangeAt b o cs) : w'.rangeAt b o cs := fun j v hj => k.cell (h j v hj)
/-- The results are a slot, and a whole value that lies in a block. -/
theorem results_row2' {P : Program} {fn : Func} {p q : Tmp} {ty : TypeId} (h : fn.results = #[.tmp q, .cell p ty]) (tmps : Array Value) (w : World) (g : Nat) (t : TypeId) (cs : Array Value) (fr : Nat × Nat) (d : TypeDesc) (v : Value)
    (hp : tmps.getD p undef = .pointer (some ⟨g, 0, none⟩)) (hv : tmps.getD q undef = v) (hb : w.heap[g]? = some (.cells cs t fr)) (hu : P.underlying ty = some d) (hd : (match d with | .struct _ | .array _ _ => true | _ => false) = true) (hi : (P.info? ty).map (·.size) = some cs.size) :
    (results fn tmps).run P w = .ok (.tuple #[v, .agg cs]) w := by
  have hl := run_loadVar_row (P := P) w g t ty cs fr d hb hu hd hi
  have hp' : tmps[p]?.getD undef = .pointer (some ⟨g, 0, none⟩) := by simpa [Array.getD_eq_getD_getElem?] using hp
  have hv' : tmps[q]?.getD undef = v := by simpa [Array.getD_eq_getD_getElem?] using hv
  simp only [results, h]
  simp [Sem.run_bind, Result.andThen, hp', hv', asAddr, hl]

theorem run_conv_mark {P : Program} (w : World) (t e : TypeId) (g : Nat) (C : Array Value) (T : TypeId) (n c : Nat) (ht : P.underlying t = some (.slice e)) (he : P.underlying e = some (.int .u8)) (hb : w.heap[g]? = some (.cells C T (0, 0))) :
    (convert t t (.slice (some ⟨g, 0, none⟩) n c)).run P w = .ok (.slice (some ⟨g, 0, none⟩) n c) (w.freeze ⟨g, C.size, none⟩ 1) := by
  have hsh : w.shape? g = some (T, C.size) := by
    unfold World.shape?
    rw [hb]
  simp [convert, run_underlying ht, run_underlying he, markStringish, hsh]
theorem freeze_block (w : World) {g k : Nat} {C : Array Value} {T : TypeId} (hb : w.heap[g]? = some (.cells C T (0, 0))) : (w.freeze ⟨g, k, none⟩ 1).heap[g]? = some (.cells C T (k, k + 1)) := by
  unfold World.freeze
  rw [if_neg (by decide)]
  simp [Array.getElem?_modify, hb]
theorem freeze_keep (w : World) (g k : Nat) : Keep (· = g) w (w.freeze ⟨g, k, none⟩ 1) := by
  unfold World.freeze
  rw [if_neg (by decide)]
  exact ⟨rfl, rfl, rfl, by simp, fun i _ hi => by simp [Array.getElem?_modify, Ne.symm hi]⟩
theorem sl_of_frozen {w : World} {g n T : Nat} {fr : Nat × Nat} {l : List UInt8} (hb : w.heap[g]? = some (.cells (bv l).toArray T fr)) (hl : l.length = n) (hm : n ≤ maxLen) : Sl w 1 (some ⟨g, 0, none⟩) n n (bv l) :=
  ⟨by rw [bv_length, hl, Nat.mul_one], Nat.le_refl _, hm, (fun e => by cases e), fun b hb2 j u hu => by
    injection hb2 with hb2
    subst hb2
    rw [add0]
    simp only [World.cell?, hb]
    simpa using hu⟩
section
variable {P : Program} {ops : Array Oper} {rest : List Oper} {o : Oper} {a : Act} {Q : Exit → Act → World → Prop} {t e : TypeId}
/-- '[]byte("..")' of a constant whose row was laid before. -/
theorem conv_mark {W : World} (l : List UInt8) (hg : Region.wanted o (yielded ops a.tmps) = true) (x : Operand) (ho : o.op = .convert t t x) (ht : P.underlying t = some (.slice e)) (he : P.underlying e = some (.int .u8))
    (g n T : Nat) (hx : a.eval x = .slice (some ⟨g, 0, none⟩) n n) (hb : W.heap[g]? = some (.cells (bv l).toArray T (0, 0))) (hl : l.length = n) (hm : n ≤ maxLen)
    (h : ∀ w', Sl w' 1 (some ⟨g, 0, none⟩) n n (bv l) → Keep (· = g) W w' → wpList P ops Q rest (a.put o.dst (.slice (some ⟨g, 0, none⟩) n n)) w') : wpList P ops Q (o :: rest) a W := by
  refine wpL hg fun K hK => ?_
  unfold Oper.wp execOp
  simp only [ho, Sem.run_bind, Sem.run_pure, Result.andThen_ok, hx, run_conv_mark W t e g _ T n n ht he hb]
  exact hK _ _ (h _ (sl_of_frozen (freeze_block W hb) hl hm) (freeze_keep W g _))
end
/-- A row of bytes of the call's own, from block B on. -/
def isRow (B : Nat) (l : List UInt8) : Value → World → Prop := fun v w => ∃ g T, v = .slice (some ⟨g, 0, none⟩) l.length l.length ∧ B ≤ g ∧ w.heap[g]? = some (.cells (bv l).toArray T (0, 0))
theorem isRow_stable (B : Nat) (l : List UInt8) : Stable Same (isRow B l) := fun _ _ _ k ⟨g, T, h, hB, hb⟩ => ⟨g, T, h, hB, (k.block _ (blk_lt hb)).trans hb⟩
structure Req where
  client : Int
  num : Int
  data : ByteArray
  tag : List UInt8
def Req.cells (r : Req) : List Value := [.int .i64 r.client, .int .i64 r.num, .string r.data] ++ bv r.tag
def zeroReq : Req := ⟨0, 0, ByteArray.empty, noTag⟩
def Req.wf (r : Req) : Prop := r.tag.length = 16 ∧ (Lit.int .i64 r.client).wf = true ∧ (Lit.int .i64 r.num).wf = true ∧ r.data.size ≤ maxLen
theorem Req.cells_length {r : Req} (h : r.tag.length = 16) : r.cells.length = 19 := by
  rw [Req.cells, List.length_append, bv_length, h]
  rfl
theorem req_infoL {r : Req} (h : r.tag.length = 16) : (Try.prog.info? 90).map (·.size) = some r.cells.length := by
  rw [Req.cells_length h]
  kernel_rfl
theorem req_info {r : Req} (h : r.tag.length = 16) : (Try.prog.info? 90).map (·.size) = some r.cells.toArray.size := by
  rw [List.size_toArray]
  exact req_infoL h
theorem tag_infoL {l : List UInt8} (h : l.length = 16) : (Try.prog.info? 88).map (·.size) = some (bv l).length := by
  rw [← List.size_toArray]
  exact tag_info h
theorem req_one (r : Req) : r.cells.toArray.all (·.oneCell') = true := by
  have : ∀ u ∈ bv r.tag, u.oneCell' = true := bv_cell
  simp only [Req.cells, List.all_toArray, List.all_append, Bool.and_eq_true, List.all_eq_true]
  exact ⟨by intro x hx; simp only [List.mem_cons, List.not_mem_nil, or_false] at hx; rcases hx with rfl | rfl | rfl <;> rfl, this⟩
theorem req_sizes {r s : Req} (h : r.tag.length = 16) (k : s.tag.length = 16) : r.cells.toArray.size = s.cells.toArray.size := by rw [List.size_toArray, List.size_toArray, Req.cells_length h, Req.cells_length k]
theorem zeroReq_tag : zeroReq.tag.length = 16 := rfl
section
variable {w : World} {b T : Nat} {r : Req} (h : w.heap[b]? = some (.cells r.cells.toArray T (0, 0)))
include h
theorem req_client : w.cell? ⟨b, 0, none⟩ = some (.int .i64 r.client) := by rw [blk_cell h]; rfl
theorem req_num : w.cell? ⟨b, 1, none⟩ = some (.int .i64 r.num) := by rw [blk_cell h]; rfl
theorem req_data : w.cell? ⟨b, 2, none⟩ = some (.string r.data) := by rw [blk_cell h]; rfl
theorem req_tag : w.rangeAt b 3 (bv r.tag) := by
  intro j v hj
  rw [blk_cell h, List.getElem?_toArray, Req.cells, List.getElem?_append_right (by simp), show 3 + j - [Value.int .i64 r.client, .int .i64 r.num, .string r.data].length = j from by simp]
  exact hj
end
def Req.may (r : Req) (clients : Int) : Bool := decide (0 ≤ r.client) && (decide (r.client < clients) && (decide (1 ≤ r.num) && (decide (r.num ≤ 1099511627776) && decide (r.data.size ≤ 64))))
theorem Req.may_iff {r : Req} {clients : Int} : r.may clients = true ↔ 0 ≤ r.client ∧ r.client < clients ∧ 1 ≤ r.num ∧ r.num ≤ 1099511627776 ∧ r.data.size ≤ 64 := by simp [Req.may]
def reqBody (r : Req) : List UInt8 := [82] ++ Num.putI r.client ++ Num.putI r.num ++ Num.putT r.data.data.toList
theorem Num.putI_le (n : Int) (h : n ≤ 9223372036854775807) : (Num.putI n).length ≤ 9 := by
  unfold Num.putI
  split
  · simp
  · exact Num.putN_le (by omega)
theorem Num.putT_le (l : List UInt8) (h : l.length ≤ 1000000000) : (Num.putT l).length ≤ l.length + 9 := by
  have := Num.putN_le (n := l.length) (by omega)
  rw [Num.putT, List.length_append]
  omega
theorem reqBody_le (r : Req) (h1 : r.client ≤ 9223372036854775807) (h2 : r.num ≤ 9223372036854775807) (h3 : r.data.size ≤ 1000000000) : (reqBody r).length ≤ r.data.size + 28 := by
  have := Num.putI_le _ h1
  have := Num.putI_le _ h2
  have h4 := Num.putT_le r.data.data.toList (by simpa using h3)
  simp [reqBody] at h4 ⊢
  omega
def RetText0 (w : World) (l : List UInt8) (e : Ending) (w' : World) : Prop := e = .returned (str l) ∧ Same w w'
end Go.Proofs.Ytmacgmmjgdmleaa
