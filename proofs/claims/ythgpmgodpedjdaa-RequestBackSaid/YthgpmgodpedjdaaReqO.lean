/-
  Requests, and what the laws of requests ask for, that came in.
-/
import Derived.Test.YthgpmgodpedjdaaRd
import Derived.Test.YthgpmgodpedjdaaReq5
namespace Go.Proofs.Ythgpmgodpedjdaa
open Go Go.ChangeShapes Go.WideShapes Go.ChangeAt Go.RowKit
set_option linter.unusedSimpArgs false
set_option linter.unusedVariables false

set_option maxRecDepth 100000
theorem rd_req {H : Type} {enc : TypeId × Value → H} {W : World} {cs : List Value} (h : Rd enc W 44 cs) : ∃ r : Req, cs = r.cells ∧ r.wf := by
  have hl := (h.struct Try.underlying44).1
  rw [(by kernel_rfl : Try.prog.cellsOf 44 = 19)] at hl
  obtain ⟨a, ha, wa⟩ := (h.field Try.underlying44 0 _ rfl 0 1 rfl (by kernel_rfl)).int Try.underlying3
  obtain ⟨b, hb, wb⟩ := (h.field Try.underlying44 1 _ rfl 1 1 rfl (by kernel_rfl)).int Try.underlying3
  obtain ⟨s, hs, ws⟩ := (h.field Try.underlying44 2 _ rfl 2 1 rfl (by kernel_rfl)).str Try.underlying9
  obtain ⟨l, ht, wl⟩ := (h.field Try.underlying44 3 _ rfl 3 16 rfl (by kernel_rfl)).bytes Try.underlying42 Try.underlying5 (by kernel_rfl) (by kernel_rfl)
  refine ⟨⟨a, b, s, l⟩, ?_, wl, wa, wb, by show s.size ≤ maxLen; unfold maxLen; omega⟩
  have e1 : cs = (cs.drop 0).take 1 ++ ((cs.drop 1).take 1 ++ ((cs.drop 2).take 1 ++ (cs.drop 3).take 16)) := by
    match cs, hl with
    | [x0, x1, x2, x3, x4, x5, x6, x7, x8, x9, x10, x11, x12, x13, x14, x15, x16, x17, x18], _ => rfl
  rw [e1, ha, hb, hs, ht]
  rfl
theorem open_req {H : Type} {enc : TypeId × Value → H} {W : World} {r : Reach} {b0 : Nat} {v : Value} {d : DataW H} {ps : List MemPlace} (hv : Value.okWide Try.prog W r b0 44 v) (h : DataW.Trod enc Try.prog W 0 (fun _ => true) true 44 v d ps) (hw : ∀ n ∈ DataW.weights Try.prog 44 d, n ≤ 140737488351232) :
    ∃ a : Req, v = .agg a.cells.toArray ∧ a.wf := by
  obtain ⟨cs, rfl, _⟩ := okWide_struct Try.underlying44 hv
  obtain ⟨a, h1, h2⟩ := rd_req (Rd.of h hw)
  exact ⟨a, by rw [toList_agg h1], h2⟩
abbrev req_zero : Value := .agg zeroReq.cells.toArray
/-- Numbers of nodes and clients, and a request's. -/
structure AskV where
  nodes : Int
  clients : Int
  client : Int
  num : Int
  data : ByteArray
def AskV.cells (a : AskV) : List Value := [.int .i64 a.nodes, .int .i64 a.clients, .int .i64 a.client, .int .i64 a.num, .string a.data]
def AskV.wf (a : AskV) : Prop := (Lit.int .i64 a.nodes).wf = true ∧ (Lit.int .i64 a.clients).wf = true ∧ (Lit.int .i64 a.client).wf = true ∧ (Lit.int .i64 a.num).wf = true ∧ a.data.size ≤ maxLen
theorem ask_info (a : AskV) : (Try.prog.info? 35).map (·.size) = some a.cells.toArray.size := by
  show _ = some 5
  kernel_rfl
section
variable {w : World} {b T : Nat} {a : AskV} (h : w.heap[b]? = some (.cells a.cells.toArray T (0, 0)))
include h
theorem ask_cells : w.cell? ⟨b, 0, none⟩ = some (.int .i64 a.nodes) ∧ w.cell? ⟨b, 1, none⟩ = some (.int .i64 a.clients) ∧ w.cell? ⟨b, 2, none⟩ = some (.int .i64 a.client) ∧ w.cell? ⟨b, 3, none⟩ = some (.int .i64 a.num) ∧ w.cell? ⟨b, 4, none⟩ = some (.string a.data) := by
  refine ⟨?_, ?_, ?_, ?_, ?_⟩ <;> (rw [blk_cell h]; rfl)
end
theorem open_ask {H : Type} {enc : TypeId × Value → H} {W : World} {r : Reach} {b0 : Nat} {v : Value} {d : DataW H} {ps : List MemPlace} (hv : Value.okWide Try.prog W r b0 35 v) (h : DataW.Trod enc Try.prog W 0 (fun _ => true) true 35 v d ps) (hw : ∀ n ∈ DataW.weights Try.prog 35 d, n ≤ 140737488351232) :
    ∃ a : AskV, v = .agg a.cells.toArray ∧ a.wf := by
  obtain ⟨cs, rfl, _⟩ := okWide_struct Try.underlying35 hv
  have hr := Rd.of h hw
  have hl := (hr.struct Try.underlying35).1
  rw [(by kernel_rfl : Try.prog.cellsOf 35 = 5)] at hl
  obtain ⟨x0, h0, w0⟩ := (hr.field Try.underlying35 0 _ rfl 0 1 rfl (by kernel_rfl)).int Try.underlying3
  obtain ⟨x1, h1, w1⟩ := (hr.field Try.underlying35 1 _ rfl 1 1 rfl (by kernel_rfl)).int Try.underlying3
  obtain ⟨x2, h2, w2⟩ := (hr.field Try.underlying35 2 _ rfl 2 1 rfl (by kernel_rfl)).int Try.underlying3
  obtain ⟨x3, h3, w3⟩ := (hr.field Try.underlying35 3 _ rfl 3 1 rfl (by kernel_rfl)).int Try.underlying3
  obtain ⟨s, hs, ws⟩ := (hr.field Try.underlying35 4 _ rfl 4 1 rfl (by kernel_rfl)).str Try.underlying9
  refine ⟨⟨x0, x1, x2, x3, s⟩, ?_, w0, w1, w2, w3, by show s.size ≤ maxLen; unfold maxLen; omega⟩
  have e : (Value.agg cs).cells.toList = AskV.cells ⟨x0, x1, x2, x3, s⟩ := by
    generalize (Value.agg cs).cells.toList = zs at *
    match zs, hl with
    | [a0, a1, a2, a3, a4], _ => simp_all [AskV.cells]
  rw [toList_agg e]
abbrev ask_zero : Value := .agg #[.int .i64 0, .int .i64 0, .int .i64 0, .int .i64 0, .string ByteArray.empty]
theorem i64_bounds {n : Int} (h : (Lit.int .i64 n).wf = true) : -9223372036854775808 ≤ n ∧ n ≤ 9223372036854775807 := by
  simpa [Lit.wf, IntKind.min, IntKind.max, IntKind.signed, IntKind.bits] using h
theorem zeroReq_wf : zeroReq.wf := ⟨rfl, by decide, by decide, by decide⟩
theorem Req.make_wf {seed : List UInt8} {N : Nat} {nodes client num : Int} {data : ByteArray} (hc : (Lit.int .i64 client).wf = true) (hn : (Lit.int .i64 num).wf = true) (hd : data.size ≤ maxLen) : (Req.make seed N nodes client num data).1.wf := by
  unfold Req.make
  split
  · exact zeroReq_wf
  · split
    · exact zeroReq_wf
    · split
      · exact ⟨Sha.sign_length _ _ _ _, hc, hn, hd⟩
      · exact zeroReq_wf
end Go.Proofs.Ythgpmgodpedjdaa
