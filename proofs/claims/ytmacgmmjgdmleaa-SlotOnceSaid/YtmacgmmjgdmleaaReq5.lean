/-
  Requests: when two are the same; the law's keys, its example.
-/
import Derived.Test.YtmacgmmjgdmleaaReq4
import Derived.Test.YtmacgmmjgdmleaaReq2b
namespace Go.Proofs.Ytmacgmmjgdmleaa
open Go Go.RowKit
set_option linter.unusedSimpArgs false
set_option linter.unusedVariables false
set_option maxRecDepth 100000

def Req.lits (r : Req) : List Lit := [.int .i64 r.client, .int .i64 r.num, .string r.data.data.toList] ++ lits8 r.tag
theorem keyLits_req (r : Req) (h : r.wf) : Try.prog.keyLits 3 90 r.cells = some r.lits := by
  obtain ⟨ht, hc, hn, hsz⟩ := h
  have hi : ∀ x : Int, (Lit.int .i64 x).wf = true → Try.prog.keyLits 2 3 [.int .i64 x] = some [.int .i64 x] := by
    intro x hx
    unfold Program.keyLits
    rw [Try.underlying3]
    simp [hx]
  have hs : Try.prog.keyLits 2 9 [.string r.data] = some [.string r.data.data.toList] := by
    unfold Program.keyLits
    rw [Try.underlying9]
    simp [hsz]
  have htg : Try.prog.keyLits 2 88 (bv r.tag) = some (lits8 r.tag) := keyLits_bytes Try.underlying88 Try.underlying5 (by kernel_rfl) (by kernel_rfl) r.tag ht 0
  have h3 : Try.prog.cellsOf 3 = 1 := by kernel_rfl
  have h4 : Try.prog.cellsOf 9 = 1 := by kernel_rfl
  have h5 : Try.prog.cellsOf 88 = 16 := by kernel_rfl
  have h6 : Try.prog.cellsOf 90 = 19 := by kernel_rfl
  have hl : (bv r.tag).length = 16 := by rw [bv_length, ht]
  unfold Program.keyLits
  rw [Try.underlying90]
  simp [Req.cells, h3, h4, h5, h6, hi _ hc, hi _ hn, hs, hl, Req.lits, List.take_of_length_le, htg]
/-- Are they the same? -/
def Req.same (a b : Req) : Bool := decide (a.client = b.client) && (decide (a.num = b.num) && (decide (a.data = b.data) && decide (a.tag = b.tag)))
theorem Req.same_iff (a b : Req) : Req.same a b = true ↔ a = b := by
  cases a
  cases b
  simp [Req.same]
theorem Req.lits_inj (a b : Req) : a.lits = b.lits ↔ a = b := by
  constructor
  · intro h
    simp only [Req.lits, List.cons_append, List.nil_append, List.cons.injEq, Lit.int.injEq, Lit.string.injEq, true_and] at h
    obtain ⟨h1, h2, h3, h4⟩ := h
    have h5 := lits8_inj.1 h4
    have h6 : a.data = b.data := by
      have : a.data.data = b.data.data := Array.toList_inj.1 h3
      exact ByteArray.ext this
    cases a
    cases b
    simp only at h1 h2 h5 h6
    subst h1 h2 h5 h6
    rfl
  · rintro rfl
    rfl
theorem Req.same_self (a : Req) : Req.same a a = true := (Req.same_iff a a).2 rfl
theorem req_eql (a b : Req) (ha : a.wf) (hb : b.wf) (w : World) : (binOp .eql 90 (.agg a.cells.toArray) (.agg b.cells.toArray)).run Try.prog w = .ok (.bool (Req.same a b)) w := by
  have h4 : Try.prog.cellsOf 90 = 19 := by kernel_rfl
  obtain ⟨r, hr, hiff⟩ := equal_lits w (by decide : 3 ≤ 10000) (by kernel_rfl) (by rw [Try.underlying90]) a.cells b.cells _ _ 3 (keyLits_req a ha) (keyLits_req b hb) (by rw [h4, Req.cells_length ha.1]) (by rw [h4, Req.cells_length hb.1])
  rw [run_eql_struct, hr]
  have e : r = Req.same a b := by
    rw [Bool.eq_iff_iff, hiff, Req.lits_inj, Req.same_iff]
  rw [e]
  rfl
theorem req_neq (a b : Req) (ha : a.wf) (hb : b.wf) (w : World) : (binOp .neq 90 (.agg a.cells.toArray) (.agg b.cells.toArray)).run Try.prog w = .ok (.bool (!Req.same a b)) w := by
  have h4 : Try.prog.cellsOf 90 = 19 := by kernel_rfl
  obtain ⟨r, hr, hiff⟩ := equal_lits w (by decide : 3 ≤ 10000) (by kernel_rfl) (by rw [Try.underlying90]) a.cells b.cells _ _ 3 (keyLits_req a ha) (keyLits_req b hb) (by rw [h4, Req.cells_length ha.1]) (by rw [h4, Req.cells_length hb.1])
  rw [run_neq_struct, hr]
  have e : r = Req.same a b := by
    rw [Bool.eq_iff_iff, hiff, Req.lits_inj, Req.same_iff]
  rw [e]
  rfl
theorem req_guard (op : BinOp) (x y : Operand) (a b : Array Value) (w : World) : (eqGuard op 90 x y (.agg a) (.agg b)).run Try.prog w = .ok () w := run_eqGuard_agg w op _ x y a b (by kernel_rfl)

/-- The law's seed. -/
abbrev seedR : ByteArray := ⟨#[114]⟩
end Go.Proofs.Ytmacgmmjgdmleaa
