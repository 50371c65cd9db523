/-
  Configs and epochs that came in.
-/
import Derived.Test.YtmacgmmjgdmleaaRd
import Derived.Test.YtmacgmmjgdmleaaEpSame
namespace Go.Proofs.Ytmacgmmjgdmleaa
open Go Go.ChangeShapes Go.WideShapes Go.ChangeAt Go.RowKit
set_option linter.unusedSimpArgs false
set_option linter.unusedVariables false

set_option maxRecDepth 100000
theorem rd_cfg {H : Type} {enc : TypeId × Value → H} {W : World} {cs : List Value} (h : Rd enc W 68 cs) : ∃ c : Cfg, cs = c.cells ∧ c.wf := by
  have hl := (h.struct Try.underlying68).1
  rw [(by kernel_rfl : Try.prog.cellsOf 68 = 10)] at hl
  obtain ⟨a0, h0, w0⟩ := (h.field Try.underlying68 0 _ rfl 0 1 rfl (by kernel_rfl)).int Try.underlying3
  obtain ⟨a1, h1, w1⟩ := (h.field Try.underlying68 1 _ rfl 1 1 rfl (by kernel_rfl)).int Try.underlying3
  obtain ⟨a2, h2, w2⟩ := (h.field Try.underlying68 2 _ rfl 2 1 rfl (by kernel_rfl)).int Try.underlying3
  obtain ⟨a3, h3, w3⟩ := (h.field Try.underlying68 3 _ rfl 3 1 rfl (by kernel_rfl)).int Try.underlying3
  obtain ⟨a4, h4, w4⟩ := (h.field Try.underlying68 4 _ rfl 4 1 rfl (by kernel_rfl)).int Try.underlying3
  obtain ⟨a5, h5, w5⟩ := (h.field Try.underlying68 5 _ rfl 5 1 rfl (by kernel_rfl)).int Try.underlying3
  obtain ⟨a6, h6, w6⟩ := (h.field Try.underlying68 6 _ rfl 6 1 rfl (by kernel_rfl)).int Try.underlying3
  obtain ⟨a7, h7, w7⟩ := (h.field Try.underlying68 7 _ rfl 7 1 rfl (by kernel_rfl)).int Try.underlying3
  obtain ⟨a8, h8, w8⟩ := (h.field Try.underlying68 8 _ rfl 8 1 rfl (by kernel_rfl)).int Try.underlying3
  obtain ⟨a9, h9, w9⟩ := (h.field Try.underlying68 9 _ rfl 9 1 rfl (by kernel_rfl)).int Try.underlying3
  refine ⟨⟨a0, a1, a2, a3, a4, a5, a6, a7, a8, a9⟩, ?_, ?_⟩
  · match cs, hl with
    | [x0, x1, x2, x3, x4, x5, x6, x7, x8, x9], _ => simp_all [Cfg.cells, Cfg.list, iv]
  · intro x hx
    simp only [Cfg.list, List.mem_cons, List.not_mem_nil, or_false] at hx
    rcases hx with rfl | rfl | rfl | rfl | rfl | rfl | rfl | rfl | rfl | rfl <;> assumption
theorem open_cfg {H : Type} {enc : TypeId × Value → H} {W : World} {r : Reach} {b0 : Nat} {v : Value} {d : DataW H} {ps : List MemPlace} (hv : Value.okWide Try.prog W r b0 68 v) (h : DataW.Trod enc Try.prog W 0 (fun _ => true) true 68 v d ps) (hw : ∀ n ∈ DataW.weights Try.prog 68 d, n ≤ 140737488351232) :
    ∃ a : Cfg, v = .agg a.cells.toArray ∧ a.wf := by
  obtain ⟨cs, rfl, _⟩ := okWide_struct Try.underlying68 hv
  obtain ⟨a, h1, h2⟩ := rd_cfg (Rd.of h hw)
  exact ⟨a, by rw [toList_agg h1], h2⟩
abbrev cfg_zero : Value := .agg zeroCfg.cells.toArray
/-- An epoch that came in: its slice's address, its capacity, and what it is. -/
structure EpIn where
  ao : Option Addr
  cap : Nat
  ep : EpV
theorem open_ep {H : Type} {enc : TypeId × Value → H} {W : World} {r : Reach} {b0 : Nat} {v : Value} {d : DataW H} {ps : List MemPlace} (hv : Value.okWide Try.prog W r b0 124 v) (h : DataW.Trod enc Try.prog W 0 (fun _ => true) true 124 v d ps) (hw : ∀ n ∈ DataW.weights Try.prog 124 d, n ≤ 140737488351232) :
    ∃ a : EpIn, v = .agg (epC a.ep.cfg a.ep.number a.ep.start a.ao a.ep.leaders.length a.cap).toArray ∧ a.ep.cfg.wf ∧ (Lit.int .i64 a.ep.number).wf = true ∧ (Lit.int .i64 a.ep.start).wf = true ∧ Sl W 1 a.ao a.ep.leaders.length a.cap (iv a.ep.leaders) ∧ ∀ n ∈ a.ep.leaders, (Lit.int .i64 n).wf = true := by
  obtain ⟨cs, rfl, _⟩ := okWide_struct Try.underlying124 hv
  have hr := Rd.of h hw
  have hl := (hr.struct Try.underlying124).1
  rw [(by kernel_rfl : Try.prog.cellsOf 124 = 13)] at hl
  obtain ⟨c, hc, wc⟩ := rd_cfg (hr.field Try.underlying124 0 _ rfl 0 10 rfl (by kernel_rfl))
  obtain ⟨n, hn, wn⟩ := (hr.field Try.underlying124 1 _ rfl 10 1 rfl (by kernel_rfl)).int Try.underlying3
  obtain ⟨s, hs, ws⟩ := (hr.field Try.underlying124 2 _ rfl 11 1 rfl (by kernel_rfl)).int Try.underlying3
  obtain ⟨ao, ln, cap, L, h1, h2, h3, h4, _⟩ := (hr.field Try.underlying124 3 _ rfl 12 1 rfl (by kernel_rfl)).slice Try.underlying70 (by kernel_rfl : Try.prog.cellsOf 3 = 1) (by decide) (by kernel_rfl : Try.prog.bytesOf 3 = 8)
  obtain ⟨l, h5, h6, h7⟩ := flat_one (f := Value.int .i64) (p := fun n => (Lit.int .i64 n).wf = true) fun x hx => (h4 x hx).2.int Try.underlying3
  have hll : l.length = ln := by rw [h6, h3]
  refine ⟨⟨ao, cap, ⟨c, n, s, l⟩⟩, ?_, wc, wn, ws, ?_, h7⟩
  · have e : (Value.agg cs).cells.toList = epC c n s ao l.length cap := by
      have e1 : (Value.agg cs).cells.toList = ((Value.agg cs).cells.toList.drop 0).take 10 ++ (((Value.agg cs).cells.toList.drop 10).take 1 ++ (((Value.agg cs).cells.toList.drop 11).take 1 ++ ((Value.agg cs).cells.toList.drop 12).take 1)) := by
        generalize (Value.agg cs).cells.toList = zs at *
        match zs, hl with
        | [x0, x1, x2, x3, x4, x5, x6, x7, x8, x9, x10, x11, x12], _ => rfl
      rw [e1, hc, hn, hs, h1, epC, hll]
      rfl
    rw [toList_agg e]
  · simp only
    rw [hll, iv, ← h5]
    exact h2
abbrev ep_zero : Value := .agg (epC zeroCfg 0 0 none 0 0).toArray
end Go.Proofs.Ytmacgmmjgdmleaa
