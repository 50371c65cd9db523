/-
  Batches that came in; unlike plain batches have unlike bytes.
-/
import Derived.Test.YthgpmgodpedjdaaBat4
import Derived.Test.YthgpmgodpedjdaaReqB
namespace Go.Proofs.Ythgpmgodpedjdaa
open Go Go.ChangeShapes Go.WideShapes Go.ChangeAt Go.RowKit
set_option linter.unusedSimpArgs false
set_option linter.unusedVariables false

set_option maxRecDepth 100000
theorem rd_req' {H : Type} {enc : TypeId × Value → H} {W : World} {cs : List Value} (h : Rd enc W 44 cs) : ∃ r : Req, cs = r.cells ∧ r.wf ∧ r.data.size ≤ 140737488351232 := by
  have hl := (h.struct Try.underlying44).1
  rw [(by kernel_rfl : Try.prog.cellsOf 44 = 19)] at hl
  obtain ⟨a, ha, wa⟩ := (h.field Try.underlying44 0 _ rfl 0 1 rfl (by kernel_rfl)).int Try.underlying3
  obtain ⟨b, hb, wb⟩ := (h.field Try.underlying44 1 _ rfl 1 1 rfl (by kernel_rfl)).int Try.underlying3
  obtain ⟨s, hs, ws⟩ := (h.field Try.underlying44 2 _ rfl 2 1 rfl (by kernel_rfl)).str Try.underlying9
  obtain ⟨l, ht, wl⟩ := (h.field Try.underlying44 3 _ rfl 3 16 rfl (by kernel_rfl)).bytes Try.underlying42 Try.underlying5 (by kernel_rfl) (by kernel_rfl)
  refine ⟨⟨a, b, s, l⟩, ?_, ⟨wl, wa, wb, by show s.size ≤ maxLen; unfold maxLen; omega⟩, ws⟩
  have e1 : cs = (cs.drop 0).take 1 ++ ((cs.drop 1).take 1 ++ ((cs.drop 2).take 1 ++ (cs.drop 3).take 16)) := by
    match cs, hl with
    | [x0, x1, x2, x3, x4, x5, x6, x7, x8, x9, x10, x11, x12, x13, x14, x15, x16, x17, x18], _ => rfl
  rw [e1, ha, hb, hs, ht]
  rfl
theorem rd_bat {H : Type} {enc : TypeId × Value → H} {W : World} {cs : List Value} (h : Rd enc W 24 cs) : ∃ b : BatV, cs = b.cells ∧ b.at W := by
  have hl := (h.struct Try.underlying24).1
  rw [(by kernel_rfl : Try.prog.cellsOf 24 = 2)] at hl
  obtain ⟨q, hq⟩ := (h.field Try.underlying24 0 _ rfl 0 1 rfl (by kernel_rfl)).bool Try.underlying4
  obtain ⟨ao, ln, cap, L, h1, h2, h3, h4, _⟩ := (h.field Try.underlying24 1 _ rfl 1 1 rfl (by kernel_rfl)).slice Try.underlying22 (by kernel_rfl : Try.prog.cellsOf 44 = 19) (by decide) (by kernel_rfl : Try.prog.bytesOf 44 = 48)
  obtain ⟨l, h5, h6, h7⟩ := flat_many (f := Req.cells) (p := fun r => r.wf ∧ r.data.size ≤ 140737488351232) fun x hx => rd_req' (h4 x hx).2
  have hll : l.length = ln := by rw [h6, h3]
  refine ⟨⟨q, ao, cap, l⟩, ?_, ?_, h7⟩
  · have e1 : cs = (cs.drop 0).take 1 ++ (cs.drop 1).take 1 := by
      match cs, hl with
      | [x0, x1], _ => rfl
    rw [e1, hq, h1, BatV.cells, hll]
    rfl
  · simp only
    rw [hll, rv, ← h5]
    exact h2
theorem open_bat {H : Type} {enc : TypeId × Value → H} {W : World} {r : Reach} {b0 : Nat} {v : Value} {d : DataW H} {ps : List MemPlace} (hv : Value.okWide Try.prog W r b0 24 v) (h : DataW.Trod enc Try.prog W 0 (fun _ => true) true 24 v d ps) (hw : ∀ n ∈ DataW.weights Try.prog 24 d, n ≤ 140737488351232) :
    ∃ a : BatV, v = .agg a.cells.toArray ∧ a.at W := by
  obtain ⟨cs, rfl, _⟩ := okWide_struct Try.underlying24 hv
  obtain ⟨a, h1, h2⟩ := rd_bat (Rd.of h hw)
  exact ⟨a, by rw [toList_agg h1], h2⟩
abbrev bat_zero : Value := .agg #[.bool false, .slice none 0 0]
theorem bvs_box {w : World} {e : TypeId} (l : List BatV) (n : Nat) (hn : l.length = n) (h : n ≤ maxLen) : Sl (w.alloc (.cells (bvs l).toArray e)) 2 (some ⟨w.heap.size, 0, none⟩) n n (bvs l) :=
  ⟨by
    unfold bvs
    rw [flat_length (sz := 2) _ (by intro x hx; obtain ⟨b, _, rfl⟩ := List.mem_map.1 hx; rfl), List.length_map, hn], Nat.le_refl _, h, (fun e => by cases e), fun b hb => by injection hb with hb; subst hb; exact box_cells w (bvs l) e⟩
theorem reqPuts_inj : ∀ (l m : List Req), (∀ r ∈ l, r.tag.length = 16 ∧ 0 ≤ r.client ∧ r.client ≤ 8 ∧ 0 ≤ r.num ∧ r.num ≤ 1099511627776 ∧ r.data.size ≤ 64) → (∀ r ∈ m, r.tag.length = 16 ∧ 0 ≤ r.client ∧ r.client ≤ 8 ∧ 0 ≤ r.num ∧ r.num ≤ 1099511627776 ∧ r.data.size ≤ 64) → l.length = m.length → reqPuts l = reqPuts m → l = m := by
  intro l
  induction l with
  | nil => intro m _ _ hl _; exact (List.eq_nil_of_length_eq_zero hl.symm).symm
  | cons x l ih =>
    intro m hx hm hl he
    rcases m with _ | ⟨y, m⟩
    · simp at hl
    · obtain ⟨a0, a1, a2, a3, a4, a5⟩ := hx x (List.mem_cons_self ..)
      obtain ⟨b0, b1, b2, b3, b4, b5⟩ := hm y (List.mem_cons_self ..)
      have e1 : reqPuts (x :: l) = reqPut x ++ reqPuts l := by simp [reqPuts]
      have e2 : reqPuts (y :: m) = reqPut y ++ reqPuts m := by simp [reqPuts]
      have g1 := reqGet_put x (reqPuts l) a0 a1 a2 a3 a4 a5
      have g2 := reqGet_put y (reqPuts m) b0 b1 b2 b3 b4 b5
      rw [← e1, he, e2, g2] at g1
      injection g1 with h1 h2
      injection h2 with h3 _
      rw [h1, ih m (fun r hr => hx r (List.mem_cons_of_mem _ hr)) (fun r hr => hm r (List.mem_cons_of_mem _ hr)) (by simpa using hl) h3.symm]
theorem batPut_inj {a b : BatV} {w : World} (ha : a.at w) (hb : b.at w) (pa : a.plain) (pb : b.plain) (h : batPut a.noop a.reqs = batPut b.noop b.reqs) : a.noop = b.noop ∧ a.reqs = b.reqs := by
  have n1 := pa.len
  have n2 := pb.len
  have rd : ∀ (q : Bool) (l : List Req), l.length ≤ 4 → (Num.rNum (batPut q l, 0) 5).1 = if q then 0 else l.length + 1 := by
    intro q l hl
    unfold batPut
    cases q
    · simp only [Bool.false_eq_true, if_false]
      rw [show ((l.length : Int) + 1) = ((l.length + 1 : Nat) : Int) from by simp, rNum_put' _ 5 _ (by omega) (by omega)]
    · simp only [if_true]
      have := rNum_put' 0 5 [] (by omega) (by omega)
      rw [List.append_nil] at this
      rw [show Num.putI 0 = Num.putI ((0 : Nat) : Int) from rfl, this]
  have hr := rd a.noop a.reqs n1
  rw [h, rd b.noop b.reqs n2] at hr
  have hno : a.noop = b.noop := by
    revert hr
    cases a.noop <;> cases b.noop <;> simp
  refine ⟨hno, ?_⟩
  cases hq : a.noop
  · rw [hno] at hq
    rw [hno, hq] at hr
    simp only [Bool.false_eq_true, if_false] at hr
    have hlen : a.reqs.length = b.reqs.length := by omega
    rw [hno, hq] at h
    unfold batPut at h
    simp only [Bool.false_eq_true, if_false] at h
    rw [hlen] at h
    have h2 := List.append_cancel_left h
    exact reqPuts_inj _ _ (fun r hr => ⟨(ha.2 r hr).1.1, pa.el r hr⟩) (fun r hr => ⟨(hb.2 r hr).1.1, pb.el r hr⟩) hlen h2
  · rw [pa.noop hq, pb.noop (by rw [← hno]; exact hq)]
end Go.Proofs.Ythgpmgodpedjdaa
