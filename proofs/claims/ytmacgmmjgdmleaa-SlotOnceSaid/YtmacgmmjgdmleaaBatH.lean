/-
  Batches that came in; unlike plain batches have unlike bytes; how one is read, by the program; words that their laws' walks use; what was put is read as it was.
-/
import Derived.Test.YtmacgmmjgdmleaaBat4
import Derived.Test.YtmacgmmjgdmleaaReqG
import Derived.Test.YtmacgmmjgdmleaaBat2
import Derived.Test.YtmacgmmjgdmleaaBat5
namespace Go.Proofs.Ytmacgmmjgdmleaa
open Go Go.ChangeShapes Go.WideShapes Go.ChangeAt Go.RowKit
set_option linter.unusedSimpArgs false
set_option linter.unusedVariables false

set_option maxRecDepth 100000
theorem rd_req' {H : Type} {enc : TypeId × Value → H} {W : World} {cs : List Value} (h : Rd enc W 90 cs) : ∃ r : Req, cs = r.cells ∧ r.wf ∧ r.data.size ≤ 140737488351232 := by
  have hl := (h.struct Try.underlying90).1
  rw [(by kernel_rfl : Try.prog.cellsOf 90 = 19)] at hl
  obtain ⟨a, ha, wa⟩ := (h.field Try.underlying90 0 _ rfl 0 1 rfl (by kernel_rfl)).int Try.underlying3
  obtain ⟨b, hb, wb⟩ := (h.field Try.underlying90 1 _ rfl 1 1 rfl (by kernel_rfl)).int Try.underlying3
  obtain ⟨s, hs, ws⟩ := (h.field Try.underlying90 2 _ rfl 2 1 rfl (by kernel_rfl)).str Try.underlying9
  obtain ⟨l, ht, wl⟩ := (h.field Try.underlying90 3 _ rfl 3 16 rfl (by kernel_rfl)).bytes Try.underlying88 Try.underlying5 (by kernel_rfl) (by kernel_rfl)
  refine ⟨⟨a, b, s, l⟩, ?_, ⟨wl, wa, wb, by show s.size ≤ maxLen; unfold maxLen; omega⟩, ws⟩
  have e1 : cs = (cs.drop 0).take 1 ++ ((cs.drop 1).take 1 ++ ((cs.drop 2).take 1 ++ (cs.drop 3).take 16)) := by
    match cs, hl with
    | [x0, x1, x2, x3, x4, x5, x6, x7, x8, x9, x10, x11, x12, x13, x14, x15, x16, x17, x18], _ => rfl
  rw [e1, ha, hb, hs, ht]
  rfl
theorem rd_bat {H : Type} {enc : TypeId × Value → H} {W : World} {cs : List Value} (h : Rd enc W 26 cs) : ∃ b : BatV, cs = b.cells ∧ b.at W := by
  have hl := (h.struct Try.underlying26).1
  rw [(by kernel_rfl : Try.prog.cellsOf 26 = 2)] at hl
  obtain ⟨q, hq⟩ := (h.field Try.underlying26 0 _ rfl 0 1 rfl (by kernel_rfl)).bool Try.underlying4
  obtain ⟨ao, ln, cap, L, h1, h2, h3, h4, _⟩ := (h.field Try.underlying26 1 _ rfl 1 1 rfl (by kernel_rfl)).slice Try.underlying24 (by kernel_rfl : Try.prog.cellsOf 90 = 19) (by decide) (by kernel_rfl : Try.prog.bytesOf 90 = 48)
  obtain ⟨l, h5, h6, h7⟩ := flat_many (f := Req.cells) (p := fun r => r.wf ∧ r.data.size ≤ 140737488351232) fun x hx => rd_req' (h4 x hx).2
  have hll : l.length = ln := by rw [h6, h3]
  refine ⟨⟨q, ao, cap, l⟩, ?_, ?_, h7⟩
  · have e1 : cs = (cs.drop 0).take 1 ++ (cs.drop 1).take 1 := by
      match cs, hl with
      | [x0, x1], _ => rfl
    rw [e1, hq, h1, BatV.cells, hll]
    rfl
  · simp only
    rw [hll, rv, ← h5]
    exact h2
theorem open_bat {H : Type} {enc : TypeId × Value → H} {W : World} {r : Reach} {b0 : Nat} {v : Value} {d : DataW H} {ps : List MemPlace} (hv : Value.okWide Try.prog W r b0 26 v) (h : DataW.Trod enc Try.prog W 0 (fun _ => true) true 26 v d ps) (hw : ∀ n ∈ DataW.weights Try.prog 26 d, n ≤ 140737488351232) :
    ∃ a : BatV, v = .agg a.cells.toArray ∧ a.at W := by
  obtain ⟨cs, rfl, _⟩ := okWide_struct Try.underlying26 hv
  obtain ⟨a, h1, h2⟩ := rd_bat (Rd.of h hw)
  exact ⟨a, by rw [toList_agg h1], h2⟩
abbrev bat_zero : Value := .agg #[.bool false, .slice none 0 0]
theorem bvs_box {w : World} {e : TypeId} (l : List BatV) (n : Nat) (hn : l.length = n) (h : n ≤ maxLen) : Sl (w.alloc (.cells (bvs l).toArray e)) 2 (some ⟨w.heap.size, 0, none⟩) n n (bvs l) :=
  ⟨by
    unfold bvs
    rw [flat_length (sz := 2) _ (by intro x hx; obtain ⟨b, _, rfl⟩ := List.mem_map.1 hx; rfl), List.length_map, hn], Nat.le_refl _, h, (fun e => by cases e), fun b hb => by injection hb with hb; subst hb; exact box_cells w (bvs l) e⟩
theorem reqPuts_inj : ∀ (l m : List Req), (∀ r ∈ l, r.tag.length = 16 ∧ 0 ≤ r.client ∧ r.client ≤ 8 ∧ 0 ≤ r.num ∧ r.num ≤ 1099511627776 ∧ r.data.size ≤ 64) → (∀ r ∈ m, r.tag.length = 16 ∧ 0 ≤ r.client ∧ r.client ≤ 8 ∧ 0 ≤ r.num ∧ r.num ≤ 1099511627776 ∧ r.data.size ≤ 64) → l.length = m.length → reqPuts l = reqPuts m → l = m := by
  intro l
  induction l with
  | nil => intro m _ _ hl _; exact (List.eq_nil_of_length_eq_zero hl.symm).symm
  | cons x l ih =>
    intro m hx hm hl he
    rcases m with _ | ⟨y, m⟩
    · simp at hl
    · obtain ⟨a0, a1, a2, a3, a4, a5⟩ := hx x (List.mem_cons_self ..)
      obtain ⟨b0, b1, b2, b3, b4, b5⟩ := hm y (List.mem_cons_self ..)
      have e1 : reqPuts (x :: l) = reqPut x ++ reqPuts l := by simp [reqPuts]
      have e2 : reqPuts (y :: m) = reqPut y ++ reqPuts m := by simp [reqPuts]
      have g1 := reqGet_put x (reqPuts l) a0 a1 a2 a3 a4 a5
      have g2 := reqGet_put y (reqPuts m) b0 b1 b2 b3 b4 b5
      rw [← e1, he, e2, g2] at g1
      injection g1 with h1 h2
      injection h2 with h3 _
      rw [h1, ih m (fun r hr => hx r (List.mem_cons_of_mem _ hr)) (fun r hr => hm r (List.mem_cons_of_mem _ hr)) (by simpa using hl) h3.symm]
theorem batPut_inj {a b : BatV} {w : World} (ha : a.at w) (hb : b.at w) (pa : a.plain) (pb : b.plain) (h : batPut a.noop a.reqs = batPut b.noop b.reqs) : a.noop = b.noop ∧ a.reqs = b.reqs := by
  have n1 := pa.len
  have n2 := pb.len
  have rd : ∀ (q : Bool) (l : List Req), l.length ≤ 4 → (Num.rNum (batPut q l, 0) 5).1 = if q then 0 else l.length + 1 := by
    intro q l hl
    unfold batPut
    cases q
    · simp only [Bool.false_eq_true, if_false]
      rw [show ((l.length : Int) + 1) = ((l.length + 1 : Nat) : Int) from by simp, rNum_put' _ 5 _ (by omega) (by omega)]
    · simp only [if_true]
      have := rNum_put' 0 5 [] (by omega) (by omega)
      rw [List.append_nil] at this
      rw [show Num.putI 0 = Num.putI ((0 : Nat) : Int) from rfl, this]
  have hr := rd a.noop a.reqs n1
  rw [h, rd b.noop b.reqs n2] at hr
  have hno : a.noop = b.noop := by
    revert hr
    cases a.noop <;> cases b.noop <;> simp
  refine ⟨hno, ?_⟩
  cases hq : a.noop
  · rw [hno] at hq
    rw [hno, hq] at hr
    simp only [Bool.false_eq_true, if_false] at hr
    have hlen : a.reqs.length = b.reqs.length := by omega
    rw [hno, hq] at h
    unfold batPut at h
    simp only [Bool.false_eq_true, if_false] at h
    rw [hlen] at h
    have h2 := List.append_cancel_left h
    exact reqPuts_inj _ _ (fun r hr => ⟨(ha.2 r hr).1.1, pa.el r hr⟩) (fun r hr => ⟨(hb.2 r hr).1.1, pb.el r hr⟩) hlen h2
  · rw [pa.noop hq, pb.noop (by rw [← hno]; exact hq)]
end Go.Proofs.Ytmacgmmjgdmleaa
namespace Go.Proofs.Ytmacgmmjgdmleaa
open Go Go.RowKit
set_option linter.unusedSimpArgs false
set_option linter.unusedVariables false

theorem own_ne' {w : World} {B t T sz n g : Nat} {v : Value} {xs : List Value} {cs : Array Value} {fr : Nat × Nat} (h : Own w B t sz v n xs) (hb : w.heap[g]? = some (.cells cs T fr)) (hT : t ≠ T) : ∀ b, v.ownBlock = some b → b ≠ g := by
  rintro b hv rfl
  rcases h.2 with ⟨rfl, _⟩ | ⟨g', cap, cur, rfl, h1, h2, _⟩
  · cases hv
  · simp only [Value.ownBlock, Option.some.injEq] at hv
    subst hv
    rw [h2] at hb
    injection hb with hb
    injection hb with _ hb
    exact hT hb
def reqGets : Nat → (List UInt8 × Nat) → List Req × (List UInt8 × Nat)
  | 0, s => ([], s)
  | k + 1, s => ((reqGets k s).1 ++ [(reqGet (reqGets k s).2).1], (reqGet (reqGets k s).2).2)
def batGet (s : List UInt8 × Nat) : (Bool × List Req) × (List UInt8 × Nat) :=
  (if (reqGets ((Num.rNum s 5).1 - 1) (Num.rNum s 5).2).2.2 ≠ 0 then (false, []) else (decide ((Num.rNum s 5).1 = 0), (reqGets ((Num.rNum s 5).1 - 1) (Num.rNum s 5).2).1), (reqGets ((Num.rNum s 5).1 - 1) (Num.rNum s 5).2).2)
theorem reqGets_length (s : List UInt8 × Nat) : ∀ k, (reqGets k s).1.length = k := by
  intro k
  induction k with
  | zero => rfl
  | succ k ih => simp [reqGets, ih]
theorem reqGets_le (s : List UInt8 × Nat) : ∀ k, (reqGets k s).2.1.length ≤ s.1.length := by
  intro k
  induction k with
  | zero => exact Nat.le_refl _
  | succ k ih => exact Nat.le_trans (reqGet_le _) ih
theorem rNum_most (s : List UInt8 × Nat) (m : Int) (h : 0 ≤ m) : ((Num.rNum s m).1 : Int) ≤ m := by
  unfold Num.rNum
  split
  · simpa using h
  · split
    split
    · simpa using h
    · split
      · simpa using h
      · simp only
        omega
theorem fold_set (cs : List Value) : ∀ (pre Z : List Value), Z.length = cs.length → List.foldl (fun (c : Array Value) p => c.setIfInBounds p.2 p.1) (pre ++ Z).toArray (cs.zipIdx pre.length) = (pre ++ cs).toArray := by
  induction cs with
  | nil => intro pre Z h; have : Z = [] := List.eq_nil_of_length_eq_zero h; simp [this]
  | cons c cs ih =>
    intro pre Z h
    rcases Z with _ | ⟨z, Z⟩
    · simp at h
    · rw [List.zipIdx_cons, List.foldl_cons]
      have e : (pre ++ z :: Z).toArray.setIfInBounds pre.length c = ((pre ++ [c]) ++ Z).toArray := by
        rw [List.setIfInBounds_toArray, List.set_append_right _ _ (Nat.le_refl _)]
        simp
      simp only
      rw [e]
      have := ih (pre ++ [c]) Z (by simpa using h)
      rw [show (pre ++ [c]).length = pre.length + 1 from by simp] at this
      rw [this]
      simp
theorem fold_set' (cs : List Value) (Z : Array Value) (h : Z.size = cs.length) : List.foldl (fun (c : Array Value) p => c.setIfInBounds p.2 p.1) Z cs.zipIdx = cs.toArray := by
  have := fold_set cs [] Z.toList (by simpa using h)
  simpa using this
theorem reqsT : SlT Try.prog 24 90 (.agg zeroReq.cells.toArray) 19 48 := ⟨Try.underlying24, by kernel_rfl, by kernel_rfl, by decide⟩
def RetBat (w : World) (rb db : Nat) (x : (Bool × List Req) × (List UInt8 × Nat)) (e : Ending) (w' : World) : Prop :=
  ∃ ao c, e = .returned (.agg #[.bool x.1.1, .slice ao x.1.2.length c]) ∧ Sl w' 19 ao x.1.2.length c (rv x.1.2) ∧ Rdr w' rb db x.2 ∧ Keep (· = rb) w w' ∧ ∀ a, ao = some a → w.heap.size ≤ a.block
def isOne (B : Nat) (cs : List Value) (T : TypeId) : Value → World → Prop := fun v w => ∃ g, v = .slice (some ⟨g, 0, none⟩) 1 1 ∧ B ≤ g ∧ w.heap[g]? = some (.cells cs.toArray T (0, 0))
theorem isOne_stable (B : Nat) (cs : List Value) (T : TypeId) : Stable Same (isOne B cs T) := fun _ _ _ k ⟨g, h, hB, hb⟩ => ⟨g, h, hB, k.at hb⟩
def isGot' (rb db : Nat) (r : Req) (s : List UInt8 × Nat) : Value → World → Prop := fun v w => v = .agg r.cells.toArray ∧ Rdr w rb db s
theorem isGot'_stable (rb db : Nat) (r : Req) (s : List UInt8 × Nat) : Stable Same (isGot' rb db r s) := fun _ _ _ k ⟨h, h1⟩ => ⟨h, h1.same k⟩
theorem rv_one (l : List Req) (r : Req) : rv l ++ r.cells = rv (l ++ [r]) := by simp [rv]
theorem req_cell {r : Req} : ∀ u ∈ r.cells, u.oneCell' = true := by
  intro u hu
  have := req_one r
  simp only [List.all_toArray, List.all_eq_true] at this
  exact this u hu
theorem bat_cells (q : Bool) (v : Value) : (Try.prog.info? 26).map (·.size) = some (#[Value.bool q, v] : Array Value).size := by
  show _ = some 2
  kernel_rfl
end Go.Proofs.Ytmacgmmjgdmleaa
namespace Go.Proofs.Ytmacgmmjgdmleaa
open Go Go.RowKit
set_option linter.unusedSimpArgs false
set_option linter.unusedVariables false

section
variable {P : Program} {ops : Array Oper} {rest : List Oper} {o : Oper} {a : Act} {Q : Exit → Act → World → Prop}
/-- A slice built of parts, told by a name. -/
theorem build_sl {W W' : World} {ty : TypeId} {n : Nat} {parts : Array (Nat × Operand)} (v : Value) (hg : Region.wanted o (yielded ops a.tmps) = true) (_ho : o.op = .buildSlice ty n parts) (hr : (execOp a.eval o).run P W = .ok (.value v) W') (h : wpList P ops Q rest (a.put o.dst v) W') : wpList P ops Q (o :: rest) a W :=
  wpL_value hg hr h
end
theorem batSame_iff (a b : BatV) : batSame a b = true ↔ a.noop = b.noop ∧ a.reqs = b.reqs := by simp [batSame]
theorem reqGets_put {l : List Req} {rest : List UInt8} (h : ∀ r ∈ l, r.tag.length = 16 ∧ 0 ≤ r.client ∧ r.client ≤ 8 ∧ 0 ≤ r.num ∧ r.num ≤ 1099511627776 ∧ r.data.size ≤ 64) : ∀ k, k ≤ l.length → reqGets k (reqPuts l ++ rest, 0) = (l.take k, (reqPuts (l.drop k) ++ rest, 0)) := by
  intro k
  induction k with
  | zero => intro _; simp [reqGets]
  | succ k ih =>
    intro hk
    have e := ih (by omega)
    obtain ⟨a0, a1, a2, a3, a4, a5⟩ := h _ (reqAt_mem (l := l) (i := k) (by omega))
    have hd : l.drop k = reqAt l k :: l.drop (k + 1) := by
      have h1 := reqAt_get (l := l) (i := k) (by omega)
      rw [List.getElem?_eq_getElem (show k < l.length by omega)] at h1
      injection h1 with h1
      rw [← h1]
      exact List.drop_eq_getElem_cons (by omega)
    have hp : reqPuts (l.drop k) = reqPut (reqAt l k) ++ reqPuts (l.drop (k + 1)) := by
      rw [hd]
      simp [reqPuts]
    have ht : l.take (k + 1) = l.take k ++ [reqAt l k] := by
      rw [List.take_succ_eq_append_getElem (show k < l.length by omega)]
      simp [reqAt, List.getD, show k < l.length by omega]
    unfold reqGets
    simp only [e]
    rw [hp, List.append_assoc, reqGet_put _ _ a0 a1 a2 a3 a4 a5, ht]
theorem batGet_put {b : BatV} {w : World} (hb : b.at w) (pb : b.plain) (rest : List UInt8) : batGet (batPut b.noop b.reqs ++ rest, 0) = ((b.noop, b.reqs), (rest, 0)) := by
  unfold batGet
  have hall : ∀ r ∈ b.reqs, r.tag.length = 16 ∧ 0 ≤ r.client ∧ r.client ≤ 8 ∧ 0 ≤ r.num ∧ r.num ≤ 1099511627776 ∧ r.data.size ≤ 64 := fun r hr => ⟨(hb.2 r hr).1.1, pb.el r hr⟩
  have hlen := pb.len
  cases hq : b.noop
  · have e1 : Num.rNum (batPut false b.reqs ++ rest, 0) 5 = (b.reqs.length + 1, (reqPuts b.reqs ++ rest, 0)) := by
      unfold batPut
      simp only [Bool.false_eq_true, if_false]
      rw [List.append_assoc, show ((b.reqs.length : Int) + 1) = ((b.reqs.length + 1 : Nat) : Int) from by simp, rNum_put' _ 5 _ (by omega) (by omega)]
    rw [e1]
    simp only [Nat.add_sub_cancel]
    have e2 := reqGets_put (rest := rest) hall b.reqs.length (Nat.le_refl _)
    rw [List.take_of_length_le (Nat.le_refl _), List.drop_of_length_le (Nat.le_refl _)] at e2
    rw [e2]
    simp [reqPuts]
  · have e1 : Num.rNum (batPut true b.reqs ++ rest, 0) 5 = (0, (rest, 0)) := by
      unfold batPut
      simp only [if_true]
      rw [show Num.putI 0 = Num.putI ((0 : Nat) : Int) from rfl, rNum_put' 0 5 rest (by omega) (by omega)]
    rw [e1]
    simp [reqGets, pb.noop hq]
def isGotB (rb db : Nat) (q : Bool) (l : List Req) (s : List UInt8 × Nat) : Value → World → Prop := fun v w => ∃ ao c, v = .agg #[.bool q, .slice ao l.length c] ∧ Sl w 19 ao l.length c (rv l) ∧ Rdr w rb db s
theorem isGotB_stable (rb db : Nat) (q : Bool) (l : List Req) (s : List UInt8 × Nat) : Stable Same (isGotB rb db q l s) := fun _ _ _ k ⟨ao, c, h, h1, h2⟩ => ⟨ao, c, h, h1.same k, h2.same k⟩
end Go.Proofs.Ytmacgmmjgdmleaa
