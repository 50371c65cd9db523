/-
  Batches that came in; unlike plain batches have unlike bytes; how one is read, by the program; words that their laws' walks use; what was put is read as it was.
-/
import Derived.Test.YthgpmgodpedjdaaBat4
import Derived.Test.YthgpmgodpedjdaaReqG
import Derived.Test.YthgpmgodpedjdaaBat2
import Derived.Test.YthgpmgodpedjdaaBat5
namespace Go.Proofs.Ythgpmgodpedjdaa
open Go Go.ChangeShapes Go.WideShapes Go.ChangeAt Go.RowKit
set_option linter.unusedSimpArgs false
set_option linter.unusedVariables false

set_option maxRecDepth 100000
theorem rd_req' {H : Type} {enc : TypeId × Value → H} {W : World} {cs : List Value} (h : Rd enc W 44 cs) : ∃ r : Req, cs = r.cells ∧ r.wf ∧ r.data.size ≤ 140737488351232 := by
  have hl := (h.struct Try.underlying44).1
  rw [(by kernel_rfl : Try.prog.cellsOf 44 = 19)] at hl
  obtain ⟨a, ha, wa⟩ := (h.field Try.underlying44 0 _ rfl 0 1 rfl (by kernel_rfl)).int Try.underlying3
  obtain ⟨b, hb, wb⟩ := (h.field Try.underlying44 1 _ rfl 1 1 rfl (by kernel_rfl)).int Try.underlying3
  obtain ⟨s, hs, ws⟩ := (h.field Try.underlying44 2 _ rfl 2 1 rfl (by kernel_rfl)).str Try.underlying9
  obtain ⟨l, ht, wl⟩ := (h.field Try.underlying44 3 _ rfl 3 16 rfl (by kernel_rfl)).bytes Try.underlying42 Try.underlying5 (by kernel_rfl) (by kernel_rfl)
  refine ⟨⟨a, b, s, l⟩, ?_, ⟨wl, wa, wb, by show s.size ≤ maxLen; unfold maxLen; omega⟩, ws⟩
  have e1 : cs = (cs.drop 0).take 1 ++ ((cs.drop 1).take 1 ++ ((cs.drop 2).take 1 ++ (cs.drop 3).take 16)) := by
    match cs, hl with
    | [x0, x1, x2, x3, x4, x5, x6, x7, x8, x9, x10, x11, x12, x13, x14, x15, x16, x17, x18], _ => rfl
  rw [e1, ha, hb, hs, ht]
  rfl
theorem rd_bat {H : Type} {enc : TypeId × Value → H} {W : World} {cs : List Value} (h : Rd enc W 24 cs) : ∃ b : BatV, cs = b.cells ∧ b.at W := by
  have hl := (h.struct Try.underlying24).1
  rw [(by kernel_rfl : Try.prog.cellsOf 24 = 2)] at hl
  obtain ⟨q, hq⟩ := (h.field Try.underlying24 0 _ rfl 0 1 rfl (by kernel_rfl)).bool Try.underlying4
  obtain ⟨ao, ln, cap, L, h1, h2, h3, h4, _⟩ := (h.field Try.underlying24 1 _ rfl 1 1 rfl (by kernel_rfl)).slice Try.underlying22 (by kernel_rfl : Try.prog.cellsOf 44 = 19) (by decide) (by kernel_rfl : Try.prog.bytesOf 44 = 48)
  obtain ⟨l, h5, h6, h7⟩ := flat_many (f := Req.cells) (p := fun r => r.wf ∧ r.data.size ≤ 140737488351232) fun x hx => rd_req' (h4 x hx).2
  have hll : l.length = ln := by rw [h6, h3]
  refine ⟨⟨q, ao, cap, l⟩, ?_, ?_, h7⟩
  · have e1 : cs = (cs.drop 0).take 1 ++ (cs.drop 1).take 1 := by
      match cs, hl with
      | [x0, x1], _ => rfl
    rw [e1, hq, h1, BatV.cells, hll]
    rfl
  · simp only
    rw [hll, rv, ← h5]
    exact h2
theorem open_bat {H : Type} {enc : TypeId × Value → H} {W : World} {r : Reach} {b0 : Nat} {v : Value} {d : DataW H} {ps : List MemPlace} (hv : Value.okWide Try.prog W r b0 24 v) (h : DataW.Trod enc Try.prog W 0 (fun _ => true) true 24 v d ps) (hw : ∀ n ∈ DataW.weights Try.prog 24 d, n ≤ 140737488351232) :
    ∃ a : BatV, v = .agg a.cells.toArray ∧ a.at W := by
  obtain ⟨cs, rfl, _⟩ := okWide_struct Try.underlying24 hv
  obtain ⟨a, h1, h2⟩ := rd_bat (Rd.of h hw)
  exact ⟨a, by rw [toList_agg h1], h2⟩
abbrev bat_zero : Value := .agg #[.bool false, .slice none 0 0]
theorem bvs_box {w : World} {e : TypeId} (l : List BatV) (n : Nat) (hn : l.length = n) (h : n ≤ maxLen) : Sl (w.alloc (.cells (bvs l).toArray e)) 2 (some ⟨w.heap.size, 0, none⟩) n n (bvs l) :=
  ⟨by
    unfold bvs
    rw [flat_length (sz := 2) _ (by intro x hx; obtain ⟨b, _, rfl⟩ := List.mem_map.1 hx; rfl), List.length_map, hn], Nat.le_refl _, h, (fun e => by cases e), fun b hb => by injection hb with hb; subst hb; exact box_cells w (bvs l) e⟩
theorem reqPuts_inj : ∀ (l m : List Req), (∀ r ∈ l, r.tag.length = 16 ∧ 0 ≤ r.client ∧ r.client ≤ 8 ∧ 0 ≤ r.num ∧ r.num ≤ 1099511627776 ∧ r.data.size ≤ 64) → (∀ r ∈ m, r.tag.length = 16 ∧ 0 ≤ r.client ∧ r.client ≤ 8 ∧ 0 ≤ r.num ∧ r.num ≤ 1099511627776 ∧ r.data.size ≤ 64) → l.length = m.length → reqPuts l = reqPuts m → l = m := by
  intro l
  induction l with
  | nil => intro m _ _ hl _; exact (List.eq_nil_of_length_eq_zero hl.symm).symm
  | cons x l ih =>
    intro m hx hm hl he
    rcases m with _ | ⟨y, m⟩
    · simp at hl
    · obtain ⟨a0, a1, a2, a3, a4, a5⟩ := hx x (List.mem_cons_self ..)
      obtain ⟨b0, b1, b2, b3, b4, b5⟩ := hm y (List.mem_cons_self ..)
      have e1 : reqPuts (x :: l) = reqPut x ++ reqPuts l := by simp [reqPuts]
      have e2 : reqPuts (y :: m) = reqPut y ++ reqPuts m := by simp [reqPuts]
      have g1 := reqGet_put x (reqPuts l) a0 a1 a2 a3 a4 a5
      have g2 := reqGet_put y (reqPuts m) b0 b1 b2 b3 b4 b5
      rw [← e1, he, e2, g2] at g1
      injection g1 with h1 h2
      injection h2 with h3 _
      rw [h1, ih m (fun r hr => hx r (List.mem_cons_of_mem _ hr)) (fun r hr => hm r (List.mem_cons_of_mem _ hr)) (by simpa using hl) h3.symm]
theorem batPut_inj {a b : BatV} {w : World} (ha : a.at w) (hb : b.at w) (pa : a.plain) (pb : b.plain) (h : batPut a.noop a.reqs = batPut b.noop b.reqs) : a.noop = b.noop ∧ a.reqs = b.reqs := by
  have n1 := pa.len
  have n2 := pb.len
  have rd : ∀ (q : Bool) (l : List Req), l.length ≤ 4 → (Num.rNum (batPut q l, 0) 5).1 = if q then 0 else l.length + 1 := by
    intro q l hl
    unfold batPut
    cases q
    · simp only [Bool.false_eq_true, if_false]
      rw [show ((l.length : Int) + 1) = ((l.length + 1 : Nat) : Int) from by simp, rNum_put' _ 5 _ (by omega) (by omega)]
    · simp only [if_true]
      have := rNum_put' 0 5 [] (by omega) (by omega)
      rw [List.append_nil] at this
      rw [show Num.putI 0 = Num.putI ((0 : Nat) : Int) from rfl, this]
  have hr := rd a.noop a.reqs n1
  rw [h, rd b.noop b.reqs n2] at hr
  have hno : a.noop = b.noop := by
    revert hr
    cases a.noop <;> cases b.noop <;> simp
  refine ⟨hno, ?_⟩
  cases hq : a.noop
  · rw [hno] at hq
    rw [hno, hq] at hr
    simp only [Bool.false_eq_true, if_false] at hr
    have hlen : a.reqs.length = b.reqs.length := by omega
    rw [hno, hq] at h
    unfold batPut at h
    simp only [Bool.false_eq_true, if_false] at h
    rw [hlen] at h
    have h2 := List.append_cancel_left h
    exact reqPuts_inj _ _ (fun r hr => ⟨(ha.2 r hr).1.1, pa.el r hr⟩) (fun r hr => ⟨(hb.2 r hr).1.1, pb.el r hr⟩) hlen h2
  · rw [pa.noop hq, pb.noop (by rw [← hno]; exact hq)]
end Go.Proofs.Ythgpmgodpedjdaa
namespace Go.Proofs.Ythgpmgodpedjdaa
open Go Go.RowKit
set_option linter.unusedSimpArgs false
set_option linter.unusedVariables false

theorem own_ne' {w : World} {B t T sz n g : Nat} {v : Value} {xs : List Value} {cs : Array Value} {fr : Nat × Nat} (h : Own w B t sz v n xs) (hb : w.heap[g]? = some (.cells cs T fr)) (hT : t ≠ T) : ∀ b, v.ownBlock = some b → b ≠ g := by
  rintro b hv rfl
  rcases h.2 with ⟨rfl, _⟩ | ⟨g', cap, cur, rfl, h1, h2, _⟩
  · cases hv
  · simp only [Value.ownBlock, Option.some.injEq] at hv
    subst hv
    rw [h2] at hb
    injection hb with hb
    injection hb with _ hb
    exact hT hb
def reqGets : Nat → (List UInt8 × Nat) → List Req × (List UInt8 × Nat)
  | 0, s => ([], s)
  | k + 1, s => ((reqGets k s).1 ++ [(reqGet (reqGets k s).2).1], (reqGet (reqGets k s).2).2)
def batGet (s : List UInt8 × Nat) : (Bool × List Req) × (List UInt8 × Nat) :=
  (if (reqGets ((Num.rNum s 5).1 - 1) (Num.rNum s 5).2).2.2 ≠ 0 then (false, []) else (decide ((Num.rNum s 5).1 = 0), (reqGets ((Num.rNum s 5).1 - 1) (Num.rNum s 5).2).1), (reqGets ((Num.rNum s 5).1 - 1) (Num.rNum s 5).2).2)
theorem reqGets_length (s : List UInt8 × Nat) : ∀ k, (reqGets k s).1.length = k := by
  intro k
  induction k with
  | zero => rfl
  | succ k ih => simp [reqGets, ih]
theorem reqGets_le (s : List UInt8 × Nat) : ∀ k, (reqGets k s).2.1.length ≤ s.1.length := by
  intro k
  induction k with
  | zero => exact Nat.le_refl _
  | succ k ih => exact Nat.le_trans (reqGet_le _) ih
theorem rNum_most (s : List UInt8 × Nat) (m : Int) (h : 0 ≤ m) : ((Num.rNum s m).1 : Int) ≤ m := by
  unfold Num.rNum
  split
  · simpa using h
  · split
    split
    · simpa using h
    · split
      · simpa using h
      · simp only
        omega
theorem fold_set (cs : List Value) : ∀ (pre Z : List Value), Z.length = cs.length → List.foldl (fun (c : Array Value) p => c.setIfInBounds p.2 p.1) (pre ++ Z).toArray (cs.zipIdx pre.length) = (pre ++ cs).toArray := by
  induction cs with
  | nil => intro pre Z h; have : Z = [] := List.eq_nil_of_length_eq_zero h; simp [this]
  | cons c cs ih =>
    intro pre Z h
    rcases Z with _ | ⟨z, Z⟩
    · simp at h
    · rw [List.zipIdx_cons, List.foldl_cons]
      have e : (pre ++ z :: Z).toArray.setIfInBounds pre.length c = ((pre ++ [c]) ++ Z).toArray := by
        rw [List.setIfInBounds_toArray, List.set_append_right _ _ (Nat.le_refl _)]
        simp
      simp only
      rw [e]
      have := ih (pre ++ [c]) Z (by simpa using h)
      rw [show (pre ++ [c]).length = pre.length + 1 from by simp] at this
      rw [this]
      simp
theorem fold_set' (cs : List Value) (Z : Array Value) (h : Z.size = cs.length) : List.foldl (fun (c : Array Value) p => c.setIfInBounds p.2 p.1) Z cs.zipIdx = cs.toArray := by
  have := fold_set cs [] Z.toList (by simpa using h)
  simpa using this
theorem reqsT : SlT Try.prog 22 44 (.agg zeroReq.cells.toArray) 19 48 := ⟨Try.underlying22, by kernel_rfl, by kernel_rfl, by decide⟩
def RetBat (w : World) (rb db : Nat) (x : (Bool × List Req) × (List UInt8 × Nat)) (e : Ending) (w' : World) : Prop :=
  ∃ ao c, e = .returned (.agg #[.bool x.1.1, .slice ao x.1.2.length c]) ∧ Sl w' 19 ao x.1.2.length c (rv x.1.2) ∧ Rdr w' rb db x.2 ∧ Keep (· = rb) w w' ∧ ∀ a, ao = some a → w.heap.size ≤ a.block
def isOne (B : Nat) (cs : List Value) (T : TypeId) : Value → World → Prop := fun v w => ∃ g, v = .slice (some ⟨g, 0, none⟩) 1 1 ∧ B ≤ g ∧ w.heap[g]? = some (.cells cs.toArray T (0, 0))
theorem isOne_stable (B : Nat) (cs : List Value) (T : TypeId) : Stable Same (isOne B cs T) := fun _ _ _ k ⟨g, h, hB, hb⟩ => ⟨g, h, hB, k.at hb⟩
def isGot' (rb db : Nat) (r : Req) (s : List UInt8 × Nat) : Value → World → Prop := fun v w => v = .agg r.cells.toArray ∧ Rdr w rb db s
theorem isGot'_stable (rb db : Nat) (r : Req) (s : List UInt8 × Nat) : Stable Same (isGot' rb db r s) := fun _ _ _ k ⟨h, h1⟩ => ⟨h, h1.same k⟩
theorem rv_one (l : List Req) (r : Req) : rv l ++ r.cells = rv (l ++ [r]) := by simp [rv]
theorem req_cell {r : Req} : ∀ u ∈ r.cells, u.oneCell' = true := by
  intro u hu
  have := req_one r
  simp only [List.all_toArray, List.all_eq_true] at this
  exact this u hu
theorem bat_cells (q : Bool) (v : Value) : (Try.prog.info? 24).map (·.size) = some (#[Value.bool q, v] : Array Value).size := by
  show _ = some 2
  kernel_rfl
set_option maxRecDepth 100000 in
set_option maxHeartbeats 3200000 in
theorem bget_any (rb db : Nat) (s : List UInt8 × Nat) (w : World) (h : Rdr w rb db s) (hl : s.1.length ≤ 100000000) :
    Calls Try.prog 45 #[.pointer (some ⟨rb, 0, none⟩)] w (RetBat w rb db (batGet s)) := by
  have hq := fun w h => num_any rb db s 5 w h
  have k1 := rNum_le' s 5
  have k5 := rNum_most s 5 (by omega)
  unfold batGet
  obtain ⟨A, hA⟩ : ∃ A, A = Num.rNum s 5 := ⟨_, rfl⟩
  rw [← hA] at hq k1 k5 ⊢
  obtain ⟨n, sa⟩ := A
  simp only at hq k1 k5 ⊢
  unfold RetNum at hq
  simp only at hq
  have hget := fun k w h => rqget_any rb db (reqGets k sa).2 w h (by have := reqGets_le sa k; omega)
  have hlen := reqGets_length sa
  obtain ⟨l1, l2, l3⟩ := h.lt
  obtain ⟨b2, hb2⟩ : ∃ b, b = w.heap.size := ⟨_, rfl⟩
  have n1 : b2 ≠ rb := by omega
  have n2 : b2 ≠ db := by omega
  have n3 : ¬ rb = b2 := by omega
  have n4 : ¬ db = b2 := by omega
  obtain ⟨G, hG⟩ : ∃ G : Nat → List Req × (List UInt8 × Nat), G = fun k => reqGets k sa := ⟨_, rfl⟩
  have hGs : ∀ k, G (k + 1) = ((G k).1 ++ [(reqGet (G k).2).1], (reqGet (G k).2).2) := by
    intro k
    rw [hG]
    rfl
  have hG0 : G 0 = ([], sa) := by rw [hG]; rfl
  have hGl : ∀ k, (G k).1.length = k := by rw [hG]; exact hlen
  have hget : ∀ k w, Rdr w rb db (G k).2 → Calls Try.prog 68 #[.pointer (some ⟨rb, 0, none⟩)] w (RetGet w rb db (reqGet (G k).2)) := by
    rw [hG]
    exact hget
  rw [show reqGets (n - 1) sa = G (n - 1) from by rw [hG]]
  have hgt : ∀ k, (reqGet (G k).2).1.tag.length = 16 := fun k => reqGet_tag _
  unfold RetGet at hget
  obtain ⟨R, hR⟩ : ∃ R, R = ((if (G (n - 1)).2.2 ≠ 0 then (false, []) else (decide (n = 0), (G (n - 1)).1), (G (n - 1)).2) : (Bool × List Req) × (List UInt8 × Nat)) := ⟨_, rfl⟩
  rw [← hR]
  have hR2 : R.2 = (G (n - 1)).2 := by rw [hR]
  clear hG hlen hA hl k1
  replace hR := Lib.hid hR
  replace hR2 := Lib.hid hR2
  replace h := Lib.hid h
  replace hq := Lib.hid hq
  replace hget := Lib.hid hget
  replace hGs := Lib.hid hGs
  replace hG0 := Lib.hid hG0
  replace hGl := Lib.hid hGl
  replace hgt := Lib.hid hgt
  replace hb2 := Lib.hid hb2
  go_enter Try.func45, Try.ntmps45
  go_upto_region 1 with (refine alloc_new rfl 24 rfl #[.bool false, .slice none 0 0] (by kernel_rfl) ?_; intro w1 hd hs1)
  rw [← hb2.out] at hd ⊢
  have hr1 := Lib.hid (h.out.same hs1)
  have hk1 := Lib.hid (Keep.of_same (p := (· = rb)) hs1)
  have hb1l := blk_lt hd
  replace hd := Lib.hid hd
  clear hs1 h
  go_wp2_with fail
  refine (hq.out _ hr1.out).mono ?_
  rintro e w2 ⟨rfl, hr2, hk2⟩
  have hd2 := (hk2.block _ hb1l n1).trans hd.out
  have hk02 := Lib.hid (hk1.out.trans hk2 (fun _ _ h => h))
  clear hk2 hr1 hk1 hd
  replace hd2 := Lib.hid hd2
  replace hr2 := Lib.hid hr2
  go_wp2
  go_loopw [6] (fun i wr => ∃ (k : Nat) (v : Value), k ≤ n - 1 ∧ i = .int .i64 (k + 1 : Nat) ∧ wr.heap[b2]? = some (.cells #[.bool false, v] 24 (0, 0)) ∧ Own wr w.heap.size 44 19 v k (rv (G k).1) ∧ Rdr wr rb db (G k).2 ∧ Keep (· = rb) w wr) (fun i _ => n - (intOf i).toNat)
  case atStart => exact ⟨0, _, by omega, rfl, hd2.out, by rw [hG0.out]; exact Own.nil _ _ _ _, by rw [hG0.out]; exact hr2.out, hk02.out⟩
  case round =>
    obtain ⟨k, v, hk, rfl, hdk, hov, hrk, hkk⟩ := hrel
    by_cases hlt : k + 1 < n
    · have hgk := fun w h => hget.out k w h
      have hGk := hGs.out k
      have hT := hgt.out k
      have hll := hGl.out k
      obtain ⟨X, hX⟩ : ∃ X, X = reqGet (G k).2 := ⟨_, rfl⟩
      simp only [← hX] at hgk hGk hT
      obtain ⟨q, sx⟩ := X
      simp only at hgk hGk hT
      have hcl := Req.cells_length hT
      have hfold := fold_set' q.cells
      have hvb := hov.lt
      have hvn := own_ne' hov hdk (by decide)
      have hvbase := hov.base
      have hdl := blk_lt hdk
      have u1 : ((k + 1 : Nat) : Int) < (n : Int) := by omega
      have c1 : wr.cell? ⟨b2, 1, none⟩ = some v := by rw [blk_cell hdk]; rfl
      have hkz := hkk.size
      clear hX
      replace hgk := Lib.hid hgk
      replace hGk := Lib.hid hGk
      replace hT := Lib.hid hT
      replace hll := Lib.hid hll
      replace hcl := Lib.hid hcl
      replace hfold := Lib.hid hfold
      replace hvb := Lib.hid hvb
      replace hvn := Lib.hid hvn
      replace hvbase := Lib.hid hvbase
      replace hdk := Lib.hid hdk
      replace hov := Lib.hid hov
      replace hrk := Lib.hid hrk
      replace hkk := Lib.hid hkk
      replace c1 := Lib.hid c1
      go_upto_region 6 with fail
      refine wp_region_mut (by kernel_rfl) [(18, 0), (19, 1), (20, 2), (21, 3), (22, 4)] [(3, (Keep (fun x => x = rb)))] [(3, [3]), (4, [3]), (1000, [3])] [0, 1, 2, 3, 4] [[], [0], [], [2, 1000], [3]] Same (Keep (fun x => x = rb) wr) [(fun w => Rdr w rb db (G k).2)] [isV (.pointer (some ⟨b2, 1, none⟩)), isV v, isV (.pointer (some ⟨rb, 0, none⟩)), isGot' rb db q sx, isOne wr.heap.size q.cells 44] (Keep.drew) (by intro g hg; simp only [List.mem_cons, List.not_mem_nil, or_false] at hg; obtain rfl := hg; exact (hrk.out.same Same.refl.drew)) (fun _ _ h k => h.trans (Keep.of_same (p := fun _ => False) k) (fun _ _ h => h.elim)) (by intro g hg; simp only [List.mem_cons, List.not_mem_nil, or_false] at hg; obtain rfl := hg; exact (fun _ _ h k => h.trans k (fun x _ hx => hx))) (by simp [isV_stable, isB_stable, isAny_stable, isGot'_stable, isOne_stable]) (by intro g hg; simp only [List.mem_cons, List.not_mem_nil, or_false] at hg; obtain rfl := hg; exact (fun _ _ k h => h.same k)) (by simp [killsOf, List.zipIdx_cons, isV_stable, isAny_stable]) (by simp [killsOf, List.zipIdx_cons]) (by decide) (l := [_, _, _, _, _]) rfl (by decide) (by kernel_rfl) (by kernel_rfl) (by kernel_rfl) (by decide) ?_ ?_
      · refine ⟨?_, ?_, ?_, ?_, ?_, trivial⟩
        all_goals (intro u wx hI hp; simp only [mkAct, List.foldl_cons, List.foldl_nil, List.setIfInBounds_toArray, List.set_cons_succ, List.set_cons_zero])
        · -- operation 0
          go_wp2
          refine stg_v (x := (.pointer (some ⟨b2, 1, none⟩))) rfl Same.refl ?_
          first | (simp only [mkAct, List.foldl_cons, List.foldl_nil, List.setIfInBounds_toArray, List.set_cons_succ, List.set_cons_zero, upd, reduceIte, Nat.reduceEqDiff, Nat.reduceAdd, str]; done) | (simp [mkAct, upd, str, *]; done)
        · -- operation 1
          obtain ⟨f0, -⟩ := hp
          replace f0 : u 0 = (.pointer (some ⟨b2, 1, none⟩)) := f0
          try simp only [f0, str]
          have c2 := hI.cell c1.out n1
          go_wp2
          refine stg_v (x := v) rfl Same.refl ?_
          first | (simp only [mkAct, List.foldl_cons, List.foldl_nil, List.setIfInBounds_toArray, List.set_cons_succ, List.set_cons_zero, upd, reduceIte, Nat.reduceEqDiff, Nat.reduceAdd, f0, str]; done) | (simp [mkAct, upd, f0, str, *]; done)
        · -- operation 2
          go_wp2
          refine stg_v (x := (.pointer (some ⟨rb, 0, none⟩))) rfl Same.refl ?_
          first | (simp only [mkAct, List.foldl_cons, List.foldl_nil, List.setIfInBounds_toArray, List.set_cons_succ, List.set_cons_zero, upd, reduceIte, Nat.reduceEqDiff, Nat.reduceAdd, str]; done) | (simp [mkAct, upd, str, *]; done)
        · -- operation 3
          obtain ⟨f2, fG0, -⟩ := hp
          replace f2 : u 2 = (.pointer (some ⟨rb, 0, none⟩)) := f2
          try simp only [f2, str]
          have fG := Lib.hid fG0
          go_wp2_with fail
          refine (hgk.out _ fG.out).mono ?_
          rintro e w8 ⟨rfl, hr8, hk8⟩
          go_wp2
          refine stg_v (x := (.agg q.cells.toArray)) ⟨rfl, hr8⟩ hk8 ?_
          first | (simp only [mkAct, List.foldl_cons, List.foldl_nil, List.setIfInBounds_toArray, List.set_cons_succ, List.set_cons_zero, upd, reduceIte, Nat.reduceEqDiff, Nat.reduceAdd, f2, str]; done) | (simp [mkAct, upd, f2, str, *]; done)
        · -- operation 4
          obtain ⟨f3, -⟩ := hp
          obtain ⟨f3, -⟩ := f3
          try simp only [f3]
          have e19 := hcl.out
          have ef := hfold.out
          go_wp2
          refine stg_v (x := .slice (some ⟨wx.heap.size, 0, none⟩) 1 1) ⟨_, rfl, hI.size, heap_alloc_new _ _⟩ (Same.refl.alloc _) ?_
          simp [mkAct, upd, f3]
      · intro u wx hI hR
        obtain ⟨r0, r1, r2, r3, r4, -⟩ := hR
        replace r0 : u 0 = (.pointer (some ⟨b2, 1, none⟩)) := r0
        replace r1 : u 1 = v := r1
        replace r2 : u 2 = (.pointer (some ⟨rb, 0, none⟩)) := r2
        simp only [mkAct, List.foldl_cons, List.foldl_nil, List.setIfInBounds_toArray, List.set_cons_succ, List.set_cons_zero]
        try simp only [str, r0, r1, r2]
        obtain ⟨r3, hr8⟩ := r3
        obtain ⟨g, r4, hg, hbg⟩ := r4
        simp only [r4, r3]
        have hov8 := hov.out.keep hI (fun b hb hx => by have := hvbase.out b hb; omega)
        have hd8 := (hI.block _ (blk_lt hdk.out) n1).trans hdk.out
        have hsg : Sl wx 19 (some ⟨g, 0, none⟩) 1 1 q.cells := ⟨by rw [hcl.out], Nat.le_refl _, by unfold maxLen; omega, (fun e => by cases e), fun b hb j u hu => by
          injection hb with hb
          subst hb
          rw [add0, blk_cell hbg]
          simpa using hu⟩
        have hk8 := hkk.out.trans hI (fun _ _ h => h)
        have hz8 := hk8.size
        have hkn : k ≤ 10 := by omega
        clear hI r0 r1 r2 r3 r4 hbg hov hdk hrk hkk c1 hfold
        replace hov8 := Lib.hid hov8
        replace hd8 := Lib.hid hd8
        replace hsg := Lib.hid hsg
        replace hk8 := Lib.hid hk8
        replace hr8 := Lib.hid hr8
        go_wp2_with (at_builtin; refine append_sl rfl _ _ rfl reqsT hov8.out rfl rfl hsg.out req_cell hz8 (by omega) (by omega) ?_; intro v9 w9 ho9 hk9 hz9; clear hz9; rw [rv_one] at ho9; have hd9 := (hk9.block _ (blk_lt hd8.out) (fun hx => hvn.out _ hx rfl)).trans hd8.out; have c91 : w9.cell? ⟨b2, 1, none⟩ = some v := (by rw [blk_cell hd9]; rfl); have fz9 := blk_frozen hd9 1; obtain ⟨ao9, c9, rfl, -⟩ := ho9.sl; replace ho9 := Lib.hid ho9; replace hk9 := Lib.hid hk9; replace hd9 := Lib.hid hd9)
        go_roundw
        case rel =>
          have hne := own_ne' ho9.out hd9.out (by decide)
          have hks : Keep (· = b2) w9 (w9.setCell ⟨b2, 1, none⟩ (.slice ao9 (k + 1) c9)) := Keep.setCell (p := (· = b2)) _ rfl
          have hk89 : Keep (· = rb) w w9 := hk8.out.trans hk9.out (fun x hx hv => by have := hvbase.out x hv; omega)
          refine ⟨k + 1, .slice ao9 (k + 1) c9, by omega, by go_num, (blk_set hd9.out).trans rfl, ?_, ?_, hk89.trans hks (fun x hx hv => by have := hb2.out; omega)⟩
          · rw [hGk.out]
            exact ho9.out.keep hks (fun b hb hx => hne b hb hx)
          · rw [hGk.out]
            exact (hr8.out.keep hk9.out (fun hx => by have := hvbase.out _ hx; omega) (fun hx => by have := hvbase.out _ hx; omega)).keep hks n3 n4
        case measure => simp [intOf]; omega
    · have hkn : k = n - 1 := by omega
      subst hkn
      have hne1 : ¬ (((n - 1 + 1 : Nat) : Int) < (n : Int)) := by omega
      have hE := hR.out
      have hll := hGl.out (n - 1)
      have herr := err_any rb db (G (n - 1)).2 wr hrk
      have hvn := own_ne' hov hdk (by decide)
      have hvb := hov.base
      obtain ⟨ao, c, rfl, hsl⟩ := hov.sl
      have hvb2 : ∀ a, ao = some a → w.heap.size ≤ a.block := fun a ha => hvb a.block (by subst ha; rfl)
      clear hvb
      replace hvb2 := Lib.hid hvb2
      have hvn2 : ∀ b, ao = some b → b.block ≠ b2 := fun b hb => hvn b.block (by subst hb; rfl)
      clear hvn
      replace hvn2 := Lib.hid hvn2
      obtain ⟨gl, hgl⟩ : ∃ l, l = (G (n - 1)).1 := ⟨_, rfl⟩
      obtain ⟨gs, hgs⟩ : ∃ s, s = (G (n - 1)).2 := ⟨_, rfl⟩
      rw [← hgs] at hE herr hrk
      rw [← hgl] at hE hsl hll
      have hRs := hR2.out
      rw [← hgs] at hRs
      obtain ⟨m, hm⟩ : ∃ m, m = n - 1 := ⟨_, rfl⟩
      rw [← hm] at hne1 hll hsl hdk ⊢
      obtain ⟨E, hEe⟩ : ∃ E, E = gs.2 := ⟨_, rfl⟩
      rw [← hEe] at hE herr
      have c0 : wr.cell? ⟨b2, 0, none⟩ = some (.bool false) := by rw [blk_cell hdk]; rfl
      have fz0 := blk_frozen hdk 0
      have hdl := blk_lt hdk
      clear hov hGl hGs hG0 hgt hget hR hR2 hgs hgl hd2 hr2 hk02 hk
      replace hm := Lib.hid hm
      replace herr := Lib.hid herr
      replace hrk := Lib.hid hrk
      replace hkk := Lib.hid hkk
      replace hdk := Lib.hid hdk
      replace hsl := Lib.hid hsl
      replace hRs := Lib.hid hRs
      replace hll := Lib.hid hll
      replace hEe := Lib.hid hEe
      replace c0 := Lib.hid c0
      replace fz0 := Lib.hid fz0
      by_cases hEz : E = 0
      · have hz : ((E : Int) != 0) = false := by simp [hEz]
        rw [if_neg (by simp [hEz])] at hE
        obtain ⟨q, hq0⟩ : ∃ q, q = decide (n = 0) := ⟨_, rfl⟩
        rw [← hq0] at hE
        have hq1 : ((n : Int) == 0) = q := by rw [hq0, Bool.eq_iff_iff]; simp
        clear hEz hq0
        replace hE := Lib.hid hE
        have hinfQ := Lib.hid (bat_cells q (.slice ao m c))
        go_wp2_with fail
        refine herr.out.mono ?_
        rintro e w8 ⟨rfl, rfl⟩
        have c0' := c0.out
        have fz0' := fz0.out
        go_upto_region 10 with fail
        obtain ⟨w9, hw9⟩ : ∃ x, x = wr.setCell ⟨b2, 0, none⟩ (.bool q) := ⟨_, rfl⟩
        rw [← hw9]
        have hb9 : w9.heap[b2]? = some (.cells #[.bool q, .slice ao m c] 24 (0, 0)) := by rw [hw9]; exact (blk_set hdk.out).trans rfl
        have hk9 : Keep (· = b2) wr w9 := by rw [hw9]; exact Keep.setCell (p := (· = b2)) _ rfl
        clear hw9 c0' fz0' c0 fz0 hdk
        replace hb9 := Lib.hid hb9
        replace hk9 := Lib.hid hk9
        go_wp2_with (first | (refine load_row rfl _ _ rfl b2 rfl _ _ _ _ hb9.out Try.underlying24 rfl hinfQ.out ?_) | (refine store_row rfl _ _ _ rfl b2 #[.bool q, .slice ao m c] rfl rfl _ _ hb9.out hinfQ.out rfl (by simp [Value.oneCell']) ?_; intro w10 hb10 hk10; replace hb10 := Lib.hid hb10; replace hk10 := Lib.hid hk10))
        refine bodyPost_ret (v := .agg #[.bool q, .slice ao m c]) (results_row (p := 2) (ty := 24) rfl _ _ b2 _ _ _ _ rfl hb10.out Try.underlying24 rfl hinfQ.out) rfl ?_
        have hk910 := hk9.out.trans hk10.out (fun _ _ h => h)
        have hs10 := hsl.out.keep hk910 (fun b hb _ hx => hvn2.out b hb hx)
        refine ⟨ao, c, by rw [hE.out]; simp only; rw [hll.out], ?_, by rw [hRs.out]; exact hrk.out.keep hk910 n3 n4, hkk.out.trans hk910 (fun x hx hv => by have := hb2.out; omega), hvb2.out⟩
        rw [hE.out]
        simp only
        rw [hll.out]
        exact hs10
      · have hz : ((E : Int) != 0) = true := by simp; omega
        rw [if_pos hEz] at hE
        clear hEz
        replace hE := Lib.hid hE
        have hinfZ := Lib.hid (bat_cells false (.slice none 0 0))
        go_wp2_with fail
        refine herr.out.mono ?_
        rintro e w8 ⟨rfl, rfl⟩
        go_wp2_with (first | (refine build_const (ty := 24) (.agg #[.bool false, .slice none 0 0]) rfl rfl (by kernel_rfl) ?_) | (refine store_row rfl _ _ _ rfl b2 #[.bool false, .slice none 0 0] rfl rfl _ _ hdk.out hinfZ.out rfl (by simp [Value.oneCell']) ?_; intro w10 hb10 hk10; replace hb10 := Lib.hid hb10; replace hk10 := Lib.hid hk10))
        refine bodyPost_ret (v := .agg #[.bool false, .slice none 0 0]) (results_row (p := 2) (ty := 24) rfl _ _ b2 _ _ _ _ rfl hb10.out Try.underlying24 rfl hinfZ.out) rfl ?_
        refine ⟨none, 0, by rw [hE.out]; rfl, ?_, by rw [hRs.out]; exact hrk.out.keep hk10.out n3 n4, hkk.out.trans hk10.out (fun x hx hv => by have := hb2.out; omega), fun a ha => by cases ha⟩
        rw [hE.out]
        exact Sl.none _ 19
end Go.Proofs.Ythgpmgodpedjdaa
namespace Go.Proofs.Ythgpmgodpedjdaa
open Go Go.RowKit
set_option linter.unusedSimpArgs false
set_option linter.unusedVariables false

section
variable {P : Program} {ops : Array Oper} {rest : List Oper} {o : Oper} {a : Act} {Q : Exit → Act → World → Prop}
/-- A slice built of parts, told by a name. -/
theorem build_sl {W W' : World} {ty : TypeId} {n : Nat} {parts : Array (Nat × Operand)} (v : Value) (hg : Region.wanted o (yielded ops a.tmps) = true) (_ho : o.op = .buildSlice ty n parts) (hr : (execOp a.eval o).run P W = .ok (.value v) W') (h : wpList P ops Q rest (a.put o.dst v) W') : wpList P ops Q (o :: rest) a W :=
  wpL_value hg hr h
end
theorem batSame_iff (a b : BatV) : batSame a b = true ↔ a.noop = b.noop ∧ a.reqs = b.reqs := by simp [batSame]
theorem reqGets_put {l : List Req} {rest : List UInt8} (h : ∀ r ∈ l, r.tag.length = 16 ∧ 0 ≤ r.client ∧ r.client ≤ 8 ∧ 0 ≤ r.num ∧ r.num ≤ 1099511627776 ∧ r.data.size ≤ 64) : ∀ k, k ≤ l.length → reqGets k (reqPuts l ++ rest, 0) = (l.take k, (reqPuts (l.drop k) ++ rest, 0)) := by
  intro k
  induction k with
  | zero => intro _; simp [reqGets]
  | succ k ih =>
    intro hk
    have e := ih (by omega)
    obtain ⟨a0, a1, a2, a3, a4, a5⟩ := h _ (reqAt_mem (l := l) (i := k) (by omega))
    have hd : l.drop k = reqAt l k :: l.drop (k + 1) := by
      have h1 := reqAt_get (l := l) (i := k) (by omega)
      rw [List.getElem?_eq_getElem (show k < l.length by omega)] at h1
      injection h1 with h1
      rw [← h1]
      exact List.drop_eq_getElem_cons (by omega)
    have hp : reqPuts (l.drop k) = reqPut (reqAt l k) ++ reqPuts (l.drop (k + 1)) := by
      rw [hd]
      simp [reqPuts]
    have ht : l.take (k + 1) = l.take k ++ [reqAt l k] := by
      rw [List.take_succ_eq_append_getElem (show k < l.length by omega)]
      simp [reqAt, List.getD, show k < l.length by omega]
    unfold reqGets
    simp only [e]
    rw [hp, List.append_assoc, reqGet_put _ _ a0 a1 a2 a3 a4 a5, ht]
theorem batGet_put {b : BatV} {w : World} (hb : b.at w) (pb : b.plain) (rest : List UInt8) : batGet (batPut b.noop b.reqs ++ rest, 0) = ((b.noop, b.reqs), (rest, 0)) := by
  unfold batGet
  have hall : ∀ r ∈ b.reqs, r.tag.length = 16 ∧ 0 ≤ r.client ∧ r.client ≤ 8 ∧ 0 ≤ r.num ∧ r.num ≤ 1099511627776 ∧ r.data.size ≤ 64 := fun r hr => ⟨(hb.2 r hr).1.1, pb.el r hr⟩
  have hlen := pb.len
  cases hq : b.noop
  · have e1 : Num.rNum (batPut false b.reqs ++ rest, 0) 5 = (b.reqs.length + 1, (reqPuts b.reqs ++ rest, 0)) := by
      unfold batPut
      simp only [Bool.false_eq_true, if_false]
      rw [List.append_assoc, show ((b.reqs.length : Int) + 1) = ((b.reqs.length + 1 : Nat) : Int) from by simp, rNum_put' _ 5 _ (by omega) (by omega)]
    rw [e1]
    simp only [Nat.add_sub_cancel]
    have e2 := reqGets_put (rest := rest) hall b.reqs.length (Nat.le_refl _)
    rw [List.take_of_length_le (Nat.le_refl _), List.drop_of_length_le (Nat.le_refl _)] at e2
    rw [e2]
    simp [reqPuts]
  · have e1 : Num.rNum (batPut true b.reqs ++ rest, 0) 5 = (0, (rest, 0)) := by
      unfold batPut
      simp only [if_true]
      rw [show Num.putI 0 = Num.putI ((0 : Nat) : Int) from rfl, rNum_put' 0 5 rest (by omega) (by omega)]
    rw [e1]
    simp [reqGets, pb.noop hq]
def isGotB (rb db : Nat) (q : Bool) (l : List Req) (s : List UInt8 × Nat) : Value → World → Prop := fun v w => ∃ ao c, v = .agg #[.bool q, .slice ao l.length c] ∧ Sl w 19 ao l.length c (rv l) ∧ Rdr w rb db s
theorem isGotB_stable (rb db : Nat) (q : Bool) (l : List Req) (s : List UInt8 × Nat) : Stable Same (isGotB rb db q l s) := fun _ _ _ k ⟨ao, c, h, h1, h2⟩ => ⟨ao, c, h, h1.same k, h2.same k⟩
end Go.Proofs.Ythgpmgodpedjdaa
