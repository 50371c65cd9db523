/-
  Requests: the struct, which may be, its body.
-/
import Derived.Test.YtgdkhiihdoekaaaSeal2
import Derived.Test.YtgdkhiihdoekaaaEq
import Derived.Test.YtgdkhiihdoekaaaSha3
namespace Go.Proofs.Ytgdkhiihdoekaaa
open Go Go.RowKit
set_option linter.unusedSimpArgs false
set_option linter.unusedVariables false

theorem Same.at {w w' : World} (k : Same w w') {b : Nat} {o : Obj} (h : w.heap[b]? = some o) : w'.heap[b]? = some o := (k.block _ (blk_lt h)).trans h
theorem Same.range {w w' : World} (k : Same w w') {b o : Nat} {cs : List Value} (h : w.rangeAt b o cs) : w'.rangeAt b o cs := fun j v hj => k.cell (h j v hj)
/-- The results are a slot, and a whole value that lies in a block. -/
theorem results_row2' {P : Program} {fn : Func} {p q : Tmp} {ty : TypeId} (h : fn.results = #[.tmp q, .cell p ty]) (tmps : Array Value) (w : World) (g : Nat) (t : TypeId) (cs : Array Value) (fr : Nat × Nat) (d : TypeDesc) (v : Value)
    (hp : tmps.getD p undef = .pointer (some ⟨g, 0, none⟩)) (hv : tmps.getD q undef = v) (hb : w.heap[g]? = some (.cells cs t fr)) (hu : P.underlying ty = some d) (hd : (match d with | .struct _ | .array _ _ => true | _ => false) = true) (hi : (P.info? ty).map (·.size) = some cs.size) :
    (results fn tmps).run P w = .ok (.tuple #[v, .agg cs]) w := by
  have hl := run_loadVar_row (P := P) w g t ty cs fr d hb hu hd hi
  have hp' : tmps[p]?.getD undef = .pointer (some ⟨g, 0, none⟩) := by simpa [Array.getD_eq_getD_getElem?] using hp
  have hv' : tmps[q]?.getD undef = v := by simpa [Array.getD_eq_getD_getElem?] using hv
  simp only [results, h]
  simp [Sem.run_bind, Result.andThen, hp', hv', asAddr, hl]

theorem run_conv_mark {P : Program} (w : World) (t e : TypeId) (g : Nat) (C : Array Value) (T : TypeId) (n c : Nat) (ht : P.underlying t = some (.slice e)) (he : P.underlying e = some (.int .u8)) (hb : w.heap[g]? = some (.cells C T (0, 0))) :
    (convert t t (.slice (some ⟨g, 0, none⟩) n c)).run P w = .ok (.slice (some ⟨g, 0, none⟩) n c) (w.freeze ⟨g, C.size, none⟩ 1) := by
  have hsh : w.shape? g = some (T, C.size) := by
    unfold World.shape?
    rw [hb]
  simp [convert, run_underlying ht, run_underlying he, markStringish, hsh]
theorem freeze_block (w : World) {g k : Nat} {C : Array Value} {T : TypeId} (hb : w.heap[g]? = some (.cells C T (0, 0))) : (w.freeze ⟨g, k, none⟩ 1).heap[g]? = some (.cells C T (k, k + 1)) := by
  unfold World.freeze
  rw [if_neg (by decide)]
  simp [Array.getElem?_modify, hb]
theorem freeze_keep (w : World) (g k : Nat) : Keep (· = g) w (w.freeze ⟨g, k, none⟩ 1) := by
  unfold World.freeze
  rw [if_neg (by decide)]
  exact ⟨rfl, rfl, rfl, by simp, fun i _ hi => by simp [Array.getElem?_modify, Ne.symm hi]⟩
theorem sl_of_frozen {w : World} {g n T : Nat} {fr : Nat × Nat} {l : List UInt8} (hb : w.heap[g]? = some (.cells (bv l).toArray T fr)) (hl : l.length = n) (hm : n ≤ maxLen) : Sl w 1 (some ⟨g, 0, none⟩) n n (bv l) :=
  ⟨by rw [bv_length, hl, Nat.mul_one], Nat.le_refl _, hm, (fun e => by cases e), fun b hb2 j u hu => by
    injection hb2 with hb2
    subst hb2
    rw [add0]
    simp only [World.cell?, hb]
    simpa using hu⟩
section
variable {P : Program} {ops : Array Oper} {rest : List Oper} {o : Oper} {a : Act} {Q : Exit → Act → World → Prop} {t e : TypeId}
/-- '[]byte("..")' of a constant whose row was laid before. -/
theorem conv_mark {W : World} (l : List UInt8) (hg : Region.wanted o (yielded ops a.tmps) = true) (x : Operand) (ho : o.op = .convert t t x) (ht : P.underlying t = some (.slice e)) (he : P.underlying e = some (.int .u8))
    (g n T : Nat) (hx : a.eval x = .slice (some ⟨g, 0, none⟩) n n) (hb : W.heap[g]? = some (.cells (bv l).toArray T (0, 0))) (hl : l.length = n) (hm : n ≤ maxLen)
    (h : ∀ w', Sl w' 1 (some ⟨g, 0, none⟩) n n (bv l) → Keep (· = g) W w' → wpList P ops Q rest (a.put o.dst (.slice (some ⟨g, 0, none⟩) n n)) w') : wpList P ops Q (o :: rest) a W := by
  refine wpL hg fun K hK => ?_
  unfold Oper.wp execOp
  simp only [ho, Sem.run_bind, Sem.run_pure, Result.andThen_ok, hx, run_conv_mark W t e g _ T n n ht he hb]
  exact hK _ _ (h _ (sl_of_frozen (freeze_block W hb) hl hm) (freeze_keep W g _))
end
/-- A row of bytes of the call's own, from block B on. -/
def isRow (B : Nat) (l : List UInt8) : Value → World → Prop := fun v w => ∃ g T, v = .slice (some ⟨g, 0, none⟩) l.length l.length ∧ B ≤ g ∧ w.heap[g]? = some (.cells (bv l).toArray T (0, 0))
theorem isRow_stable (B : Nat) (l : List UInt8) : Stable Same (isRow B l) := fun _ _ _ k ⟨g, T, h, hB, hb⟩ => ⟨g, T, h, hB, (k.block _ (blk_lt hb)).trans hb⟩
structure Req where
  client : Int
  num : Int
  data : ByteArray
  tag : List UInt8
def Req.cells (r : Req) : List Value := [.int .i64 r.client, .int .i64 r.num, .string r.data] ++ bv r.tag
def zeroReq : Req := ⟨0, 0, ByteArray.empty, noTag⟩
def Req.wf (r : Req) : Prop := r.tag.length = 16 ∧ (Lit.int .i64 r.client).wf = true ∧ (Lit.int .i64 r.num).wf = true ∧ r.data.size ≤ maxLen
theorem Req.cells_length {r : Req} (h : r.tag.length = 16) : r.cells.length = 19 := by
  rw [Req.cells, List.length_append, bv_length, h]
  rfl
theorem req_infoL {r : Req} (h : r.tag.length = 16) : (Try.prog.info? 78).map (·.size) = some r.cells.length := by
  rw [Req.cells_length h]
  kernel_rfl
theorem req_info {r : Req} (h : r.tag.length = 16) : (Try.prog.info? 78).map (·.size) = some r.cells.toArray.size := by
  rw [List.size_toArray]
  exact req_infoL h
theorem tag_infoL {l : List UInt8} (h : l.length = 16) : (Try.prog.info? 76).map (·.size) = some (bv l).length := by
  rw [← List.size_toArray]
  exact tag_info h
theorem req_one (r : Req) : r.cells.toArray.all (·.oneCell') = true := by
  have : ∀ u ∈ bv r.tag, u.oneCell' = true := bv_cell
  simp only [Req.cells, List.all_toArray, List.all_append, Bool.and_eq_true, List.all_eq_true]
  exact ⟨by intro x hx; simp only [List.mem_cons, List.not_mem_nil, or_false] at hx; rcases hx with rfl | rfl | rfl <;> rfl, this⟩
theorem req_sizes {r s : Req} (h : r.tag.length = 16) (k : s.tag.length = 16) : r.cells.toArray.size = s.cells.toArray.size := by rw [List.size_toArray, List.size_toArray, Req.cells_length h, Req.cells_length k]
theorem zeroReq_tag : zeroReq.tag.length = 16 := rfl
section
variable {w : World} {b T : Nat} {r : Req} (h : w.heap[b]? = some (.cells r.cells.toArray T (0, 0)))
include h
theorem req_client : w.cell? ⟨b, 0, none⟩ = some (.int .i64 r.client) := by rw [blk_cell h]; rfl
theorem req_num : w.cell? ⟨b, 1, none⟩ = some (.int .i64 r.num) := by rw [blk_cell h]; rfl
theorem req_data : w.cell? ⟨b, 2, none⟩ = some (.string r.data) := by rw [blk_cell h]; rfl
theorem req_tag : w.rangeAt b 3 (bv r.tag) := by
  intro j v hj
  rw [blk_cell h, List.getElem?_toArray, Req.cells, List.getElem?_append_right (by simp), show 3 + j - [Value.int .i64 r.client, .int .i64 r.num, .string r.data].length = j from by simp]
  exact hj
end
def Req.may (r : Req) (clients : Int) : Bool := decide (0 ≤ r.client) && (decide (r.client < clients) && (decide (1 ≤ r.num) && (decide (r.num ≤ 1099511627776) && decide (r.data.size ≤ 64))))
theorem Req.may_iff {r : Req} {clients : Int} : r.may clients = true ↔ 0 ≤ r.client ∧ r.client < clients ∧ 1 ≤ r.num ∧ r.num ≤ 1099511627776 ∧ r.data.size ≤ 64 := by simp [Req.may]
def reqBody (r : Req) : List UInt8 := [82] ++ Num.putI r.client ++ Num.putI r.num ++ Num.putT r.data.data.toList
set_option maxRecDepth 100000 in
set_option maxHeartbeats 400000 in
theorem rqmay_any (r : Req) (clients : Int) (w : World) (ht : r.tag.length = 16) :
    Calls Try.prog 91 #[.int .i64 clients, .agg r.cells.toArray] w fun e w' => e = .returned (.bool (r.may clients)) ∧ Same w w' := by
  have hinf := Lib.hid (req_info ht)
  obtain ⟨R, hR⟩ : ∃ R, R = r.may clients := ⟨_, rfl⟩
  rw [← hR]
  have hno : ¬ (0 ≤ r.client ∧ r.client < clients ∧ 1 ≤ r.num ∧ r.num ≤ 1099511627776 ∧ r.data.size ≤ 64) → R = false := by
    intro h
    rw [hR, Bool.eq_false_iff]
    intro h2
    exact h (Req.may_iff.1 h2)
  have hyes : (0 ≤ r.client ∧ r.client < clients ∧ 1 ≤ r.num ∧ r.num ≤ 1099511627776 ∧ r.data.size ≤ 64) → R = true := by
    intro h
    rw [hR]
    exact Req.may_iff.2 h
  obtain ⟨c, hc⟩ : ∃ c, c = r.client := ⟨_, rfl⟩
  obtain ⟨n, hn⟩ : ∃ n, n = r.num := ⟨_, rfl⟩
  obtain ⟨d, hd⟩ : ∃ d, d = r.data := ⟨_, rfl⟩
  rw [← hc, ← hn, ← hd] at hno hyes
  have key : ∀ h : c < 0 ∧ R = false ∨ 0 ≤ c ∧ clients ≤ c ∧ R = false ∨ 0 ≤ c ∧ c < clients ∧ n < 1 ∧ R = false ∨ 0 ≤ c ∧ c < clients ∧ 1 ≤ n ∧ 1099511627776 < n ∧ R = false ∨ 0 ≤ c ∧ c < clients ∧ 1 ≤ n ∧ n ≤ 1099511627776 ∧ 64 < (d.size : Int) ∧ R = false ∨ 0 ≤ c ∧ c < clients ∧ 1 ≤ n ∧ n ≤ 1099511627776 ∧ (d.size : Int) ≤ 64 ∧ R = true,
      Calls Try.prog 91 #[.int .i64 clients, .agg r.cells.toArray] w fun e w' => e = .returned (.bool R) ∧ Same w w' := by
    intro h
    clear hno hyes
    replace hR := Lib.hid hR
    replace hc := Lib.hid hc
    replace hn := Lib.hid hn
    replace hd := Lib.hid hd
    rcases h with ⟨h1, hr⟩ | ⟨h1, h2, hr⟩ | ⟨h1, h2, h3, hr⟩ | ⟨h1, h2, h3, h4, hr⟩ | ⟨h1, h2, h3, h4, h5, hr⟩ | ⟨h1, h2, h3, h4, h5, hr⟩
    all_goals
      replace hr := Lib.hid hr
      go_enter Try.func91, Try.ntmps91
      go_upto_region 1 with (refine box_row rfl _ _ rfl _ rfl hinf.out ?_; intro w0 hbx hs0; have c0 := req_client hbx; have c1 := req_num hbx; have c2 := req_data hbx; rw [← hc.out] at c0; rw [← hn.out] at c1; rw [← hd.out] at c2; clear hbx; replace hs0 := Lib.hid hs0)
      go_wp2
      go_ret
      exact ⟨by rw [hr.out]; first | rfl | (show Ending.returned (.bool (decide ((d.size : Int) ≤ 64))) = _; rw [decide_eq_false (by omega)]) | (show Ending.returned (.bool (decide ((d.size : Int) ≤ 64))) = _; rw [decide_eq_true (by omega)]), hs0.out⟩
  refine key ?_
  by_cases h1 : 0 ≤ c
  · by_cases h2 : c < clients
    · by_cases h3 : 1 ≤ n
      · by_cases h4 : n ≤ 1099511627776
        · by_cases h5 : d.size ≤ 64
          · exact .inr (.inr (.inr (.inr (.inr ⟨h1, h2, h3, h4, by omega, hyes ⟨h1, h2, h3, h4, h5⟩⟩))))
          · exact .inr (.inr (.inr (.inr (.inl ⟨h1, h2, h3, h4, by omega, hno (by omega)⟩))))
        · exact .inr (.inr (.inr (.inl ⟨h1, h2, h3, by omega, hno (by omega)⟩)))
      · exact .inr (.inr (.inl ⟨h1, h2, by omega, hno (by omega)⟩))
    · exact .inr (.inl ⟨h1, by omega, hno (by omega)⟩)
  · exact .inl ⟨by omega, hno (by omega)⟩
set_option maxRecDepth 100000 in
set_option maxHeartbeats 400000 in
theorem rqform_any (r : Req) (clients : Int) (w : World) (ht : r.tag.length = 16) :
    Calls Try.prog 142 #[.int .i64 clients, .agg r.cells.toArray] w fun e w' => e = .returned (.bool (r.may clients)) ∧ Same w w' := by
  have hinf := Lib.hid (req_info ht)
  obtain ⟨R, hR⟩ : ∃ R, R = r.may clients := ⟨_, rfl⟩
  rw [← hR]
  have hno : ¬ (0 ≤ r.client ∧ r.client < clients ∧ 1 ≤ r.num ∧ r.num ≤ 1099511627776 ∧ r.data.size ≤ 64) → R = false := by
    intro h
    rw [hR, Bool.eq_false_iff]
    intro h2
    exact h (Req.may_iff.1 h2)
  have hyes : (0 ≤ r.client ∧ r.client < clients ∧ 1 ≤ r.num ∧ r.num ≤ 1099511627776 ∧ r.data.size ≤ 64) → R = true := by
    intro h
    rw [hR]
    exact Req.may_iff.2 h
  obtain ⟨c, hc⟩ : ∃ c, c = r.client := ⟨_, rfl⟩
  obtain ⟨n, hn⟩ : ∃ n, n = r.num := ⟨_, rfl⟩
  obtain ⟨d, hd⟩ : ∃ d, d = r.data := ⟨_, rfl⟩
  rw [← hc, ← hn, ← hd] at hno hyes
  have key : ∀ h : c < 0 ∧ R = false ∨ 0 ≤ c ∧ clients ≤ c ∧ R = false ∨ 0 ≤ c ∧ c < clients ∧ n < 1 ∧ R = false ∨ 0 ≤ c ∧ c < clients ∧ 1 ≤ n ∧ 1099511627776 < n ∧ R = false ∨ 0 ≤ c ∧ c < clients ∧ 1 ≤ n ∧ n ≤ 1099511627776 ∧ 64 < (d.size : Int) ∧ R = false ∨ 0 ≤ c ∧ c < clients ∧ 1 ≤ n ∧ n ≤ 1099511627776 ∧ (d.size : Int) ≤ 64 ∧ R = true,
      Calls Try.prog 142 #[.int .i64 clients, .agg r.cells.toArray] w fun e w' => e = .returned (.bool R) ∧ Same w w' := by
    intro h
    clear hno hyes
    replace hR := Lib.hid hR
    replace hc := Lib.hid hc
    replace hn := Lib.hid hn
    replace hd := Lib.hid hd
    rcases h with ⟨h1, hr⟩ | ⟨h1, h2, hr⟩ | ⟨h1, h2, h3, hr⟩ | ⟨h1, h2, h3, h4, hr⟩ | ⟨h1, h2, h3, h4, h5, hr⟩ | ⟨h1, h2, h3, h4, h5, hr⟩
    all_goals
      replace hr := Lib.hid hr
      go_enter Try.func142, Try.ntmps142
      go_upto_region 1 with (refine box_row rfl _ _ rfl _ rfl hinf.out ?_; intro w0 hbx hs0; have c0 := req_client hbx; have c1 := req_num hbx; have c2 := req_data hbx; rw [← hc.out] at c0; rw [← hn.out] at c1; rw [← hd.out] at c2; clear hbx; replace hs0 := Lib.hid hs0)
      go_wp2
      go_ret
      exact ⟨by rw [hr.out]; first | rfl | (show Ending.returned (.bool (decide ((d.size : Int) ≤ 64))) = _; rw [decide_eq_false (by omega)]) | (show Ending.returned (.bool (decide ((d.size : Int) ≤ 64))) = _; rw [decide_eq_true (by omega)]), hs0.out⟩
  refine key ?_
  by_cases h1 : 0 ≤ c
  · by_cases h2 : c < clients
    · by_cases h3 : 1 ≤ n
      · by_cases h4 : n ≤ 1099511627776
        · by_cases h5 : d.size ≤ 64
          · exact .inr (.inr (.inr (.inr (.inr ⟨h1, h2, h3, h4, by omega, hyes ⟨h1, h2, h3, h4, h5⟩⟩))))
          · exact .inr (.inr (.inr (.inr (.inl ⟨h1, h2, h3, h4, by omega, hno (by omega)⟩))))
        · exact .inr (.inr (.inr (.inl ⟨h1, h2, h3, by omega, hno (by omega)⟩)))
      · exact .inr (.inr (.inl ⟨h1, h2, by omega, hno (by omega)⟩))
    · exact .inr (.inl ⟨h1, by omega, hno (by omega)⟩)
  · exact .inl ⟨by omega, hno (by omega)⟩
theorem Num.putI_le (n : Int) (h : n ≤ 9223372036854775807) : (Num.putI n).length ≤ 9 := by
  unfold Num.putI
  split
  · simp
  · exact Num.putN_le (by omega)
theorem Num.putT_le (l : List UInt8) (h : l.length ≤ 1000000000) : (Num.putT l).length ≤ l.length + 9 := by
  have := Num.putN_le (n := l.length) (by omega)
  rw [Num.putT, List.length_append]
  omega
theorem reqBody_le (r : Req) (h1 : r.client ≤ 9223372036854775807) (h2 : r.num ≤ 9223372036854775807) (h3 : r.data.size ≤ 1000000000) : (reqBody r).length ≤ r.data.size + 28 := by
  have := Num.putI_le _ h1
  have := Num.putI_le _ h2
  have h4 := Num.putT_le r.data.data.toList (by simpa using h3)
  simp [reqBody] at h4 ⊢
  omega
def RetText0 (w : World) (l : List UInt8) (e : Ending) (w' : World) : Prop := e = .returned (str l) ∧ Same w w'
set_option maxRecDepth 100000 in
set_option maxHeartbeats 800000 in
theorem rqbody_any (r : Req) (w : World) (ht : r.tag.length = 16) (h1 : r.client ≤ 9223372036854775807) (h2 : r.num ≤ 9223372036854775807) (h3 : r.data.size ≤ 1000000000) :
    Calls Try.prog 93 #[.agg r.cells.toArray] w (RetText0 w (reqBody r)) := by
  have hinf := Lib.hid (req_info ht)
  obtain ⟨c, hc⟩ : ∃ c, c = r.client := ⟨_, rfl⟩
  obtain ⟨n, hn⟩ : ∃ n, n = r.num := ⟨_, rfl⟩
  obtain ⟨d, hd⟩ : ∃ d, d = r.data := ⟨_, rfl⟩
  have hB : reqBody r = [82] ++ Num.putI c ++ Num.putI n ++ Num.putT d.data.toList := by rw [hc, hn, hd, reqBody]
  have hl1 := Num.putI_le c (by omega)
  have hl2 := Num.putI_le n (by omega)
  have hp1 := fun ao cap w h => put_any ao 1 cap [82] c w h (by omega) (by omega)
  obtain ⟨A1, hA1⟩ : ∃ A, A = [82] ++ Num.putI c := ⟨_, rfl⟩
  have hA1l : A1.length ≤ 10 := by rw [hA1]; simp; omega
  rw [← hA1] at hp1 hB
  have hp2 := fun ao cap w h => put_any ao A1.length cap A1 n w h (by omega) (by omega)
  obtain ⟨A2, hA2⟩ : ∃ A, A = A1 ++ Num.putI n := ⟨_, rfl⟩
  have hA2l : A2.length ≤ 19 := by rw [hA2]; simp; omega
  rw [← hA2] at hp2 hB
  have hp3 := fun ao cap w h => putText_any ao A2.length cap A2 d w h (by omega) (by rw [hd]; omega)
  rw [← hB] at hp3
  obtain ⟨B, hBe⟩ : ∃ B, B = reqBody r := ⟨_, rfl⟩
  rw [← hBe] at hp3 ⊢
  clear hB hA1 hA2 hBe
  replace hc := Lib.hid hc
  replace hn := Lib.hid hn
  replace hd := Lib.hid hd
  replace hp1 := Lib.hid hp1
  replace hp2 := Lib.hid hp2
  replace hp3 := Lib.hid hp3
  go_enter Try.func93, Try.ntmps93
  go_upto_region 1 with (refine box_row rfl _ _ rfl _ rfl hinf.out ?_; intro w0 hbx hs0; have c0 := req_client hbx; have c1 := req_num hbx; have c2 := req_data hbx; rw [← hc.out] at c0; rw [← hn.out] at c1; rw [← hd.out] at c2; clear hbx; replace hs0 := Lib.hid hs0; replace c0 := Lib.hid c0; replace c1 := Lib.hid c1; replace c2 := Lib.hid c2)
  go_cut [3] (fun v wx => ∃ ao cap, v = .slice ao A2.length cap ∧ Sl wx 1 ao A2.length cap (bv A2) ∧ Same w0 wx)
  case first =>
    refine wp_region_tails (by kernel_rfl) [(4, 0), (5, 1), (6, 2), (7, 3), (8, 4), (9, 5), (10, 6)] Same (Same _) [isB [82], isV (.pointer (some ⟨w.heap.size, 0, none⟩)), isV (.int .i64 c), isB A1, isV (.pointer (some ⟨w.heap.size, 1, none⟩)), isV (.int .i64 n), isB A2] Same.refl.drew (fun _ _ h k => h.trans k) (by simp [isV_stable, isB_stable, isAny_stable]) (by decide) (l := [_, _, _, _, _, _, _]) rfl (by decide) (by kernel_rfl) ?_ ?_
    · refine ⟨?_, ?_, ?_, ?_, ?_, ?_, ?_, trivial⟩
      all_goals (intro u wx hI hp; simp only [mkAct, List.foldl_cons, List.foldl_nil, List.setIfInBounds_toArray, List.set_cons_succ, List.set_cons_zero])
      · -- operation 0
        go_wp2
        refine stq_x (.slice (some ⟨wx.heap.size, 0, none⟩) 1 1) rfl ⟨_, _, rfl, sl_boxB ([82]) (by unfold maxLen; simp)⟩ (Same.refl.alloc _) ?_
        first | (simp only [mkAct, List.foldl_cons, List.foldl_nil, List.setIfInBounds_toArray, List.set_cons_succ, List.set_cons_zero, upd, reduceIte, Nat.reduceEqDiff, Nat.reduceAdd, str]; done) | (simp [mkAct, upd, str, *]; done)
      · -- operation 1
        go_wp2
        refine stq_v rfl Same.refl ?_
        first | (simp only [mkAct, List.foldl_cons, List.foldl_nil, List.setIfInBounds_toArray, List.set_cons_succ, List.set_cons_zero, upd, reduceIte, Nat.reduceEqDiff, Nat.reduceAdd, str]; done) | (simp [mkAct, upd, str, *]; done)
      · -- operation 2
        obtain ⟨f1, -⟩ := hp
        replace f1 : u 1 = (.pointer (some ⟨w.heap.size, 0, none⟩)) := f1
        try simp only [f1, str]
        have cx := hI.cell (c0.out)
        go_wp2
        refine stq_v rfl Same.refl ?_
        first | (simp only [mkAct, List.foldl_cons, List.foldl_nil, List.setIfInBounds_toArray, List.set_cons_succ, List.set_cons_zero, upd, reduceIte, Nat.reduceEqDiff, Nat.reduceAdd, f1, str]; done) | (simp [mkAct, upd, f1, str, *]; done)
      · -- operation 3
        obtain ⟨⟨ao0, c0, f0, hsl0⟩, f2, -⟩ := hp
        replace f2 : u 2 = (.int .i64 c) := f2
        try simp only [f0, f2, str]
        go_wp2_with fail
        refine (hp1.out _ _ _ hsl0).mono ?_
        rintro e w1 ⟨ao', c', rfl, hsl', hs'⟩
        go_wp2
        refine stq_x (.slice ao' _ c') rfl ⟨ao', c', rfl, hsl'⟩ hs' ?_
        first | (simp only [mkAct, List.foldl_cons, List.foldl_nil, List.setIfInBounds_toArray, List.set_cons_succ, List.set_cons_zero, upd, reduceIte, Nat.reduceEqDiff, Nat.reduceAdd, f0, f2, str]; done) | (simp [mkAct, upd, f0, f2, str, *]; done)
      · -- operation 4
        go_wp2
        refine stq_v rfl Same.refl ?_
        first | (simp only [mkAct, List.foldl_cons, List.foldl_nil, List.setIfInBounds_toArray, List.set_cons_succ, List.set_cons_zero, upd, reduceIte, Nat.reduceEqDiff, Nat.reduceAdd, str]; done) | (simp [mkAct, upd, str, *]; done)
      · -- operation 5
        obtain ⟨f4, -⟩ := hp
        replace f4 : u 4 = (.pointer (some ⟨w.heap.size, 1, none⟩)) := f4
        try simp only [f4, str]
        have cx := hI.cell (c1.out)
        go_wp2
        refine stq_v rfl Same.refl ?_
        first | (simp only [mkAct, List.foldl_cons, List.foldl_nil, List.setIfInBounds_toArray, List.set_cons_succ, List.set_cons_zero, upd, reduceIte, Nat.reduceEqDiff, Nat.reduceAdd, f4, str]; done) | (simp [mkAct, upd, f4, str, *]; done)
      · -- operation 6
        obtain ⟨⟨ao3, c3, f3, hsl3⟩, f5, -, -⟩ := hp
        replace f5 : u 5 = (.int .i64 n) := f5
        try simp only [f3, f5, str]
        go_wp2_with fail
        refine (hp2.out _ _ _ hsl3).mono ?_
        rintro e w1 ⟨ao', c', rfl, hsl', hs'⟩
        go_wp2
        refine stq_x (.slice ao' _ c') rfl ⟨ao', c', rfl, hsl'⟩ hs' ?_
        first | (simp only [mkAct, List.foldl_cons, List.foldl_nil, List.setIfInBounds_toArray, List.set_cons_succ, List.set_cons_zero, upd, reduceIte, Nat.reduceEqDiff, Nat.reduceAdd, f3, f5, str]; done) | (simp [mkAct, upd, f3, f5, str, *]; done)
    · intro u wx hI hR
      obtain ⟨r0, r1, r2, r3, r4, r5, r6, -⟩ := hR
      obtain ⟨ao0, c0, r0, hsl0⟩ := r0
      replace r1 : u 1 = (.pointer (some ⟨w.heap.size, 0, none⟩)) := r1
      replace r2 : u 2 = (.int .i64 c) := r2
      obtain ⟨ao3, c3, r3, hsl3⟩ := r3
      replace r4 : u 4 = (.pointer (some ⟨w.heap.size, 1, none⟩)) := r4
      replace r5 : u 5 = (.int .i64 n) := r5
      obtain ⟨ao6, c6, r6, hsl6⟩ := r6
      simp only [mkAct, List.foldl_cons, List.foldl_nil, List.setIfInBounds_toArray, List.set_cons_succ, List.set_cons_zero]
      try simp only [str, r0, r1, r2, r3, r4, r5, r6]
      go_wp2
      go_meet
      exact ⟨_, _, rfl, hsl6, hI⟩
  case rest =>
    obtain ⟨ao, cap, rfl, hsl, hs1⟩ := hcut
    have c2 := hs1.cell c2.out
    replace hsl := Lib.hid hsl
    replace hs1 := Lib.hid hs1
    go_wp2_with fail
    refine (hp3.out _ _ _ hsl.out).mono ?_
    rintro e w2 ⟨v2, rfl, ho2, hs2⟩
    obtain ⟨ao2, cap2, rfl, hsl2⟩ := ho2.sl
    clear ho2
    replace hsl2 := Lib.hid hsl2
    replace hs2 := Lib.hid hs2
    go_wp2_with (refine conv_string rfl _ rfl byT u8T strT rfl hsl2.out ?_)
    go_ret
    exact ⟨rfl, (hs0.out.trans hs1.out).trans hs2.out⟩
set_option maxRecDepth 100000 in
set_option maxHeartbeats 800000 in
theorem rqrbody_any (r : Req) (w : World) (ht : r.tag.length = 16) (h1 : r.client ≤ 9223372036854775807) (h2 : r.num ≤ 9223372036854775807) (h3 : r.data.size ≤ 1000000000) :
    Calls Try.prog 144 #[.agg r.cells.toArray] w (RetText0 w (reqBody r)) := by
  have hinf := Lib.hid (req_info ht)
  obtain ⟨c, hc⟩ : ∃ c, c = r.client := ⟨_, rfl⟩
  obtain ⟨n, hn⟩ : ∃ n, n = r.num := ⟨_, rfl⟩
  obtain ⟨d, hd⟩ : ∃ d, d = r.data := ⟨_, rfl⟩
  have hB : reqBody r = [82] ++ Num.putI c ++ Num.putI n ++ Num.putT d.data.toList := by rw [hc, hn, hd, reqBody]
  have hl1 := Num.putI_le c (by omega)
  have hl2 := Num.putI_le n (by omega)
  have hp1 := fun ao cap w h => rput_any ao 1 cap [82] c w h (by omega) (by omega)
  obtain ⟨A1, hA1⟩ : ∃ A, A = [82] ++ Num.putI c := ⟨_, rfl⟩
  have hA1l : A1.length ≤ 10 := by rw [hA1]; simp; omega
  rw [← hA1] at hp1 hB
  have hp2 := fun ao cap w h => rput_any ao A1.length cap A1 n w h (by omega) (by omega)
  obtain ⟨A2, hA2⟩ : ∃ A, A = A1 ++ Num.putI n := ⟨_, rfl⟩
  have hA2l : A2.length ≤ 19 := by rw [hA2]; simp; omega
  rw [← hA2] at hp2 hB
  have hp3 := fun ao cap w h => rputText_any ao A2.length cap A2 d w h (by omega) (by rw [hd]; omega)
  rw [← hB] at hp3
  obtain ⟨B, hBe⟩ : ∃ B, B = reqBody r := ⟨_, rfl⟩
  rw [← hBe] at hp3 ⊢
  clear hB hA1 hA2 hBe
  replace hc := Lib.hid hc
  replace hn := Lib.hid hn
  replace hd := Lib.hid hd
  replace hp1 := Lib.hid hp1
  replace hp2 := Lib.hid hp2
  replace hp3 := Lib.hid hp3
  go_enter Try.func144, Try.ntmps144
  go_upto_region 1 with (refine box_row rfl _ _ rfl _ rfl hinf.out ?_; intro w0 hbx hs0; have c0 := req_client hbx; have c1 := req_num hbx; have c2 := req_data hbx; rw [← hc.out] at c0; rw [← hn.out] at c1; rw [← hd.out] at c2; clear hbx; replace hs0 := Lib.hid hs0; replace c0 := Lib.hid c0; replace c1 := Lib.hid c1; replace c2 := Lib.hid c2)
  refine wp_region_mut (by kernel_rfl) [(3, 0), (4, 1), (5, 2), (6, 3), (7, 4), (8, 5), (9, 6), (10, 7), (11, 8), (12, 9), (13, 10), (14, 11)] [(1, (Keep (fun k => w0.heap.size ≤ k)))] [(0, [1]), (1, [1]), (4, [1]), (7, [1]), (10, [1])] [1, 2, 3, 4, 5, 6, 7, 8, 9, 10, 11] [[], [0], [], [2], [1, 3], [], [5], [4, 6], [], [8], [7, 9], [10]] Same (Same _) [] [isRow w0.heap.size [82], isB [82], isV (.pointer (some ⟨w.heap.size, 0, none⟩)), isV (.int .i64 c), isB A1, isV (.pointer (some ⟨w.heap.size, 1, none⟩)), isV (.int .i64 n), isB A2, isV (.pointer (some ⟨w.heap.size, 2, none⟩)), isV (.string d), isB B, isV (str B)] (Same.refl.drew) (by simp) (fun _ _ h k => h.trans k) (by intro g hg; simp only [List.mem_cons, List.not_mem_nil, or_false] at hg; obtain rfl := hg; exact (fun _ _ h k => h.keep k (fun x hx hv => by omega))) (by simp [isV_stable, isB_stable, isAny_stable, isRow_stable]) (by simp) (by simp [killsOf, List.zipIdx_cons, isV_stable, isAny_stable]) (by simp [killsOf, List.zipIdx_cons]) (by decide) (l := [_, _, _, _, _, _, _, _, _, _, _, _]) rfl (by decide) (by kernel_rfl) (by kernel_rfl) (by kernel_rfl) (by decide) ?_ ?_
  · refine ⟨?_, ?_, ?_, ?_, ?_, ?_, ?_, ?_, ?_, ?_, ?_, ?_, trivial⟩
    all_goals (intro u wx hI hp; simp only [mkAct, List.foldl_cons, List.foldl_nil, List.setIfInBounds_toArray, List.set_cons_succ, List.set_cons_zero])
    · -- operation 0
      go_wp2
      refine stg_v (x := (.slice (some ⟨wx.heap.size, 0, none⟩) 1 1)) ⟨_, _, rfl, hI.size, heap_alloc_new _ _⟩ (Same.refl.alloc _) ?_
      first | (simp only [mkAct, List.foldl_cons, List.foldl_nil, List.setIfInBounds_toArray, List.set_cons_succ, List.set_cons_zero, upd, reduceIte, Nat.reduceEqDiff, Nat.reduceAdd, str]; done) | (simp [mkAct, upd, str, *]; done)
    · -- operation 1
      obtain ⟨f0, -⟩ := hp
      obtain ⟨g, T, f0, hg, hb⟩ := f0
      try simp only [f0]
      replace hb := Lib.hid hb
      go_wp2_with (refine conv_mark [82] rfl _ rfl byT.under u8T g 1 T rfl hb.out rfl (by unfold maxLen; omega) ?_; intro w3 hsl3 hk3)
      refine stg_v (x := .slice (some ⟨g, 0, none⟩) 1 1) ⟨_, _, rfl, hsl3⟩ (hk3.mono (fun x _ hx => by subst hx; exact hg)) ?_
      simp [mkAct, upd, f0]
    · -- operation 2
      go_wp2
      refine stg_v (x := (.pointer (some ⟨w.heap.size, 0, none⟩))) rfl Same.refl ?_
      first | (simp only [mkAct, List.foldl_cons, List.foldl_nil, List.setIfInBounds_toArray, List.set_cons_succ, List.set_cons_zero, upd, reduceIte, Nat.reduceEqDiff, Nat.reduceAdd, str]; done) | (simp [mkAct, upd, str, *]; done)
    · -- operation 3
      obtain ⟨f2, -⟩ := hp
      replace f2 : u 2 = (.pointer (some ⟨w.heap.size, 0, none⟩)) := f2
      try simp only [f2, str]
      have cx := hI.cell (c0.out)
      go_wp2
      refine stg_v (x := (.int .i64 c)) rfl Same.refl ?_
      first | (simp only [mkAct, List.foldl_cons, List.foldl_nil, List.setIfInBounds_toArray, List.set_cons_succ, List.set_cons_zero, upd, reduceIte, Nat.reduceEqDiff, Nat.reduceAdd, f2, str]; done) | (simp [mkAct, upd, f2, str, *]; done)
    · -- operation 4
      obtain ⟨⟨ao1, c1, f1, hsl1⟩, f3, -⟩ := hp
      replace f3 : u 3 = (.int .i64 c) := f3
      try simp only [f1, f3, str]
      go_wp2_with fail
      refine ((hp1.out _ _ _ hsl1).mono fun _ _ h => RetB.s h).mono ?_
      rintro e w1 ⟨ao', c', rfl, hsl', hs'⟩
      go_wp2
      refine stg_v (x := (.slice ao' _ c')) ⟨ao', c', rfl, hsl'⟩ hs' ?_
      first | (simp only [mkAct, List.foldl_cons, List.foldl_nil, List.setIfInBounds_toArray, List.set_cons_succ, List.set_cons_zero, upd, reduceIte, Nat.reduceEqDiff, Nat.reduceAdd, f1, f3, str]; done) | (simp [mkAct, upd, f1, f3, str, *]; done)
    · -- operation 5
      go_wp2
      refine stg_v (x := (.pointer (some ⟨w.heap.size, 1, none⟩))) rfl Same.refl ?_
      first | (simp only [mkAct, List.foldl_cons, List.foldl_nil, List.setIfInBounds_toArray, List.set_cons_succ, List.set_cons_zero, upd, reduceIte, Nat.reduceEqDiff, Nat.reduceAdd, str]; done) | (simp [mkAct, upd, str, *]; done)
    · -- operation 6
      obtain ⟨f5, -⟩ := hp
      replace f5 : u 5 = (.pointer (some ⟨w.heap.size, 1, none⟩)) := f5
      try simp only [f5, str]
      have cx := hI.cell (c1.out)
      go_wp2
      refine stg_v (x := (.int .i64 n)) rfl Same.refl ?_
      first | (simp only [mkAct, List.foldl_cons, List.foldl_nil, List.setIfInBounds_toArray, List.set_cons_succ, List.set_cons_zero, upd, reduceIte, Nat.reduceEqDiff, Nat.reduceAdd, f5, str]; done) | (simp [mkAct, upd, f5, str, *]; done)
    · -- operation 7
      obtain ⟨⟨ao4, c4, f4, hsl4⟩, f6, -⟩ := hp
      replace f6 : u 6 = (.int .i64 n) := f6
      try simp only [f4, f6, str]
      go_wp2_with fail
      refine ((hp2.out _ _ _ hsl4).mono fun _ _ h => RetB.s h).mono ?_
      rintro e w1 ⟨ao', c', rfl, hsl', hs'⟩
      go_wp2
      refine stg_v (x := (.slice ao' _ c')) ⟨ao', c', rfl, hsl'⟩ hs' ?_
      first | (simp only [mkAct, List.foldl_cons, List.foldl_nil, List.setIfInBounds_toArray, List.set_cons_succ, List.set_cons_zero, upd, reduceIte, Nat.reduceEqDiff, Nat.reduceAdd, f4, f6, str]; done) | (simp [mkAct, upd, f4, f6, str, *]; done)
    · -- operation 8
      go_wp2
      refine stg_v (x := (.pointer (some ⟨w.heap.size, 2, none⟩))) rfl Same.refl ?_
      first | (simp only [mkAct, List.foldl_cons, List.foldl_nil, List.setIfInBounds_toArray, List.set_cons_succ, List.set_cons_zero, upd, reduceIte, Nat.reduceEqDiff, Nat.reduceAdd, str]; done) | (simp [mkAct, upd, str, *]; done)
    · -- operation 9
      obtain ⟨f8, -⟩ := hp
      replace f8 : u 8 = (.pointer (some ⟨w.heap.size, 2, none⟩)) := f8
      try simp only [f8, str]
      have cx := hI.cell (c2.out)
      go_wp2
      refine stg_v (x := (.string d)) rfl Same.refl ?_
      first | (simp only [mkAct, List.foldl_cons, List.foldl_nil, List.setIfInBounds_toArray, List.set_cons_succ, List.set_cons_zero, upd, reduceIte, Nat.reduceEqDiff, Nat.reduceAdd, f8, str]; done) | (simp [mkAct, upd, f8, str, *]; done)
    · -- operation 10
      obtain ⟨⟨ao7, c7, f7, hsl7⟩, f9, -⟩ := hp
      replace f9 : u 9 = (.string d) := f9
      try simp only [f7, f9, str]
      go_wp2_with fail
      refine ((hp3.out _ _ _ hsl7).mono fun _ _ h => RetB.s h).mono ?_
      rintro e w1 ⟨ao', c', rfl, hsl', hs'⟩
      go_wp2
      refine stg_v (x := (.slice ao' _ c')) ⟨ao', c', rfl, hsl'⟩ hs' ?_
      first | (simp only [mkAct, List.foldl_cons, List.foldl_nil, List.setIfInBounds_toArray, List.set_cons_succ, List.set_cons_zero, upd, reduceIte, Nat.reduceEqDiff, Nat.reduceAdd, f7, f9, str]; done) | (simp [mkAct, upd, f7, f9, str, *]; done)
    · -- operation 11
      obtain ⟨⟨ao10, c10, f10, hsl10⟩, -⟩ := hp
      try simp only [f10, str]
      go_wp2_with (refine conv_string rfl _ rfl byT u8T strT rfl hsl10 ?_)
      refine stg_v (x := (str B)) rfl Same.refl ?_
      first | (simp only [mkAct, List.foldl_cons, List.foldl_nil, List.setIfInBounds_toArray, List.set_cons_succ, List.set_cons_zero, upd, reduceIte, Nat.reduceEqDiff, Nat.reduceAdd, f10, str]; done) | (simp [mkAct, upd, f10, str, *]; done)
  · intro u wx hI hR
    obtain ⟨r1, r2, r3, r4, r5, r6, r7, r8, r9, r10, r11, -⟩ := hR
    obtain ⟨ao1, c1, r1, hsl1⟩ := r1
    replace r2 : u 2 = (.pointer (some ⟨w.heap.size, 0, none⟩)) := r2
    replace r3 : u 3 = (.int .i64 c) := r3
    obtain ⟨ao4, c4, r4, hsl4⟩ := r4
    replace r5 : u 5 = (.pointer (some ⟨w.heap.size, 1, none⟩)) := r5
    replace r6 : u 6 = (.int .i64 n) := r6
    obtain ⟨ao7, c7, r7, hsl7⟩ := r7
    replace r8 : u 8 = (.pointer (some ⟨w.heap.size, 2, none⟩)) := r8
    replace r9 : u 9 = (.string d) := r9
    obtain ⟨ao10, c10, r10, hsl10⟩ := r10
    replace r11 : u 11 = (str B) := r11
    simp only [mkAct, List.foldl_cons, List.foldl_nil, List.setIfInBounds_toArray, List.set_cons_succ, List.set_cons_zero]
    try simp only [str, r1, r2, r3, r4, r5, r6, r7, r8, r9, r10, r11]
    go_wp2
    go_ret
    exact ⟨rfl, hs0.out.trans hI⟩
end Go.Proofs.Ytgdkhiihdoekaaa
