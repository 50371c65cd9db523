/-
  Requests: how one is made.
-/
import Derived.Test.YthgpmgodpedjdaaReq2
namespace Go.Proofs.Ythgpmgodpedjdaa
open Go Go.RowKit
set_option linter.unusedSimpArgs false
set_option linter.unusedVariables false

theorem setCells_block {b T : Nat} : ∀ (vs : List Value) (o : Nat) (w : World) (old : List Value), w.heap[b]? = some (.cells old.toArray T (0, 0)) → o + vs.length ≤ old.length → (w.setCells b o vs).heap[b]? = some (.cells (old.take o ++ (vs ++ old.drop (o + vs.length))).toArray T (0, 0)) := by
  intro vs
  induction vs with
  | nil => intro o w old h _; simpa [World.setCells] using h
  | cons v r ih =>
    intro o w old h hl
    simp only [List.length_cons] at hl
    have h2 : (w.setCell ⟨b, o, none⟩ v).heap[b]? = some (.cells (old.set o v).toArray T (0, 0)) := by
      rw [blk_set h]
      simp
    have := ih (o + 1) _ _ h2 (by simp; omega)
    rw [World.setCells, this]
    have ho : o < old.length := by omega
    have e1 : (old.set o v).take (o + 1) = old.take o ++ [v] := by
      rw [List.take_succ_eq_append_getElem (by simp; omega)]
      have e3 : (old.set o v).take o = old.take o := by
        apply List.ext_getElem?
        intro i
        rw [List.getElem?_take, List.getElem?_take]
        split
        · rw [List.getElem?_set_ne (by omega)]
        · rfl
      rw [e3]
      simp
    have e2 : (old.set o v).drop (o + 1 + r.length) = old.drop (o + (v :: r).length) := by
      rw [List.drop_set_of_lt (by omega)]
      congr 1
      simp
      omega
    rw [e1, e2]
    simp
theorem setCells_keep {b : Nat} : ∀ (vs : List Value) (o : Nat) (w : World), Keep (· = b) w (w.setCells b o vs) := by
  intro vs
  induction vs with
  | nil => intro o w; exact Keep.refl
  | cons v r ih =>
    intro o w
    rw [World.setCells]
    exact (Keep.setCell (p := (· = b)) _ rfl).trans (ih (o + 1) _) (fun _ _ h => h)
section
variable {P : Program} {ops : Array Oper} {rest : List Oper} {o : Oper} {a : Act} {Q : Exit → Act → World → Prop}
/-- A whole value stored into the middle of a block. -/
theorem store_mid {W : World} (hg : Region.wanted o (yielded ops a.tmps) = true) (ty : TypeId) (x y : Operand) (ho : o.op = .store ty x y)
    (b off : Nat) (cs : List Value) (hx : a.eval x = .pointer (some ⟨b, off, none⟩)) (hy : a.eval y = .agg cs.toArray)
    (T : TypeId) (old : List Value) (hb : W.heap[b]? = some (.cells old.toArray T (0, 0))) (hi : (P.info? ty).map (·.size) = some cs.length)
    (hfit : off + cs.length ≤ old.length) (h1 : ∀ u ∈ cs, u.oneCell' = true)
    (h : ∀ w', w'.heap[b]? = some (.cells (old.take off ++ (cs ++ old.drop (off + cs.length))).toArray T (0, 0)) → Keep (· = b) W w' → wpList P ops Q rest (a.put o.dst undef) w') : wpList P ops Q (o :: rest) a W := by
  refine wpL hg fun K hK => ?_
  refine wp_store_mid ty x y ho b off cs.toArray hx hy ?_ (by simpa using hi) (by simpa [List.all_eq_true] using h1) (hK _ _ (h _ ?_ ?_))
  · intro j hj
    have hj2 : j < cs.length := by simpa using hj
    rw [blk_cell hb, blk_frozen hb]
    refine ⟨?_, rfl⟩
    rw [List.getElem?_toArray, List.getElem?_eq_getElem (by omega)]
    rfl
  · exact setCells_block cs off W old hb hfit
  · exact setCells_keep _ _ _
end
def req0 (client num : Int) (data : ByteArray) : Req := ⟨client, num, data, noTag⟩
def reqT (client num : Int) (data : ByteArray) (t : List UInt8) : Req := ⟨client, num, data, t⟩
def Req.make (seed : List UInt8) (N : Nat) (nodes client num : Int) (data : ByteArray) : Req × Nat :=
  if (req0 client num data).may 8 = false then (zeroReq, 60) else if nodes < 0 ∨ 64 < nodes then (zeroReq, 2) else
    if (Sha.sign seed N (nodes + client) (reqBody (req0 client num data))).2 = 0 then (reqT client num data (Sha.sign seed N (nodes + client) (reqBody (req0 client num data))).1, 0)
    else (zeroReq, (Sha.sign seed N (nodes + client) (reqBody (req0 client num data))).2)
theorem Req.make_tag (seed : List UInt8) (N : Nat) (nodes client num : Int) (data : ByteArray) : (Req.make seed N nodes client num data).1.tag.length = 16 := by
  unfold Req.make
  split
  · rfl
  · split
    · rfl
    · split
      · exact Sha.sign_length _ _ _ _
      · rfl
/-- A request and an error. -/
def RetReq (w : World) (x : Req × Nat) (e : Ending) (w' : World) : Prop := e = .returned (.tuple #[.agg x.1.cells.toArray, .int .i64 (x.2 : Int)]) ∧ Same w w'
theorem reqT_set (c n : Int) (d : ByteArray) (t : List UInt8) : (reqT c n d t).cells = (req0 c n d).cells.take 3 ++ bv t := rfl
theorem zeroReq_cells : zeroReq.cells.toArray = #[.int .i64 0, .int .i64 0, .string ByteArray.empty, .int .u8 0, .int .u8 0, .int .u8 0, .int .u8 0, .int .u8 0, .int .u8 0, .int .u8 0, .int .u8 0, .int .u8 0, .int .u8 0, .int .u8 0, .int .u8 0, .int .u8 0, .int .u8 0, .int .u8 0, .int .u8 0] := rfl
set_option maxRecDepth 100000 in
set_option maxHeartbeats 800000 in
theorem rqmake_none (w : World) (nodes client num : Int) (data : ByteArray) :
    Calls Try.prog 27 #[.pointer none, .int .i64 nodes, .int .i64 client, .int .i64 num, .string data] w (RetReq w (zeroReq, 1)) := by
  have hinfZ := Lib.hid (req_info zeroReq_tag)
  have hinf0 := Lib.hid (req_info (r := req0 client num data) rfl)
  have hlen := Lib.hid (fun w => klen_any w none ByteArray.empty 0 (.inl ⟨rfl, rfl⟩))
  obtain ⟨R0, hR0⟩ : ∃ R, R = req0 client num data := ⟨_, rfl⟩
  obtain ⟨Z, hZ⟩ : ∃ Z, Z = zeroReq := ⟨_, rfl⟩
  go_enter Try.func27, Try.ntmps27
  go_upto_region 1 with (refine alloc_new rfl 44 rfl zeroReq.cells.toArray (by kernel_rfl) ?_; intro w1 hd hs1; have hdl := blk_lt hd; replace hd := Lib.hid hd; replace hs1 := Lib.hid hs1)
  go_upto_region 2 with (first | (refine build_const (ty := 44) (.agg (req0 client num data).cells.toArray) rfl rfl (by kernel_rfl) ?_) | (refine alloc_new rfl 44 rfl zeroReq.cells.toArray (by kernel_rfl) ?_; intro w2 hb hs2; have hbl := blk_lt hb; replace hb := Lib.hid hb; replace hs2 := Lib.hid hs2) | (refine store_row rfl _ _ _ rfl w1.heap.size _ rfl rfl _ _ hb.out hinf0.out rfl (req_one _) ?_; intro w3 hb3 hk3))
  have hs13 : Same w1 w3 := hs2.out.keep hk3 (fun x hx hv => by omega)
  have hd3 := Lib.hid (hs13.at hd.out)
  have hw3 := Lib.hid (hs1.out.trans hs13)
  clear hk3 hs13 hs2 hb hb3
  go_wp2_with fail
  refine (hlen.out _).mono ?_
  rintro e w4 ⟨rfl, rfl⟩
  go_wp2_with (first | (refine build_const (ty := 44) (.agg zeroReq.cells.toArray) rfl rfl (by kernel_rfl) ?_) | (refine store_row rfl _ _ _ rfl w.heap.size _ rfl rfl _ _ hd3.out hinfZ.out rfl (req_one _) ?_; intro w5 hb5 hk5; replace hb5 := Lib.hid hb5; replace hk5 := Lib.hid hk5))
  refine bodyPost_ret (v := .tuple #[.agg zeroReq.cells.toArray, .int .i64 1]) (results_row2 (p := 10) (q := 11) (ty := 44) rfl _ _ w.heap.size _ _ _ _ _ rfl rfl hb5.out Try.underlying44 rfl hinfZ.out) rfl ?_
  exact ⟨rfl, hw3.out.keep hk5.out (fun x hx hv => by omega)⟩
set_option maxRecDepth 100000 in
set_option maxHeartbeats 3200000 in
theorem rqmake_any (w : World) (p : Option Addr) (seed : ByteArray) (N : Nat) (nodes client num : Int) (data : ByteArray) (h : KeysAt w p seed N) (hN : N ≠ 0) (hN2 : N ≤ 1000000) (hs : seed.size ≤ 1000000) (hw : num ≤ 9223372036854775807) :
    Calls Try.prog 27 #[.pointer p, .int .i64 nodes, .int .i64 client, .int .i64 num, .string data] w (RetReq w (Req.make seed.data.toList N nodes client num data)) := by
  have hinfZ := Lib.hid (req_info zeroReq_tag)
  have hinf0 := Lib.hid (req_info (r := req0 client num data) rfl)
  have hlen := Lib.hid (fun w h => klen_any w p seed N h)
  have hmay := fun w => rqmay_any (req0 client num data) 8 w rfl
  have hz : ((N : Int) == 0) = false := by simp; omega
  unfold Req.make
  cases hm : (req0 client num data).may 8
  · rw [hm] at hmay
    rw [if_pos rfl]
    clear hm
    replace h := Lib.hid h
    replace hmay := Lib.hid hmay
    go_enter Try.func27, Try.ntmps27
    go_upto_region 1 with (refine alloc_new rfl 44 rfl zeroReq.cells.toArray (by kernel_rfl) ?_; intro w1 hd s0; have hdl := blk_lt hd; replace hd := Lib.hid hd; replace s0 := Lib.hid s0)
    go_upto_region 2 with (first | (refine build_const (ty := 44) (.agg (req0 client num data).cells.toArray) rfl rfl (by kernel_rfl) ?_) | (refine alloc_new rfl 44 rfl zeroReq.cells.toArray (by kernel_rfl) ?_; intro w2 hb hs2; have hbl := blk_lt hb; replace hb := Lib.hid hb; replace hs2 := Lib.hid hs2) | (refine store_row rfl _ _ _ rfl w1.heap.size _ rfl rfl _ _ hb.out hinf0.out rfl (req_one _) ?_; intro w3 hb3 hk3))
    have sd : Same w1 w3 := hs2.out.keep hk3 (fun x hx hv => by omega)
    clear hk3 hs2 hb
    have hb := Lib.hid hb3
    clear hb3
    replace s0 := Lib.hid (s0.out.trans sd)
    replace sd := Lib.hid sd
    have hk3 := Lib.hid (h.out.same s0.out)
    go_wp2_with fail
    refine (hlen.out _ hk3.out).mono ?_
    rintro e w4 ⟨rfl, rfl⟩
    go_wp2_with (refine load_row rfl _ _ rfl w1.heap.size rfl _ _ _ _ hb.out Try.underlying44 rfl hinf0.out ?_)
    refine (hmay.out _).mono ?_
    rintro e w4 ⟨rfl, hs4⟩
    have sb := Lib.hid hs4
    replace s0 := Lib.hid (s0.out.trans hs4)
    replace sd := Lib.hid (sd.out.trans hs4)
    clear hs4 hk3
    go_wp2_with (first | (refine build_const (ty := 44) (.agg zeroReq.cells.toArray) rfl rfl (by kernel_rfl) ?_) | (refine store_row rfl _ _ _ rfl w.heap.size _ rfl rfl _ _ (sd.out.at hd.out) hinfZ.out rfl (req_one _) ?_; intro w5 hb5 hk5; replace hb5 := Lib.hid hb5; replace hk5 := Lib.hid hk5))
    refine bodyPost_ret (v := .tuple #[.agg zeroReq.cells.toArray, .int .i64 60]) (results_row2 (p := 10) (q := 11) (ty := 44) rfl _ _ w.heap.size _ _ _ _ _ rfl rfl hb5.out Try.underlying44 rfl hinfZ.out) rfl ?_
    exact ⟨rfl, s0.out.keep hk5.out (fun x hx hv => by omega)⟩
  · obtain ⟨m1, m2, m3, m4, m5⟩ := Req.may_iff.1 hm
    simp only [req0] at m1 m2 m3 m4 m5
    rw [hm] at hmay
    rw [if_neg (by simp)]
    clear hm
    by_cases hnd : nodes < 0 ∨ 64 < nodes
    · rw [if_pos hnd]
      clear m1 m2 m3 m4 m5
      replace h := Lib.hid h
      replace hmay := Lib.hid hmay
      have key : ∀ hh : nodes < 0 ∨ 0 ≤ nodes ∧ 64 < nodes, Calls Try.prog 27 #[.pointer p, .int .i64 nodes, .int .i64 client, .int .i64 num, .string data] w (RetReq w (zeroReq, 2)) := by
        intro hh
        clear hnd
        rcases hh with h1 | ⟨h1, h2⟩
        all_goals
          go_enter Try.func27, Try.ntmps27
          go_upto_region 1 with (refine alloc_new rfl 44 rfl zeroReq.cells.toArray (by kernel_rfl) ?_; intro w1 hd s0; have hdl := blk_lt hd; replace hd := Lib.hid hd; replace s0 := Lib.hid s0)
          go_upto_region 2 with (first | (refine build_const (ty := 44) (.agg (req0 client num data).cells.toArray) rfl rfl (by kernel_rfl) ?_) | (refine alloc_new rfl 44 rfl zeroReq.cells.toArray (by kernel_rfl) ?_; intro w2 hb hs2; have hbl := blk_lt hb; replace hb := Lib.hid hb; replace hs2 := Lib.hid hs2) | (refine store_row rfl _ _ _ rfl w1.heap.size _ rfl rfl _ _ hb.out hinf0.out rfl (req_one _) ?_; intro w3 hb3 hk3))
          have sd : Same w1 w3 := hs2.out.keep hk3 (fun x hx hv => by omega)
          clear hk3 hs2 hb
          have hb := Lib.hid hb3
          clear hb3
          replace s0 := Lib.hid (s0.out.trans sd)
          replace sd := Lib.hid sd
          have hk3 := Lib.hid (h.out.same s0.out)
          go_wp2_with fail
          refine (hlen.out _ hk3.out).mono ?_
          rintro e w4 ⟨rfl, rfl⟩
          go_wp2_with (refine load_row rfl _ _ rfl w1.heap.size rfl _ _ _ _ hb.out Try.underlying44 rfl hinf0.out ?_)
          refine (hmay.out _).mono ?_
          rintro e w4 ⟨rfl, hs4⟩
          have sb := Lib.hid hs4
          replace s0 := Lib.hid (s0.out.trans hs4)
          replace sd := Lib.hid (sd.out.trans hs4)
          clear hs4 hk3
          go_wp2_with (first | (refine build_const (ty := 44) (.agg zeroReq.cells.toArray) rfl rfl (by kernel_rfl) ?_) | (refine store_row rfl _ _ _ rfl w.heap.size _ rfl rfl _ _ (sd.out.at hd.out) hinfZ.out rfl (req_one _) ?_; intro w5 hb5 hk5; replace hb5 := Lib.hid hb5; replace hk5 := Lib.hid hk5))
          refine bodyPost_ret (v := .tuple #[.agg zeroReq.cells.toArray, .int .i64 2]) (results_row2 (p := 10) (q := 11) (ty := 44) rfl _ _ w.heap.size _ _ _ _ _ rfl rfl hb5.out Try.underlying44 rfl hinfZ.out) rfl ?_
          exact ⟨rfl, s0.out.keep hk5.out (fun x hx hv => by omega)⟩
      exact key (by omega)
    · rw [if_neg hnd]
      have n1 : 0 ≤ nodes := by omega
      have n2 : nodes ≤ 64 := by omega
      have hsg := fun w h => sign_any w p seed N (nodes + client) ⟨(reqBody (req0 client num data)).toArray⟩ h hs (by have := reqBody_le (req0 client num data) (show client ≤ _ by omega) (show num ≤ _ by omega) (show data.size ≤ _ by omega); show (reqBody (req0 client num data)).toArray.size ≤ _; rw [List.size_toArray]; simp only [req0] at this ⊢; omega) hN2
      rw [show ((⟨(reqBody (req0 client num data)).toArray⟩ : ByteArray).data.toList) = reqBody (req0 client num data) from rfl] at hsg
      have hbd := fun w => rqbody_any (req0 client num data) w rfl (show client ≤ _ by omega) (show num ≤ _ by omega) (show data.size ≤ _ by omega)
      have hXl := Sha.sign_length seed.data.toList N (nodes + client) (reqBody (req0 client num data))
      unfold RetText0 at hbd
      unfold RetTag at hsg
      obtain ⟨B, hB⟩ : ∃ B, B = reqBody (req0 client num data) := ⟨_, rfl⟩
      rw [← hB] at hsg hbd hXl ⊢
      obtain ⟨X, hX⟩ : ∃ X, X = Sha.sign seed.data.toList N (nodes + client) B := ⟨_, rfl⟩
      rw [← hX] at hsg hXl ⊢
      obtain ⟨T, E⟩ := X
      simp only at hsg hXl ⊢
      have hwr : IntKind.i64.wrap (nodes + client) = nodes + client := IntWalk.i64_in _ ⟨by omega, by omega⟩
      have hinfT := Lib.hid (tag_info hXl)
      have hinfF := Lib.hid (req_info (r := reqT client num data T) hXl)
      clear hX hB hnd hs m3 m4 m5
      replace h := Lib.hid h
      replace hmay := Lib.hid hmay
      replace hsg := Lib.hid hsg
      replace hbd := Lib.hid hbd
      replace hXl := Lib.hid hXl
      by_cases hE : E = 0
      · have hzE : ((E : Int) != 0) = false := by simp [hE]
        rw [if_pos hE]
        go_enter Try.func27, Try.ntmps27
        go_upto_region 1 with (refine alloc_new rfl 44 rfl zeroReq.cells.toArray (by kernel_rfl) ?_; intro w1 hd s0; have hdl := blk_lt hd; replace hd := Lib.hid hd; replace s0 := Lib.hid s0)
        go_upto_region 2 with (first | (refine build_const (ty := 44) (.agg (req0 client num data).cells.toArray) rfl rfl (by kernel_rfl) ?_) | (refine alloc_new rfl 44 rfl zeroReq.cells.toArray (by kernel_rfl) ?_; intro w2 hb hs2; have hbl := blk_lt hb; replace hb := Lib.hid hb; replace hs2 := Lib.hid hs2) | (refine store_row rfl _ _ _ rfl w1.heap.size _ rfl rfl _ _ hb.out hinf0.out rfl (req_one _) ?_; intro w3 hb3 hk3))
        have sd : Same w1 w3 := hs2.out.keep hk3 (fun x hx hv => by omega)
        clear hk3 hs2 hb
        have hb := Lib.hid hb3
        clear hb3
        replace s0 := Lib.hid (s0.out.trans sd)
        replace sd := Lib.hid sd
        have hk3 := Lib.hid (h.out.same s0.out)
        go_wp2_with fail
        refine (hlen.out _ hk3.out).mono ?_
        rintro e w4 ⟨rfl, rfl⟩
        go_wp2_with (refine load_row rfl _ _ rfl w1.heap.size rfl _ _ _ _ hb.out Try.underlying44 rfl hinf0.out ?_)
        refine (hmay.out _).mono ?_
        rintro e w4 ⟨rfl, hs4⟩
        have sb := Lib.hid hs4
        replace s0 := Lib.hid (s0.out.trans hs4)
        replace sd := Lib.hid (sd.out.trans hs4)
        clear hs4 hk3
        go_wp2_with (refine load_row rfl _ _ rfl w1.heap.size rfl _ _ _ _ (sb.out.at hb.out) Try.underlying44 rfl hinf0.out ?_)
        refine (hbd.out _).mono ?_
        rintro e w5 ⟨rfl, hs5⟩
        replace s0 := Lib.hid (s0.out.trans hs5)
        replace sd := Lib.hid (sd.out.trans hs5)
        replace sb := Lib.hid (sb.out.trans hs5)
        have hk5 := Lib.hid (h.out.same s0.out)
        clear hs5
        go_wp2_with fail
        refine (hsg.out _ hk5.out).mono ?_
        rintro e w6 ⟨rfl, hs6⟩
        replace s0 := Lib.hid (s0.out.trans hs6)
        replace sd := Lib.hid (sd.out.trans hs6)
        replace sb := Lib.hid (sb.out.trans hs6)
        clear hs6 hk5
        go_upto_region 9 with (first | (refine alloc_new rfl 42 rfl (bv noTag).toArray (by kernel_rfl) ?_; intro wN_ hN_ sN_; have lN_ := blk_lt hN_; replace hN_ := Lib.hid hN_; replace sN_ := Lib.hid sN_) | (refine store_row rfl _ _ _ rfl w6.heap.size _ rfl rfl _ _ hN_.out hinfT.out (by rw [List.size_toArray, List.size_toArray, bv_length, bv_length, hXl.out]; rfl) (by simpa using bv_cell) ?_; intro w7 ht kN_))
        have mN_ : Same w6 w7 := sN_.out.keep kN_ (fun x hx hv => by omega)
        clear kN_ sN_ hN_ lN_
        replace s0 := Lib.hid (s0.out.trans mN_)
        replace sd := Lib.hid (sd.out.trans mN_)
        replace sb := Lib.hid (sb.out.trans mN_)
        clear mN_
        replace ht := Lib.hid ht
        have sht := Lib.hid (Same.refl (w := w7))
        go_simp
        have hT3 : (req0 client num data).cells.take 3 ++ (bv T ++ (req0 client num data).cells.drop (3 + (bv T).length)) = (reqT client num data T).cells := by
          rw [reqT_set, List.drop_of_length_le (by rw [Req.cells_length rfl, bv_length, hXl.out]; exact Nat.le_refl _), List.append_nil]
        have hTf : 3 + (bv T).length ≤ (req0 client num data).cells.length := by rw [Req.cells_length rfl, bv_length, hXl.out]; exact Nat.le_refl _
        have hinfL := Lib.hid (tag_infoL hXl.out)
        replace hT3 := Lib.hid hT3
        replace hTf := Lib.hid hTf
        have hz0 := s0.out.size
        have hzd := sd.out.size
        go_upto_region 12 with (first | (refine load_row rfl _ _ rfl w6.heap.size rfl _ _ _ _ (sht.out.at ht.out) Try.underlying42 rfl hinfT.out ?_) | (refine store_mid rfl _ _ _ rfl w1.heap.size 3 (bv T) rfl rfl _ _ (sb.out.at hb.out) hinfL.out hTf.out bv_cell ?_; intro w8 hb8 hk8; rw [hT3.out] at hb8; replace hb8 := Lib.hid hb8; replace hk8 := Lib.hid hk8))
        have hd8 := (hk8.out.block _ (by omega) (by omega)).trans (sd.out.at hd.out)
        have hw8 : Same w w8 := s0.out.keep hk8.out (fun x hx hv => by omega)
        have hdz := blk_lt hd8
        clear hk8 s0 sd sb hb hd ht sht
        replace hd8 := Lib.hid hd8
        replace hw8 := Lib.hid hw8
        go_wp2_with (first | (refine load_row rfl _ _ rfl w1.heap.size rfl _ _ _ _ hb8.out Try.underlying44 rfl hinfF.out ?_) | (refine store_row rfl _ _ _ rfl w.heap.size _ rfl rfl _ _ hd8.out hinfF.out (req_sizes (r := zeroReq) rfl hXl.out) (req_one _) ?_; intro w9 hb9 hk9; replace hb9 := Lib.hid hb9; replace hk9 := Lib.hid hk9))
        refine bodyPost_ret (v := .tuple #[.agg (reqT client num data T).cells.toArray, .int .i64 0]) (results_row2 (p := 10) (q := 11) (ty := 44) rfl _ _ w.heap.size _ _ _ _ _ rfl rfl hb9.out Try.underlying44 rfl hinfF.out) rfl ?_
        exact ⟨rfl, hw8.out.keep hk9.out (fun x hx hv => by omega)⟩
      · have hzE : ((E : Int) != 0) = true := by simp; omega
        rw [if_neg hE]
        go_enter Try.func27, Try.ntmps27
        go_upto_region 1 with (refine alloc_new rfl 44 rfl zeroReq.cells.toArray (by kernel_rfl) ?_; intro w1 hd s0; have hdl := blk_lt hd; replace hd := Lib.hid hd; replace s0 := Lib.hid s0)
        go_upto_region 2 with (first | (refine build_const (ty := 44) (.agg (req0 client num data).cells.toArray) rfl rfl (by kernel_rfl) ?_) | (refine alloc_new rfl 44 rfl zeroReq.cells.toArray (by kernel_rfl) ?_; intro w2 hb hs2; have hbl := blk_lt hb; replace hb := Lib.hid hb; replace hs2 := Lib.hid hs2) | (refine store_row rfl _ _ _ rfl w1.heap.size _ rfl rfl _ _ hb.out hinf0.out rfl (req_one _) ?_; intro w3 hb3 hk3))
        have sd : Same w1 w3 := hs2.out.keep hk3 (fun x hx hv => by omega)
        clear hk3 hs2 hb
        have hb := Lib.hid hb3
        clear hb3
        replace s0 := Lib.hid (s0.out.trans sd)
        replace sd := Lib.hid sd
        have hk3 := Lib.hid (h.out.same s0.out)
        go_wp2_with fail
        refine (hlen.out _ hk3.out).mono ?_
        rintro e w4 ⟨rfl, rfl⟩
        go_wp2_with (refine load_row rfl _ _ rfl w1.heap.size rfl _ _ _ _ hb.out Try.underlying44 rfl hinf0.out ?_)
        refine (hmay.out _).mono ?_
        rintro e w4 ⟨rfl, hs4⟩
        have sb := Lib.hid hs4
        replace s0 := Lib.hid (s0.out.trans hs4)
        replace sd := Lib.hid (sd.out.trans hs4)
        clear hs4 hk3
        go_wp2_with (refine load_row rfl _ _ rfl w1.heap.size rfl _ _ _ _ (sb.out.at hb.out) Try.underlying44 rfl hinf0.out ?_)
        refine (hbd.out _).mono ?_
        rintro e w5 ⟨rfl, hs5⟩
        replace s0 := Lib.hid (s0.out.trans hs5)
        replace sd := Lib.hid (sd.out.trans hs5)
        have hk5 := Lib.hid (h.out.same s0.out)
        clear hs5 sb
        go_wp2_with fail
        refine (hsg.out _ hk5.out).mono ?_
        rintro e w6 ⟨rfl, hs6⟩
        replace s0 := Lib.hid (s0.out.trans hs6)
        replace sd := Lib.hid (sd.out.trans hs6)
        clear hs6 hk5
        go_upto_region 9 with (first | (refine alloc_new rfl 42 rfl (bv noTag).toArray (by kernel_rfl) ?_; intro wN_ hN_ sN_; have lN_ := blk_lt hN_; replace hN_ := Lib.hid hN_; replace sN_ := Lib.hid sN_) | (refine store_row rfl _ _ _ rfl w6.heap.size _ rfl rfl _ _ hN_.out hinfT.out (by rw [List.size_toArray, List.size_toArray, bv_length, bv_length, hXl.out]; rfl) (by simpa using bv_cell) ?_; intro w7 ht kN_))
        have mN_ : Same w6 w7 := sN_.out.keep kN_ (fun x hx hv => by omega)
        clear kN_ sN_ hN_ lN_
        replace s0 := Lib.hid (s0.out.trans mN_)
        replace sd := Lib.hid (sd.out.trans mN_)
        clear mN_
        replace ht := Lib.hid ht
        have sht := Lib.hid (Same.refl (w := w7))
        go_simp
        clear ht sht
        go_wp2_with (first | (refine build_const (ty := 44) (.agg zeroReq.cells.toArray) rfl rfl (by kernel_rfl) ?_) | (refine store_row rfl _ _ _ rfl w.heap.size _ rfl rfl _ _ (sd.out.at hd.out) hinfZ.out rfl (req_one _) ?_; intro w8 hb8 hk8; replace hb8 := Lib.hid hb8; replace hk8 := Lib.hid hk8))
        refine bodyPost_ret (v := .tuple #[.agg zeroReq.cells.toArray, .int .i64 (E : Int)]) (results_row2 (p := 10) (q := 11) (ty := 44) rfl _ _ w.heap.size _ _ _ _ _ rfl rfl hb8.out Try.underlying44 rfl hinfZ.out) rfl ?_
        exact ⟨rfl, s0.out.keep hk8.out (fun x hx hv => by omega)⟩
end Go.Proofs.Ythgpmgodpedjdaa
