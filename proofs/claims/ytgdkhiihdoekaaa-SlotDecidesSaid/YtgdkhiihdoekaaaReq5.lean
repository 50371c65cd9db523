/-
  Requests: when two are the same; the law's keys, its example.
-/
import Derived.Test.YtgdkhiihdoekaaaReq4
import Derived.Test.YtgdkhiihdoekaaaReq2b
namespace Go.Proofs.Ytgdkhiihdoekaaa
open Go Go.RowKit
set_option linter.unusedSimpArgs false
set_option linter.unusedVariables false
set_option maxRecDepth 100000

def Req.lits (r : Req) : List Lit := [.int .i64 r.client, .int .i64 r.num, .string r.data.data.toList] ++ lits8 r.tag
theorem keyLits_req (r : Req) (h : r.wf) : Try.prog.keyLits 3 78 r.cells = some r.lits := by
  obtain ⟨ht, hc, hn, hsz⟩ := h
  have hi : ∀ x : Int, (Lit.int .i64 x).wf = true → Try.prog.keyLits 2 3 [.int .i64 x] = some [.int .i64 x] := by
    intro x hx
    unfold Program.keyLits
    rw [Try.underlying3]
    simp [hx]
  have hs : Try.prog.keyLits 2 9 [.string r.data] = some [.string r.data.data.toList] := by
    unfold Program.keyLits
    rw [Try.underlying9]
    simp [hsz]
  have htg : Try.prog.keyLits 2 76 (bv r.tag) = some (lits8 r.tag) := keyLits_bytes Try.underlying76 Try.underlying5 (by kernel_rfl) (by kernel_rfl) r.tag ht 0
  have h3 : Try.prog.cellsOf 3 = 1 := by kernel_rfl
  have h4 : Try.prog.cellsOf 9 = 1 := by kernel_rfl
  have h5 : Try.prog.cellsOf 76 = 16 := by kernel_rfl
  have h6 : Try.prog.cellsOf 78 = 19 := by kernel_rfl
  have hl : (bv r.tag).length = 16 := by rw [bv_length, ht]
  unfold Program.keyLits
  rw [Try.underlying78]
  simp [Req.cells, h3, h4, h5, h6, hi _ hc, hi _ hn, hs, hl, Req.lits, List.take_of_length_le, htg]
/-- Are they the same? -/
def Req.same (a b : Req) : Bool := decide (a.client = b.client) && (decide (a.num = b.num) && (decide (a.data = b.data) && decide (a.tag = b.tag)))
theorem Req.same_iff (a b : Req) : Req.same a b = true ↔ a = b := by
  cases a
  cases b
  simp [Req.same]
theorem Req.lits_inj (a b : Req) : a.lits = b.lits ↔ a = b := by
  constructor
  · intro h
    simp only [Req.lits, List.cons_append, List.nil_append, List.cons.injEq, Lit.int.injEq, Lit.string.injEq, true_and] at h
    obtain ⟨h1, h2, h3, h4⟩ := h
    have h5 := lits8_inj.1 h4
    have h6 : a.data = b.data := by
      have : a.data.data = b.data.data := Array.toList_inj.1 h3
      exact ByteArray.ext this
    cases a
    cases b
    simp only at h1 h2 h5 h6
    subst h1 h2 h5 h6
    rfl
  · rintro rfl
    rfl
theorem Req.same_self (a : Req) : Req.same a a = true := (Req.same_iff a a).2 rfl
theorem req_eql (a b : Req) (ha : a.wf) (hb : b.wf) (w : World) : (binOp .eql 78 (.agg a.cells.toArray) (.agg b.cells.toArray)).run Try.prog w = .ok (.bool (Req.same a b)) w := by
  have h4 : Try.prog.cellsOf 78 = 19 := by kernel_rfl
  obtain ⟨r, hr, hiff⟩ := equal_lits w (by decide : 3 ≤ 10000) (by kernel_rfl) (by rw [Try.underlying78]) a.cells b.cells _ _ 3 (keyLits_req a ha) (keyLits_req b hb) (by rw [h4, Req.cells_length ha.1]) (by rw [h4, Req.cells_length hb.1])
  rw [run_eql_struct, hr]
  have e : r = Req.same a b := by
    rw [Bool.eq_iff_iff, hiff, Req.lits_inj, Req.same_iff]
  rw [e]
  rfl
theorem req_neq (a b : Req) (ha : a.wf) (hb : b.wf) (w : World) : (binOp .neq 78 (.agg a.cells.toArray) (.agg b.cells.toArray)).run Try.prog w = .ok (.bool (!Req.same a b)) w := by
  have h4 : Try.prog.cellsOf 78 = 19 := by kernel_rfl
  obtain ⟨r, hr, hiff⟩ := equal_lits w (by decide : 3 ≤ 10000) (by kernel_rfl) (by rw [Try.underlying78]) a.cells b.cells _ _ 3 (keyLits_req a ha) (keyLits_req b hb) (by rw [h4, Req.cells_length ha.1]) (by rw [h4, Req.cells_length hb.1])
  rw [run_neq_struct, hr]
  have e : r = Req.same a b := by
    rw [Bool.eq_iff_iff, hiff, Req.lits_inj, Req.same_iff]
  rw [e]
  rfl
theorem req_guard (op : BinOp) (x y : Operand) (a b : Array Value) (w : World) : (eqGuard op 78 x y (.agg a) (.agg b)).run Try.prog w = .ok () w := run_eqGuard_agg w op _ x y a b (by kernel_rfl)

/-- The law's seed. -/
abbrev seedR : ByteArray := ⟨#[114]⟩
def isKeys (seed : ByteArray) (n : Nat) : Value → World → Prop := fun v w => ∃ p, v = .pointer (some p) ∧ KeysAt w (some p) seed n
theorem isKeys_stable (seed : ByteArray) (n : Nat) : Stable Same (isKeys seed n) := fun _ _ _ k ⟨p, h, hk⟩ => ⟨p, h, hk.same k⟩
/-- Both keys. -/
def RetKeys (w : World) (e : Ending) (w' : World) : Prop := ∃ p, e = .returned (.tuple #[.pointer (some p), rkeys seedR 72]) ∧ KeysAt w' (some p) seedR 72 ∧ Same w w'
set_option maxRecDepth 100000 in
set_option maxHeartbeats 800000 in
theorem keys7_any (w : World) : Calls Try.prog 36 #[] w (RetKeys w) := by
  have hinfK := Lib.hid (keys_info #[.string seedR, .int .i64 (72 : Nat)] rfl)
  have hr := fun w => rderive_some w seedR 72 (by omega) (by omega) (by decide)
  have hd := fun w => derive_some w seedR 72 (by omega) (by omega) (by decide)
  unfold RetKeys
  replace hr := Lib.hid hr
  replace hd := Lib.hid hd
  go_enter Try.func36, Try.ntmps36
  go_upto_region 1 with (refine alloc_new rfl 71 rfl #[.string ByteArray.empty, .int .i64 0] (by kernel_rfl) ?_; intro w1 hz hs1; have hzl := blk_lt hz; replace hz := Lib.hid hz; replace hs1 := Lib.hid hs1)
  go_wp2_with fail
  refine (hr.out _).mono ?_
  rintro e w2 ⟨rfl, hs2⟩
  have hz2 := Lib.hid (hs2.at hz.out)
  have hw2 := Lib.hid (hs1.out.trans hs2)
  clear hs2 hs1 hz
  go_upto_region 2 with (first | (refine alloc_new rfl 71 rfl #[.string ByteArray.empty, .int .i64 0] (by kernel_rfl) ?_; intro w3 hb hs3; have hbl := blk_lt hb; replace hb := Lib.hid hb; replace hs3 := Lib.hid hs3) | (refine store_row rfl _ _ _ rfl w2.heap.size #[.string seedR, .int .i64 (72 : Nat)] rfl rfl _ _ hb.out hinfK.out rfl (by simp [Value.oneCell']) ?_; intro w4 hb4 hk4))
  have hs24 : Same w2 w4 := hs3.out.keep hk4 (fun x hx hv => by omega)
  have hz4 := Lib.hid (hs24.at hz2.out)
  have hw4 := Lib.hid (hw2.out.trans hs24)
  have hzl4 := blk_lt hz4.out
  clear hs24 hs3 hk4 hb hz2 hw2
  replace hb4 := Lib.hid hb4
  go_simp
  refine wp_region_tails (by kernel_rfl) [(8, 0), (9, 1), (0, 2)] Same (Same _) [isKeys seedR 72, isV (rkeys seedR (72 : Nat)), isKeys seedR 72] Same.refl.drew (fun _ _ h k => h.trans k) (by simp [isV_stable, isB_stable, isAny_stable, isKeys_stable]) (by decide) (l := [_, _, _]) rfl (by decide) (by kernel_rfl) ?_ ?_
  · refine ⟨?_, ?_, ?_, trivial⟩
    all_goals (intro u wx hI hp; simp only [mkAct, List.foldl_cons, List.foldl_nil, List.setIfInBounds_toArray, List.set_cons_succ, List.set_cons_zero])
    · -- operation 0
      go_wp2_with fail
      refine (hd.out _).mono ?_
      rintro e w5 ⟨p, rfl, hka, hs'⟩
      go_wp2
      refine stq_x (.pointer (some p)) rfl ⟨p, rfl, hka⟩ hs' ?_
      first | (simp only [mkAct, List.foldl_cons, List.foldl_nil, List.setIfInBounds_toArray, List.set_cons_succ, List.set_cons_zero, upd, reduceIte, Nat.reduceEqDiff, Nat.reduceAdd, str]; done) | (simp [mkAct, upd, str, *]; done)
    · -- operation 1
      obtain ⟨-, -⟩ := hp
      go_wp2_with (refine load_row rfl _ _ rfl w2.heap.size rfl _ _ _ _ (hI.at hb4.out) Try.underlying71 rfl hinfK.out ?_)
      refine stq_v rfl Same.refl ?_
      first | (simp only [mkAct, List.foldl_cons, List.foldl_nil, List.setIfInBounds_toArray, List.set_cons_succ, List.set_cons_zero, upd, reduceIte, Nat.reduceEqDiff, Nat.reduceAdd, str]; done) | (simp [mkAct, upd, str, *]; done)
    · -- operation 2
      obtain ⟨f0, -, -, -, -⟩ := hp
      obtain ⟨p, hp, hka⟩ := f0
      try simp only [hp]
      replace hka := Lib.hid hka
      go_wp2
      refine stq_x (.pointer (some p)) rfl ⟨p, rfl, hka.out⟩ Same.refl ?_
      simp [mkAct, upd, hp]
  · intro u wx hI hR
    obtain ⟨r0, r1, r2, -⟩ := hR
    replace r1 : u 1 = (rkeys seedR (72 : Nat)) := r1
    simp only [mkAct, List.foldl_cons, List.foldl_nil, List.setIfInBounds_toArray, List.set_cons_succ, List.set_cons_zero]
    try simp only [str, r1]
    obtain ⟨p, hp, hka⟩ := r2
    try simp only [hp]
    clear r0
    replace hka := Lib.hid hka
    have hw5 := Lib.hid (hw4.out.trans hI)
    have hz5 := Lib.hid (hI.at hz4.out)
    clear hI hw4 hz4
    go_wp2_with (refine store_row rfl _ _ _ rfl w.heap.size #[.string seedR, .int .i64 (72 : Nat)] rfl rfl _ _ hz5.out hinfK.out rfl (by simp [Value.oneCell']) ?_; intro w6 hb6 hk6; replace hb6 := Lib.hid hb6; replace hk6 := Lib.hid hk6)
    refine bodyPost_ret (v := .tuple #[.pointer (some p), rkeys seedR (72 : Nat)]) (results_row2' (p := 1) (q := 0) (ty := 71) rfl _ _ w.heap.size _ _ _ _ _ rfl rfl hb6.out Try.underlying71 rfl hinfK.out) rfl ?_
    refine ⟨p, rfl, ?_, hw5.out.keep hk6.out (fun x hx hv => by omega)⟩
    rcases hka.out with ⟨h1, _⟩ | ⟨kb, h1, h2⟩
    · cases h1
    · have hne : kb ≠ w.heap.size := by
        rintro rfl
        rw [hz5.out] at h2
        simp at h2
      exact .inr ⟨kb, h1, (hk6.out.block _ (blk_lt h2) hne).trans h2⟩
end Go.Proofs.Ytgdkhiihdoekaaa
