/-
  The sets of pairs that calls make; batches: the program's Same; have two a request in common; what stands twice.
-/
import Derived.Test.YtgdkhiihdoekaaaMap
import Derived.Test.YtgdkhiihdoekaaaBat2
import Derived.Test.YtgdkhiihdoekaaaOpen
import Derived.Test.YtgdkhiihdoekaaaEq
namespace Go.Proofs.Ytgdkhiihdoekaaa
open Go Go.RowKit
set_option linter.unusedSimpArgs false
set_option linter.unusedVariables false

set_option maxRecDepth 100000
def pairV (p : Int × Int) : Value := .agg #[.int .i64 p.1, .int .i64 p.2]
def wfP (p : Int × Int) : Prop := (Lit.int .i64 p.1).wf = true ∧ (Lit.int .i64 p.2).wf = true
theorem bp_law : Maps.Keyed Try.prog 147 := Maps.Keyed.of_law (deep_law_laid laidOut (m := 2) (by omega) (of_decide_eq_true (by kernel_rfl)) (by kernel_rfl) (by rw [Try.underlying147]))
theorem bp_ex (p : Int × Int) (h : wfP p) : ∃ l, keyOf Try.prog 147 (pairV p) = some l := by
  have hi : ∀ (d : Nat) (x : Int), (Lit.int .i64 x).wf = true → Try.prog.keyLits (d + 1) 3 [.int .i64 x] = some [.int .i64 x] := by
    intro d x hx
    unfold Program.keyLits
    rw [Try.underlying3]
    simp [hx]
  have h3 : Try.prog.cellsOf 3 = 1 := by kernel_rfl
  have h2 : Try.prog.cellsOf 147 = 2 := by kernel_rfl
  obtain ⟨d, hd⟩ : ∃ d, Try.prog.types.size + 1 = d + 2 := ⟨Try.prog.types.size - 1, by have : 1 ≤ Try.prog.types.size := of_decide_eq_true (by kernel_rfl); omega⟩
  have hk : Try.prog.keyType 147 = true := by kernel_rfl
  have hl : Try.prog.keyLits (d + 2) 147 [.int .i64 p.1, .int .i64 p.2] = some [.int .i64 p.1, .int .i64 p.2] := by
    unfold Program.keyLits
    rw [Try.underlying147]
    simp [h2, h3, hi _ _ h.1, hi _ _ h.2]
  refine ⟨.string (keyBytes [.int .i64 p.1, .int .i64 p.2]), ?_⟩
  unfold keyOf
  rw [Try.underlying147]
  simp only [hk, hd, pairV, Value.formed, Try.underlying147, h2, Value.cells, hl]
  rfl
/-- How a pair reads as a key. -/
noncomputable def bp_k (p : Int × Int) : Lit := (keyOf Try.prog 147 (pairV p)).getD (.bool false)
theorem bp_of {p : Int × Int} (h : wfP p) : keyOf Try.prog 147 (pairV p) = some (bp_k p) := by
  obtain ⟨l, hl⟩ := bp_ex p h
  rw [bp_k, hl]
  rfl
theorem bp_inj {p q : Int × Int} (h : wfP p) (h' : wfP q) (e : bp_k p = bp_k q) : p = q := by
  have := bp_law.inj (bp_of h) (e ▸ bp_of h')
  simpa [pairV, Prod.ext_iff] using this
/-- Block b is a set of c pairs (at most n), as g tells. -/
def bp_set (w : World) (b n c : Nat) (g : Int × Int → Bool) : Prop := ∃ f, MapR Try.prog 147 w b n c f ∧ ∀ p, wfP p → f (bp_k p) = if g p then some (.bool true) else none
section
variable {w w' : World} {b n c : Nat} {g : Int × Int → Bool}
theorem bp_set.lt (h : bp_set w b n c g) : b < w.heap.size := let ⟨_, h, _⟩ := h; h.lt
theorem bp_set.keep {p : Nat → Prop} (h : bp_set w b n c g) (k : Keep p w w') (hp : ¬ p b) : bp_set w' b n c g := let ⟨f, h1, h2⟩ := h; ⟨f, h1.keep k hp, h2⟩
theorem bp_set.same (h : bp_set w b n c g) (k : Same w w') : bp_set w' b n c g := let ⟨f, h1, h2⟩ := h; ⟨f, h1.same k, h2⟩
theorem bp_set.mono (h : bp_set w b n c g) {m : Nat} (k : n ≤ m) : bp_set w b m c g := let ⟨f, h1, h2⟩ := h; ⟨f, h1.mono k, h2⟩
theorem bp_set.congr (h : bp_set w b n c g) {c' : Nat} {g' : Int × Int → Bool} (hc : c = c') (k : ∀ p, g p = g' p) : bp_set w b n c' g' := by
  obtain rfl : g = g' := funext k
  rw [← hc]
  exact h
variable {ops : Array Oper} {rest : List Oper} {o : Oper} {a : Act} {Q : Exit → Act → World → Prop}
theorem bp_make (hg : Region.wanted o (yielded ops a.tmps) = true) (ho : o.op = .makeMap 145 none)
    (h : ∀ w', bp_set w' w.heap.size 0 0 (fun _ => false) → Same w w' → w'.heap.size = w.heap.size + 1 → wpList Try.prog ops Q rest (a.put o.dst (.map (some w.heap.size))) w') : wpList Try.prog ops Q (o :: rest) a w :=
  map_make (k := 147) hg ho fun w' h1 h2 h3 => h w' ⟨_, h1, fun _ _ => rfl⟩ h2 h3
theorem bp_look (p : Int × Int) (hg : Region.wanted o (yielded ops a.tmps) = true) (m x : Operand) (ho : o.op = .lookup 145 m x false) (hm : a.eval m = .map (some b)) (hM : bp_set w b n c g) (hx : a.eval x = pairV p) (hp : wfP p)
    (h : wpList Try.prog ops Q rest (a.put o.dst (.bool (g p))) w) : wpList Try.prog ops Q (o :: rest) a w := by
  obtain ⟨f, h1, h2⟩ := hM
  refine map_look hg m x ho bp_law Try.underlying145 (z := .bool false) (by kernel_rfl) hm h1 hx (bp_of hp) ?_
  rw [h2 p hp]
  cases hgp : g p <;> rw [hgp] at h <;> exact h
theorem bp_put (p : Int × Int) (hg : Region.wanted o (yielded ops a.tmps) = true) (m x v : Operand) (ho : o.op = .mapUpdate 145 m x v) (hm : a.eval m = .map (some b)) (hM : bp_set w b n c g) (hn : n < maxLen) (hx : a.eval x = pairV p) (hp : wfP p) (hv : a.eval v = .bool true)
    (h : ∀ w', bp_set w' b (n + 1) (if g p then c else c + 1) (fun q => g q || decide (q = p)) → Keep (· = b) w w' → wpList Try.prog ops Q rest (a.put o.dst undef) w') : wpList Try.prog ops Q (o :: rest) a w := by
  obtain ⟨f, h1, h2⟩ := hM
  refine map_put hg m x v ho bp_law Try.underlying145 hm h1 hn hx hv (bp_of hp) fun w' h3 h4 => h w' ⟨_, h3.congr ?_ (fun _ => rfl), fun q hq => ?_⟩ h4
  · rw [h2 p hp]
    cases g p <;> rfl
  · by_cases e : q = p
    · subst e
      rw [setF_same]
      simp
    · rw [setF_other _ _ (fun h => e (bp_inj hq hp h)), h2 q hq]
      simp [e]
theorem bp_drop (p : Int × Int) (hg : Region.wanted o (yielded ops a.tmps) = true) (m x : Operand) (ho : o.op = .call { callee := .builtin .delete, args := #[m, x], argTypes := #[145, 147] }) (hm : a.eval m = .map (some b)) (hM : bp_set w b n c g) (hx : a.eval x = pairV p) (hp : wfP p)
    (h : ∀ w', bp_set w' b n (if g p then c - 1 else c) (fun q => g q && !decide (q = p)) → Keep (· = b) w w' → wpList Try.prog ops Q rest (a.put o.dst (.tuple #[])) w') : wpList Try.prog ops Q (o :: rest) a w := by
  obtain ⟨f, h1, h2⟩ := hM
  refine map_drop hg m x ho bp_law Try.underlying145 hm h1 hx (bp_of hp) fun w' h3 h4 => h w' ⟨_, h3.congr ?_ (fun _ => rfl), fun q hq => ?_⟩ h4
  · rw [h2 p hp]
    cases g p <;> rfl
  · by_cases e : q = p
    · subst e
      rw [setF_same]
      simp
    · rw [setF_other _ _ (fun h => e (bp_inj hq hp h)), h2 q hq]
      simp [e]
theorem bp_len (hg : Region.wanted o (yielded ops a.tmps) = true) (m : Operand) (ho : o.op = .call { callee := .builtin .len, args := #[m], argTypes := #[145] }) (hm : a.eval m = .map (some b)) (hM : bp_set w b n c g)
    (h : wpList Try.prog ops Q rest (a.put o.dst (.int .i64 c)) w) : wpList Try.prog ops Q (o :: rest) a w := by
  obtain ⟨f, h1, h2⟩ := hM
  exact map_len hg m ho Try.underlying145 hm h1 h
end
theorem pp_law : Maps.Keyed Try.prog 189 := Maps.Keyed.of_law (deep_law_laid laidOut (m := 2) (by omega) (of_decide_eq_true (by kernel_rfl)) (by kernel_rfl) (by rw [Try.underlying189]))
theorem pp_ex (p : Int × Int) (h : wfP p) : ∃ l, keyOf Try.prog 189 (pairV p) = some l := by
  have hi : ∀ (d : Nat) (x : Int), (Lit.int .i64 x).wf = true → Try.prog.keyLits (d + 1) 3 [.int .i64 x] = some [.int .i64 x] := by
    intro d x hx
    unfold Program.keyLits
    rw [Try.underlying3]
    simp [hx]
  have h3 : Try.prog.cellsOf 3 = 1 := by kernel_rfl
  have h2 : Try.prog.cellsOf 189 = 2 := by kernel_rfl
  obtain ⟨d, hd⟩ : ∃ d, Try.prog.types.size + 1 = d + 2 := ⟨Try.prog.types.size - 1, by have : 1 ≤ Try.prog.types.size := of_decide_eq_true (by kernel_rfl); omega⟩
  have hk : Try.prog.keyType 189 = true := by kernel_rfl
  have hl : Try.prog.keyLits (d + 2) 189 [.int .i64 p.1, .int .i64 p.2] = some [.int .i64 p.1, .int .i64 p.2] := by
    unfold Program.keyLits
    rw [Try.underlying189]
    simp [h2, h3, hi _ _ h.1, hi _ _ h.2]
  refine ⟨.string (keyBytes [.int .i64 p.1, .int .i64 p.2]), ?_⟩
  unfold keyOf
  rw [Try.underlying189]
  simp only [hk, hd, pairV, Value.formed, Try.underlying189, h2, Value.cells, hl]
  rfl
/-- How a pair reads as a key. -/
noncomputable def pp_k (p : Int × Int) : Lit := (keyOf Try.prog 189 (pairV p)).getD (.bool false)
theorem pp_of {p : Int × Int} (h : wfP p) : keyOf Try.prog 189 (pairV p) = some (pp_k p) := by
  obtain ⟨l, hl⟩ := pp_ex p h
  rw [pp_k, hl]
  rfl
theorem pp_inj {p q : Int × Int} (h : wfP p) (h' : wfP q) (e : pp_k p = pp_k q) : p = q := by
  have := pp_law.inj (pp_of h) (e ▸ pp_of h')
  simpa [pairV, Prod.ext_iff] using this
/-- Block b is a set of c pairs (at most n), as g tells. -/
def pp_set (w : World) (b n c : Nat) (g : Int × Int → Bool) : Prop := ∃ f, MapR Try.prog 189 w b n c f ∧ ∀ p, wfP p → f (pp_k p) = if g p then some (.bool true) else none
section
variable {w w' : World} {b n c : Nat} {g : Int × Int → Bool}
theorem pp_set.lt (h : pp_set w b n c g) : b < w.heap.size := let ⟨_, h, _⟩ := h; h.lt
theorem pp_set.keep {p : Nat → Prop} (h : pp_set w b n c g) (k : Keep p w w') (hp : ¬ p b) : pp_set w' b n c g := let ⟨f, h1, h2⟩ := h; ⟨f, h1.keep k hp, h2⟩
theorem pp_set.same (h : pp_set w b n c g) (k : Same w w') : pp_set w' b n c g := let ⟨f, h1, h2⟩ := h; ⟨f, h1.same k, h2⟩
theorem pp_set.mono (h : pp_set w b n c g) {m : Nat} (k : n ≤ m) : pp_set w b m c g := let ⟨f, h1, h2⟩ := h; ⟨f, h1.mono k, h2⟩
theorem pp_set.congr (h : pp_set w b n c g) {c' : Nat} {g' : Int × Int → Bool} (hc : c = c') (k : ∀ p, g p = g' p) : pp_set w b n c' g' := by
  obtain rfl : g = g' := funext k
  rw [← hc]
  exact h
variable {ops : Array Oper} {rest : List Oper} {o : Oper} {a : Act} {Q : Exit → Act → World → Prop}
theorem pp_make (hg : Region.wanted o (yielded ops a.tmps) = true) (ho : o.op = .makeMap 117 none)
    (h : ∀ w', pp_set w' w.heap.size 0 0 (fun _ => false) → Same w w' → w'.heap.size = w.heap.size + 1 → wpList Try.prog ops Q rest (a.put o.dst (.map (some w.heap.size))) w') : wpList Try.prog ops Q (o :: rest) a w :=
  map_make (k := 189) hg ho fun w' h1 h2 h3 => h w' ⟨_, h1, fun _ _ => rfl⟩ h2 h3
theorem pp_look (p : Int × Int) (hg : Region.wanted o (yielded ops a.tmps) = true) (m x : Operand) (ho : o.op = .lookup 117 m x false) (hm : a.eval m = .map (some b)) (hM : pp_set w b n c g) (hx : a.eval x = pairV p) (hp : wfP p)
    (h : wpList Try.prog ops Q rest (a.put o.dst (.bool (g p))) w) : wpList Try.prog ops Q (o :: rest) a w := by
  obtain ⟨f, h1, h2⟩ := hM
  refine map_look hg m x ho pp_law Try.underlying117 (z := .bool false) (by kernel_rfl) hm h1 hx (pp_of hp) ?_
  rw [h2 p hp]
  cases hgp : g p <;> rw [hgp] at h <;> exact h
theorem pp_put (p : Int × Int) (hg : Region.wanted o (yielded ops a.tmps) = true) (m x v : Operand) (ho : o.op = .mapUpdate 117 m x v) (hm : a.eval m = .map (some b)) (hM : pp_set w b n c g) (hn : n < maxLen) (hx : a.eval x = pairV p) (hp : wfP p) (hv : a.eval v = .bool true)
    (h : ∀ w', pp_set w' b (n + 1) (if g p then c else c + 1) (fun q => g q || decide (q = p)) → Keep (· = b) w w' → wpList Try.prog ops Q rest (a.put o.dst undef) w') : wpList Try.prog ops Q (o :: rest) a w := by
  obtain ⟨f, h1, h2⟩ := hM
  refine map_put hg m x v ho pp_law Try.underlying117 hm h1 hn hx hv (pp_of hp) fun w' h3 h4 => h w' ⟨_, h3.congr ?_ (fun _ => rfl), fun q hq => ?_⟩ h4
  · rw [h2 p hp]
    cases g p <;> rfl
  · by_cases e : q = p
    · subst e
      rw [setF_same]
      simp
    · rw [setF_other _ _ (fun h => e (pp_inj hq hp h)), h2 q hq]
      simp [e]
theorem pp_drop (p : Int × Int) (hg : Region.wanted o (yielded ops a.tmps) = true) (m x : Operand) (ho : o.op = .call { callee := .builtin .delete, args := #[m, x], argTypes := #[117, 189] }) (hm : a.eval m = .map (some b)) (hM : pp_set w b n c g) (hx : a.eval x = pairV p) (hp : wfP p)
    (h : ∀ w', pp_set w' b n (if g p then c - 1 else c) (fun q => g q && !decide (q = p)) → Keep (· = b) w w' → wpList Try.prog ops Q rest (a.put o.dst (.tuple #[])) w') : wpList Try.prog ops Q (o :: rest) a w := by
  obtain ⟨f, h1, h2⟩ := hM
  refine map_drop hg m x ho pp_law Try.underlying117 hm h1 hx (pp_of hp) fun w' h3 h4 => h w' ⟨_, h3.congr ?_ (fun _ => rfl), fun q hq => ?_⟩ h4
  · rw [h2 p hp]
    cases g p <;> rfl
  · by_cases e : q = p
    · subst e
      rw [setF_same]
      simp
    · rw [setF_other _ _ (fun h => e (pp_inj hq hp h)), h2 q hq]
      simp [e]
theorem pp_len (hg : Region.wanted o (yielded ops a.tmps) = true) (m : Operand) (ho : o.op = .call { callee := .builtin .len, args := #[m], argTypes := #[117] }) (hm : a.eval m = .map (some b)) (hM : pp_set w b n c g)
    (h : wpList Try.prog ops Q rest (a.put o.dst (.int .i64 c)) w) : wpList Try.prog ops Q (o :: rest) a w := by
  obtain ⟨f, h1, h2⟩ := hM
  exact map_len hg m ho Try.underlying117 hm h1 h
end
theorem pairV_info : (Try.prog.info? 147).map (·.size) = some 2 := by kernel_rfl
set_option maxRecDepth 100000 in
set_option maxHeartbeats 400000 in
theorem bof_any (r : Req) (w : World) (ht : r.tag.length = 16) :
    Calls Try.prog 80 #[.agg r.cells.toArray] w fun e w' => e = .returned (pairV (r.client, r.num)) ∧ Same w w' := by
  have hinf := Lib.hid (req_info ht)
  have hinfP := Lib.hid pairV_info
  obtain ⟨c, hc⟩ : ∃ c, c = r.client := ⟨_, rfl⟩
  obtain ⟨m, hm⟩ : ∃ m, m = r.num := ⟨_, rfl⟩
  rw [← hc, ← hm, pairV]
  replace hc := Lib.hid hc
  replace hm := Lib.hid hm
  go_enter Try.func80, Try.ntmps80
  go_wp2_with (first | (refine box_row rfl _ _ rfl _ rfl hinf.out ?_; intro w0 hbx hs0; replace hbx := Lib.hid hbx; replace hs0 := Lib.hid hs0) | (refine alloc_new rfl 147 rfl #[.int .i64 0, .int .i64 0] (by kernel_rfl) ?_; intro w1 hd hs1; have hb2 := hs1.at hbx.out; have c0 := req_client hb2; have c1 := req_num hb2; rw [← hc.out] at c0; rw [← hm.out] at c1; clear hb2; replace hd := Lib.hid hd; replace hs1 := Lib.hid hs1) | (refine store_row rfl _ _ _ rfl w0.heap.size #[.int .i64 c, .int .i64 m] rfl rfl _ _ hd.out hinfP.out rfl (by simp [Value.oneCell']) ?_; intro w2 hb1 hk1; replace hb1 := Lib.hid hb1; replace hk1 := Lib.hid hk1))
  refine bodyPost_ret (v := .agg #[.int .i64 c, .int .i64 m]) (results_row (p := 2) (ty := 147) rfl _ _ w0.heap.size _ _ _ _ rfl hb1.out Try.underlying147 rfl hinfP.out) rfl ?_
  exact ⟨rfl, (hs0.out.trans hs1.out).keep hk1.out (fun x hx hv => by have := hs0.out.size; omega)⟩
end Go.Proofs.Ytgdkhiihdoekaaa
namespace Go.Proofs.Ytgdkhiihdoekaaa
open Go Go.RowKit
set_option linter.unusedSimpArgs false
set_option linter.unusedVariables false

def Req.pair (r : Req) : Int × Int := (r.client, r.num)
theorem Req.wf.pair {r : Req} (h : r.wf) : wfP r.pair := ⟨h.2.1, h.2.2.1⟩
/-- Is the pair among those of a list? -/
def inPairs (l : List Req) (p : Int × Int) : Bool := l.any fun r => decide (r.pair = p)
theorem inPairs_snoc (l : List Req) (r : Req) (p : Int × Int) : inPairs (l ++ [r]) p = (inPairs l p || decide (p = r.pair)) := by
  unfold inPairs
  rw [List.any_append]
  congr 1
  simp only [List.any_cons, List.any_nil, Bool.or_false, decide_eq_decide]
  exact eq_comm
theorem take_snoc {l : List Req} {k : Nat} (h : k < l.length) : l.take (k + 1) = l.take k ++ [reqAt l k] := by
  rw [List.take_succ_eq_append_getElem h]
  have := reqAt_get h
  rw [List.getElem?_eq_getElem h] at this
  injection this with this
  rw [this]
/-- Have two lists a pair in common? -/
def meets (a b : List Req) : Bool := b.any fun r => inPairs a r.pair
theorem meets_comm (a b : List Req) : meets a b = meets b a := by
  rw [Bool.eq_iff_iff]
  simp only [meets, inPairs, List.any_eq_true, decide_eq_true_eq]
  constructor
  · rintro ⟨x, hx, y, hy, h⟩
    exact ⟨y, hy, x, hx, h.symm⟩
  · rintro ⟨x, hx, y, hy, h⟩
    exact ⟨y, hy, x, hx, h.symm⟩
theorem meets_snoc (a b : List Req) (r : Req) : meets a (b ++ [r]) = (meets a b || inPairs a r.pair) := by simp [meets]
theorem meets_take {a b : List Req} {k : Nat} (h : k < b.length) (hin : inPairs a (reqAt b k).pair = true) : meets a b = true := by
  rw [meets, List.any_eq_true]
  exact ⟨_, reqAt_mem h, hin⟩
set_option maxRecDepth 100000 in
set_option maxHeartbeats 1600000 in
theorem bmeet_any (a b : BatV) (w : World) (ha : a.at w) (hb : b.at w) :
    Calls Try.prog 17 #[.agg a.cells.toArray, .agg b.cells.toArray] w fun e w' => e = .returned (.bool (meets a.reqs b.reqs)) ∧ Same w w' := by
  have hinfA := Lib.hid (bat_info a)
  have hinfB := Lib.hid (bat_info b)
  have hof := Lib.hid bof_any
  have hcap := ha.1.cap
  have hmost := ha.1.most
  have hcapb := hb.1.cap
  have hmostb := hb.1.most
  unfold maxLen at hmost hmostb
  obtain ⟨M, hM0⟩ : ∃ M, M = meets a.reqs b.reqs := ⟨_, rfl⟩
  rw [← hM0]
  obtain ⟨n, hn⟩ : ∃ n, n = a.reqs.length := ⟨_, rfl⟩
  obtain ⟨m, hm⟩ : ∃ m, m = b.reqs.length := ⟨_, rfl⟩
  rw [← hn] at hcap
  rw [← hm] at hcapb
  replace ha := Lib.hid ha
  replace hb := Lib.hid hb
  replace hn := Lib.hid hn
  replace hm := Lib.hid hm
  replace hM0 := Lib.hid hM0
  go_enter Try.func17, Try.ntmps17
  go_upto_region 1 with (first | (refine box_row rfl _ _ rfl a.cells.toArray rfl hinfA.out ?_; intro w0 hbx hs0; have hbxl := blk_lt hbx; replace hbx := Lib.hid hbx; replace hs0 := Lib.hid hs0) | (refine box_row rfl _ _ rfl b.cells.toArray rfl hinfB.out ?_; intro w1 hby hs1; replace hby := Lib.hid hby; replace hs1 := Lib.hid hs1))
  have hbx1 := hs1.out.at hbx.out
  have c1 := bat_reqs hbx1
  have d1 := bat_reqs hby.out
  rw [← hn.out] at c1
  rw [← hm.out] at d1
  have hw1 := Lib.hid (hs0.out.trans hs1.out)
  clear hbx hby hs0 hs1 hbx1
  replace c1 := Lib.hid c1
  replace d1 := Lib.hid d1
  go_wp2_with (refine bp_make rfl rfl ?_; intro w2 hMs hs2 hz2; have c2 := hs2.cell c1.out; replace hMs := Lib.hid hMs; replace hs2 := Lib.hid hs2)
  obtain ⟨B, hB⟩ : ∃ B, B = w1.heap.size := ⟨_, rfl⟩
  rw [← hB] at hMs
  try rw [← hB]
  have hB2 : ∀ x, x < w1.heap.size → ¬ x = B := fun x hx => by omega
  replace hB := Lib.hid hB
  clear c2
  go_loopw [14] (fun i wr => ∃ k c : Nat, k ≤ n ∧ i = .int .i64 k ∧ bp_set wr B k c (inPairs (a.reqs.take k)) ∧ Same w1 wr) (fun i _ => n - (intOf i).toNat)
  case atStart => exact ⟨0, 0, by omega, rfl, hMs.out, hs2.out⟩
  case round =>
    obtain ⟨k, c, hk, rfl, hset, hs⟩ := hrel
    clear hMs hs2
    have hsetl := hset.lt
    by_cases hlt : k < n
    · have c1r := hs.cell c1.out
      have hkn := take_snoc (l := a.reqs) (k := k) (by rw [← hn.out]; exact hlt)
      obtain ⟨bk, off, hao, hbl, hrange⟩ := BatV.range (w := w) (b := a) ha.out (i := k) (by rw [← hn.out]; exact hlt)
      have hr2 := (hw1.out.trans hs).range hrange
      have hwfR := (ha.out.2 _ (reqAt_mem (l := a.reqs) (i := k) (by rw [← hn.out]; exact hlt))).1
      obtain ⟨R, hR⟩ : ∃ R, R = reqAt a.reqs k := ⟨_, rfl⟩
      rw [← hR] at hr2 hwfR
      have hinfL := Lib.hid (req_infoL hwfR.1)
      have hinfR := Lib.hid (req_info hwfR.1)
      have hsz := Lib.hid (req_sizes (r := zeroReq) rfl hwfR.1)
      have q0 : 0 ≤ (k : Int) := by omega
      clear hrange hbl
      replace hr2 := Lib.hid hr2
      replace hwfR := Lib.hid hwfR
      replace hR := Lib.hid hR
      have q1 : (k : Int) < (n : Int) := by omega
      rw [hao] at c1r ⊢
      clear hao
      replace hset := Lib.hid hset
      replace hs := Lib.hid hs
      replace hkn := Lib.hid hkn
      go_upto_region 5 with (first | (refine load_mid rfl _ _ rfl bk (off + k * 19) rfl R.cells _ hr2.out Try.underlying78 rfl hinfL.out ?_) | (refine alloc_new rfl 78 rfl zeroReq.cells.toArray (by kernel_rfl) ?_; intro w3 hd hs3; have hdl := blk_lt hd; replace hd := Lib.hid hd; replace hs3 := Lib.hid hs3) | (refine store_row rfl _ _ _ rfl wr.heap.size _ rfl rfl _ _ hd.out hinfR.out hsz.out (req_one _) ?_; intro w4 hd4 hk4))
      have hs4 : Same wr w4 := hs3.out.keep hk4 (fun x hx hv => by omega)
      have hw4 := Lib.hid (hs.out.trans hs4)
      have hset4 := Lib.hid (hset.out.same hs4)
      replace hd4 := Lib.hid hd4
      clear hs hs3 hk4 hs4 hd hset
      go_simp
      go_wp2_with (refine load_row rfl _ _ rfl wr.heap.size rfl _ _ _ _ hd4.out Try.underlying78 rfl hinfR.out ?_)
      refine (hof.out _ _ hwfR.out.1).mono ?_
      rintro e w5 ⟨rfl, hs5⟩
      have hw5 := Lib.hid (hw4.out.trans hs5)
      have hset5 := Lib.hid (hset4.out.same hs5)
      clear hs5 hw4 hset4 hd4
      go_wp2_with (refine bp_put R.pair rfl _ _ _ rfl rfl hset5.out (by unfold maxLen; omega) rfl hwfR.out.pair rfl ?_; intro w6 hset6 hk6; replace hset6 := Lib.hid hset6; replace hk6 := Lib.hid hk6)
      go_roundw
      case rel =>
        refine ⟨k + 1, _, by omega, by go_num, hset6.out.congr rfl (fun p => ?_), hw5.out.keep hk6.out hB2⟩
        rw [hkn.out, inPairs_snoc, ← hR.out]
      case measure => simp [intOf]; omega
    · obtain rfl : k = n := by omega
      have hall : a.reqs.take k = a.reqs := List.take_of_length_le (by rw [← hn.out]; exact Nat.le_refl _)
      rw [hall] at hset
      have d1r := hs.cell d1.out
      replace hset := Lib.hid hset
      replace hs := Lib.hid hs
      clear hall
      go_wp2
      clear d1r
      obtain ⟨X, hX⟩ : ∃ X, X = a.reqs := ⟨_, rfl⟩
      rw [← hX] at hset hM0
      replace hX := Lib.hid hX
      obtain ⟨wo, hwo⟩ : ∃ x, x = wr := ⟨_, rfl⟩
      subst hwo
      go_loopw [25] (fun i wr2 => ∃ k2 : Nat, k2 ≤ m ∧ i = .int .i64 k2 ∧ meets X (b.reqs.take k2) = false ∧ Same wo wr2) (fun i _ => m - (intOf i).toNat)
      case atStart => exact ⟨0, by omega, rfl, rfl, Same.refl⟩
      case round =>
        obtain ⟨k, hk, rfl, hmt, hs2⟩ := hrel
        by_cases hlt : k < m
        · have hkn := take_snoc (l := b.reqs) (k := k) (by rw [← hm.out]; exact hlt)
          have hmx := meets_take (a := X) (b := b.reqs) (k := k) (by rw [← hm.out]; exact hlt)
          obtain ⟨bk, off, hao, hbl, hrange⟩ := BatV.range (w := w) (b := b) hb.out (i := k) (by rw [← hm.out]; exact hlt)
          have hr2 := (hw1.out.trans (hs.out.trans hs2)).range hrange
          have hwfR := (hb.out.2 _ (reqAt_mem (l := b.reqs) (i := k) (by rw [← hm.out]; exact hlt))).1
          obtain ⟨R, hR⟩ : ∃ R, R = reqAt b.reqs k := ⟨_, rfl⟩
          rw [← hR] at hr2 hwfR
          have hinfL := Lib.hid (req_infoL hwfR.1)
          have hinfR := Lib.hid (req_info hwfR.1)
          have hsz := Lib.hid (req_sizes (r := zeroReq) rfl hwfR.1)
          have q0 : 0 ≤ (k : Int) := by omega
          clear hrange hbl
          replace hr2 := Lib.hid hr2
          replace hwfR := Lib.hid hwfR
          replace hR := Lib.hid hR
          have q1 : (k : Int) < (m : Int) := by omega
          rw [← hR.out] at hkn hmx
          rw [hao]
          clear hao
          have hset2 := Lib.hid (hset.out.same hs2)
          replace hs2 := Lib.hid hs2
          replace hkn := Lib.hid hkn
          replace hmx := Lib.hid hmx
          replace hmt := Lib.hid hmt
          go_upto_region 10 with (first | (refine load_mid rfl _ _ rfl bk (off + k * 19) rfl R.cells _ hr2.out Try.underlying78 rfl hinfL.out ?_) | (refine alloc_new rfl 78 rfl zeroReq.cells.toArray (by kernel_rfl) ?_; intro w3 hd hs3; have hdl := blk_lt hd; replace hd := Lib.hid hd; replace hs3 := Lib.hid hs3) | (refine store_row rfl _ _ _ rfl wr.heap.size _ rfl rfl _ _ hd.out hinfR.out hsz.out (req_one _) ?_; intro w4 hd4 hk4))
          have hs4 : Same wr w4 := hs3.out.keep hk4 (fun x hx hv => by omega)
          have hw4 := Lib.hid (hs2.out.trans hs4)
          have hset4 := Lib.hid (hset2.out.same hs4)
          replace hd4 := Lib.hid hd4
          clear hs2 hs3 hk4 hs4 hd hset2
          go_simp
          go_wp2_with (refine load_row rfl _ _ rfl wr.heap.size rfl _ _ _ _ hd4.out Try.underlying78 rfl hinfR.out ?_)
          refine (hof.out _ _ hwfR.out.1).mono ?_
          rintro e w5 ⟨rfl, hs5⟩
          have hw5 := Lib.hid (hw4.out.trans hs5)
          have hset5 := Lib.hid (hset4.out.same hs5)
          clear hs5 hw4 hset4 hd4
          obtain ⟨G, hG⟩ : ∃ G, G = inPairs X R.pair := ⟨_, rfl⟩
          have hGk : G = false → meets X (b.reqs.take (k + 1)) = false := by
            intro h
            rw [hkn.out, meets_snoc, hmt.out, ← hG, h]
            rfl
          have hGM : G = true → M = true := fun h => by rw [hM0.out]; exact hmx.out (by rw [← hG]; exact h)
          replace hG := Lib.hid hG
          replace hGk := Lib.hid hGk
          replace hGM := Lib.hid hGM
          cases G
          · have hGk2 := Lib.hid (hGk.out rfl)
            clear hGk hGM
            go_wp2_with (refine bp_look R.pair rfl _ _ rfl rfl hset5.out rfl hwfR.out.pair ?_; rw [← hG.out])
            go_roundw
            case rel => exact ⟨k + 1, by omega, by go_num, hGk2.out, hw5.out⟩
            case measure => simp [intOf]; omega
          · have hMt := Lib.hid (hGM.out rfl)
            clear hGk hGM
            go_wp2_with (refine bp_look R.pair rfl _ _ rfl rfl hset5.out rfl hwfR.out.pair ?_; rw [← hG.out])
            go_ret
            exact ⟨by rw [hMt.out]; rfl, hw1.out.trans (hs.out.trans hw5.out)⟩
        · obtain rfl : k = m := by omega
          have hMf : M = false := by rw [hM0.out, ← hmt, List.take_of_length_le (by rw [← hm.out]; exact Nat.le_refl _)]
          clear hmt
          replace hs2 := Lib.hid hs2
          go_wp2
          go_ret
          exact ⟨by rw [hMf]; rfl, hw1.out.trans (hs.out.trans hs2.out)⟩
end Go.Proofs.Ytgdkhiihdoekaaa
namespace Go.Proofs.Ytgdkhiihdoekaaa
open Go Go.RowKit
set_option linter.unusedSimpArgs false
set_option linter.unusedVariables false

set_option maxRecDepth 100000 in
set_option maxHeartbeats 1600000 in
theorem rbmeet_any (a b : BatV) (w : World) (ha : a.at w) (hb : b.at w) :
    Calls Try.prog 18 #[.agg a.cells.toArray, .agg b.cells.toArray] w fun e w' => e = .returned (.bool (meets a.reqs b.reqs)) ∧ Same w w' := by
  have hinfA := Lib.hid (bat_info a)
  have hinfB := Lib.hid (bat_info b)
  have hcap := ha.1.cap
  have hmost := ha.1.most
  have hcapb := hb.1.cap
  have hmostb := hb.1.most
  unfold maxLen at hmost hmostb
  obtain ⟨M, hM0⟩ : ∃ M, M = meets a.reqs b.reqs := ⟨_, rfl⟩
  rw [← hM0]
  rw [meets_comm] at hM0
  obtain ⟨n, hn⟩ : ∃ n, n = a.reqs.length := ⟨_, rfl⟩
  obtain ⟨m, hm⟩ : ∃ m, m = b.reqs.length := ⟨_, rfl⟩
  rw [← hn] at hcap
  rw [← hm] at hcapb
  replace ha := Lib.hid ha
  replace hb := Lib.hid hb
  replace hn := Lib.hid hn
  replace hm := Lib.hid hm
  replace hM0 := Lib.hid hM0
  go_enter Try.func18, Try.ntmps18
  go_upto_region 1 with (first | (refine box_row rfl _ _ rfl a.cells.toArray rfl hinfA.out ?_; intro w0 hbx hs0; have hbxl := blk_lt hbx; replace hbx := Lib.hid hbx; replace hs0 := Lib.hid hs0) | (refine box_row rfl _ _ rfl b.cells.toArray rfl hinfB.out ?_; intro w1 hby hs1; replace hby := Lib.hid hby; replace hs1 := Lib.hid hs1))
  have hbx1 := hs1.out.at hbx.out
  have c1 := bat_reqs hbx1
  have d1 := bat_reqs hby.out
  rw [← hn.out] at c1
  rw [← hm.out] at d1
  have hw1 := Lib.hid (hs0.out.trans hs1.out)
  clear hbx hby hs0 hs1 hbx1
  replace c1 := Lib.hid c1
  replace d1 := Lib.hid d1
  go_wp2
  go_loopw [5] (fun i wr => ∃ k : Nat, k ≤ n ∧ i = .int .i64 k ∧ meets b.reqs (a.reqs.take k) = false ∧ Same w1 wr) (fun i _ => n - (intOf i).toNat)
  case atStart => exact ⟨0, by omega, rfl, rfl, Same.refl⟩
  case round =>
    obtain ⟨k, hk, rfl, hmt, hs⟩ := hrel
    have c1r := hs.cell c1.out
    by_cases hlt : k < n
    · have hkn := take_snoc (l := a.reqs) (k := k) (by rw [← hn.out]; exact hlt)
      have hmx := meets_take (a := b.reqs) (b := a.reqs) (k := k) (by rw [← hn.out]; exact hlt)
      obtain ⟨bk, off, hao, hbl, hrange⟩ := BatV.range (w := w) (b := a) ha.out (i := k) (by rw [← hn.out]; exact hlt)
      have hra := (hw1.out.trans hs).range hrange
      obtain ⟨X, hX⟩ : ∃ X, X = reqAt a.reqs k := ⟨_, rfl⟩
      rw [← hX] at hra hkn hmx
      have q0 : 0 ≤ (k : Int) := by omega
      have q1 : (k : Int) < (n : Int) := by omega
      clear hrange hbl
      replace hra := Lib.hid hra
      replace hX := Lib.hid hX
      replace hkn := Lib.hid hkn
      replace hmx := Lib.hid hmx
      replace hmt := Lib.hid hmt
      replace hs := Lib.hid hs
      replace hao := Lib.hid hao
      go_wp2
      replace c1r := Lib.hid c1r
      obtain ⟨wo, hwo⟩ : ∃ x, x = wr := ⟨_, rfl⟩
      subst hwo
      go_loopw [6] (fun i wr2 => ∃ k2 : Nat, k2 ≤ m ∧ i = .int .i64 k2 ∧ inPairs (b.reqs.take k2) X.pair = false ∧ Same wo wr2) (fun i _ => m - (intOf i).toNat)
      case atStart => exact ⟨0, by omega, rfl, rfl, Same.refl⟩
      case round =>
        obtain ⟨j, hj, rfl, hin, hs2⟩ := hrel
        have d1r := (hs.out.trans hs2).cell d1.out
        by_cases hjt : j < m
        · have c1q := hs2.cell c1r.out
          rw [hao.out] at c1q
          have hjn := take_snoc (l := b.reqs) (k := j) (by rw [← hm.out]; exact hjt)
          have hjm := reqAt_mem (l := b.reqs) (i := j) (by rw [← hm.out]; exact hjt)
          obtain ⟨bk2, off2, hao2, hbl2, hrange2⟩ := BatV.range (w := w) (b := b) hb.out (i := j) (by rw [← hm.out]; exact hjt)
          have hrb := (hw1.out.trans (hs.out.trans hs2)).range hrange2
          obtain ⟨Y, hY⟩ : ∃ Y, Y = reqAt b.reqs j := ⟨_, rfl⟩
          rw [← hY] at hrb hjn hjm
          have hra2 := hs2.range hra.out
          have x0 := range_client hra2
          have x1 := range_num hra2
          have y0 := range_client hrb
          have y1 := range_num hrb
          obtain ⟨xc, hxc⟩ : ∃ z, z = X.client := ⟨_, rfl⟩
          obtain ⟨xn, hxn⟩ : ∃ z, z = X.num := ⟨_, rfl⟩
          obtain ⟨yc, hyc⟩ : ∃ z, z = Y.client := ⟨_, rfl⟩
          obtain ⟨yn, hyn⟩ : ∃ z, z = Y.num := ⟨_, rfl⟩
          rw [← hxc] at x0
          rw [← hxn] at x1
          rw [← hyc] at y0
          rw [← hyn] at y1
          obtain ⟨e1, he1⟩ : ∃ e, e = (xc == yc) := ⟨_, rfl⟩
          obtain ⟨e2, he2⟩ : ∃ e, e = (xn == yn) := ⟨_, rfl⟩
          obtain ⟨G, hG⟩ : ∃ G, G = (e1 && e2) := ⟨_, rfl⟩
          have hGp : G = decide (Y.pair = X.pair) := by
            rw [hG, he1, he2, hxc, hxn, hyc, hyn, Bool.eq_iff_iff]
            simp only [Bool.and_eq_true, beq_iff_eq, decide_eq_true_eq, Req.pair, Prod.mk.injEq]
            exact ⟨fun h => ⟨h.1.symm, h.2.symm⟩, fun h => ⟨h.1.symm, h.2.symm⟩⟩
          have hGf : G = false → inPairs (b.reqs.take (j + 1)) X.pair = false := by
            intro h
            rw [hjn, inPairs_snoc, hin, Bool.false_or]
            rw [h] at hGp
            simp only [Bool.false_eq, decide_eq_false_iff_not] at hGp ⊢
            exact fun h => hGp h.symm
          have hGt : G = true → M = true := by
            intro h
            rw [hM0.out]
            refine hmx.out ?_
            rw [inPairs, List.any_eq_true]
            exact ⟨Y, hjm, by rw [← hGp, h]⟩
          have p0 : 0 ≤ (j : Int) := by omega
          have p1 : (j : Int) < (m : Int) := by omega
          rw [hao2] at d1r
          clear hao2 hrange2 hbl2 hra2 hrb hjn hjm hGp hY hxc hxn hyc hyn hin
          replace he1 := Lib.hid he1
          replace he2 := Lib.hid he2
          replace hG := Lib.hid hG
          replace hGf := Lib.hid hGf
          replace hGt := Lib.hid hGt
          replace x0 := Lib.hid x0
          replace x1 := Lib.hid x1
          replace y0 := Lib.hid y0
          replace y1 := Lib.hid y1
          replace hs2 := Lib.hid hs2
          go_upto_region 7 with fail
          replace c1q := Lib.hid c1q
          replace d1r := Lib.hid d1r
          go_cut [48] (fun v wx => v = .bool G ∧ Same wr wx)
          case first =>
            cases e1
            · have hGe := hG.out
              simp only [Bool.false_and, Bool.true_and] at hGe
              subst hGe
              refine wp_region_facts (by kernel_rfl) [(21, 0), (22, 1), (23, 2), (24, 3), (25, 4), (26, 5), (27, 6), (28, 7), (29, 8), (30, 9), (31, 10), (32, 11), (33, 12), (34, 13), (35, 14), (36, 15), (37, 16), (38, 17), (39, 18), (40, 19), (41, 20), (42, 21), (43, 22), (44, 23), (45, 24), (46, 25), (47, 26), (48, 27)] Same (Same _) [isV (.pointer (some ⟨w.heap.size, 1, none⟩)), isV (.slice (some ⟨bk, off, none⟩) n a.c), isV (.int .i64 (k : Int)), isV (.pointer (some ⟨bk, off + k * 19, none⟩)), isV (.pointer (some ⟨bk, off + k * 19, none⟩)), isV (.int .i64 xc), isV (.pointer (some ⟨w0.heap.size, 1, none⟩)), isV (.slice (some ⟨bk2, off2, none⟩) m b.c), isV (.int .i64 (j : Int)), isV (.pointer (some ⟨bk2, off2 + j * 19, none⟩)), isV (.pointer (some ⟨bk2, off2 + j * 19, none⟩)), isV (.int .i64 yc), isV (.bool false), isV (.bool false), isV undef, isV undef, isV undef, isV undef, isV undef, isV undef, isV undef, isV undef, isV undef, isV undef, isV undef, isV undef, isV undef, isV (.bool false)] Same.refl.drew (fun _ _ h k => h.trans k) (by simp [isV_stable, isB_stable, isAny_stable]) (by decide) (by decide) ?_ ?_
              · refine ⟨?_, ?_, ?_, ?_, ?_, ?_, ?_, ?_, ?_, ?_, ?_, ?_, ?_, ?_, ?_, ?_, ?_, ?_, ?_, ?_, ?_, ?_, ?_, ?_, ?_, ?_, ?_, ?_, trivial⟩
                all_goals (intro u wx hI hp; simp only [mkAct, List.foldl_cons, List.foldl_nil, List.setIfInBounds_toArray, List.set_cons_succ, List.set_cons_zero])
                · -- operation 0
                  go_wp2
                  refine stq_v rfl Same.refl ?_
                  first | (simp only [mkAct, List.foldl_cons, List.foldl_nil, List.setIfInBounds_toArray, List.set_cons_succ, List.set_cons_zero, upd, reduceIte, Nat.reduceEqDiff, Nat.reduceAdd, str]; done) | (simp [mkAct, upd, str, *]; done)
                · -- operation 1
                  obtain ⟨f0, -⟩ := hp
                  replace f0 : u 0 = (.pointer (some ⟨w.heap.size, 1, none⟩)) := f0
                  try simp only [f0, str]
                  have cx := hI.cell (c1q.out)
                  go_wp2
                  refine stq_v rfl Same.refl ?_
                  first | (simp only [mkAct, List.foldl_cons, List.foldl_nil, List.setIfInBounds_toArray, List.set_cons_succ, List.set_cons_zero, upd, reduceIte, Nat.reduceEqDiff, Nat.reduceAdd, f0, str]; done) | (simp [mkAct, upd, f0, str, *]; done)
                · -- operation 2
                  go_wp2
                  refine stq_v rfl Same.refl ?_
                  first | (simp only [mkAct, List.foldl_cons, List.foldl_nil, List.setIfInBounds_toArray, List.set_cons_succ, List.set_cons_zero, upd, reduceIte, Nat.reduceEqDiff, Nat.reduceAdd, str]; done) | (simp [mkAct, upd, str, *]; done)
                · -- operation 3
                  obtain ⟨f1, f2, -⟩ := hp
                  replace f1 : u 1 = (.slice (some ⟨bk, off, none⟩) n a.c) := f1
                  replace f2 : u 2 = (.int .i64 (k : Int)) := f2
                  try simp only [f1, f2, str]
                  go_wp2
                  refine stq_v rfl Same.refl ?_
                  first | (simp only [mkAct, List.foldl_cons, List.foldl_nil, List.setIfInBounds_toArray, List.set_cons_succ, List.set_cons_zero, upd, reduceIte, Nat.reduceEqDiff, Nat.reduceAdd, f1, f2, str]; done) | (simp [mkAct, upd, f1, f2, str, *]; done)
                · -- operation 4
                  obtain ⟨f3, -⟩ := hp
                  replace f3 : u 3 = (.pointer (some ⟨bk, off + k * 19, none⟩)) := f3
                  try simp only [f3, str]
                  go_wp2
                  refine stq_v rfl Same.refl ?_
                  first | (simp only [mkAct, List.foldl_cons, List.foldl_nil, List.setIfInBounds_toArray, List.set_cons_succ, List.set_cons_zero, upd, reduceIte, Nat.reduceEqDiff, Nat.reduceAdd, f3, str]; done) | (simp [mkAct, upd, f3, str, *]; done)
                · -- operation 5
                  obtain ⟨f4, -⟩ := hp
                  replace f4 : u 4 = (.pointer (some ⟨bk, off + k * 19, none⟩)) := f4
                  try simp only [f4, str]
                  have cx := hI.cell x0.out
                  go_wp2
                  refine stq_v rfl Same.refl ?_
                  first | (simp only [mkAct, List.foldl_cons, List.foldl_nil, List.setIfInBounds_toArray, List.set_cons_succ, List.set_cons_zero, upd, reduceIte, Nat.reduceEqDiff, Nat.reduceAdd, f4, str]; done) | (simp [mkAct, upd, f4, str, *]; done)
                · -- operation 6
                  go_wp2
                  refine stq_v rfl Same.refl ?_
                  first | (simp only [mkAct, List.foldl_cons, List.foldl_nil, List.setIfInBounds_toArray, List.set_cons_succ, List.set_cons_zero, upd, reduceIte, Nat.reduceEqDiff, Nat.reduceAdd, str]; done) | (simp [mkAct, upd, str, *]; done)
                · -- operation 7
                  obtain ⟨f6, -⟩ := hp
                  replace f6 : u 6 = (.pointer (some ⟨w0.heap.size, 1, none⟩)) := f6
                  try simp only [f6, str]
                  have cx := hI.cell (d1r.out)
                  go_wp2
                  refine stq_v rfl Same.refl ?_
                  first | (simp only [mkAct, List.foldl_cons, List.foldl_nil, List.setIfInBounds_toArray, List.set_cons_succ, List.set_cons_zero, upd, reduceIte, Nat.reduceEqDiff, Nat.reduceAdd, f6, str]; done) | (simp [mkAct, upd, f6, str, *]; done)
                · -- operation 8
                  go_wp2
                  refine stq_v rfl Same.refl ?_
                  first | (simp only [mkAct, List.foldl_cons, List.foldl_nil, List.setIfInBounds_toArray, List.set_cons_succ, List.set_cons_zero, upd, reduceIte, Nat.reduceEqDiff, Nat.reduceAdd, str]; done) | (simp [mkAct, upd, str, *]; done)
                · -- operation 9
                  obtain ⟨f7, f8, -⟩ := hp
                  replace f7 : u 7 = (.slice (some ⟨bk2, off2, none⟩) m b.c) := f7
                  replace f8 : u 8 = (.int .i64 (j : Int)) := f8
                  try simp only [f7, f8, str]
                  go_wp2
                  refine stq_v rfl Same.refl ?_
                  first | (simp only [mkAct, List.foldl_cons, List.foldl_nil, List.setIfInBounds_toArray, List.set_cons_succ, List.set_cons_zero, upd, reduceIte, Nat.reduceEqDiff, Nat.reduceAdd, f7, f8, str]; done) | (simp [mkAct, upd, f7, f8, str, *]; done)
                · -- operation 10
                  obtain ⟨f9, -⟩ := hp
                  replace f9 : u 9 = (.pointer (some ⟨bk2, off2 + j * 19, none⟩)) := f9
                  try simp only [f9, str]
                  go_wp2
                  refine stq_v rfl Same.refl ?_
                  first | (simp only [mkAct, List.foldl_cons, List.foldl_nil, List.setIfInBounds_toArray, List.set_cons_succ, List.set_cons_zero, upd, reduceIte, Nat.reduceEqDiff, Nat.reduceAdd, f9, str]; done) | (simp [mkAct, upd, f9, str, *]; done)
                · -- operation 11
                  obtain ⟨f10, -⟩ := hp
                  replace f10 : u 10 = (.pointer (some ⟨bk2, off2 + j * 19, none⟩)) := f10
                  try simp only [f10, str]
                  have cx := hI.cell y0.out
                  go_wp2
                  refine stq_v rfl Same.refl ?_
                  first | (simp only [mkAct, List.foldl_cons, List.foldl_nil, List.setIfInBounds_toArray, List.set_cons_succ, List.set_cons_zero, upd, reduceIte, Nat.reduceEqDiff, Nat.reduceAdd, f10, str]; done) | (simp [mkAct, upd, f10, str, *]; done)
                · -- operation 12
                  obtain ⟨f5, f11, -⟩ := hp
                  replace f5 : u 5 = (.int .i64 xc) := f5
                  replace f11 : u 11 = (.int .i64 yc) := f11
                  try simp only [f5, f11, str]
                  have he := he1.out
                  go_wp2
                  refine stq_v rfl Same.refl ?_
                  first | (simp only [mkAct, List.foldl_cons, List.foldl_nil, List.setIfInBounds_toArray, List.set_cons_succ, List.set_cons_zero, upd, reduceIte, Nat.reduceEqDiff, Nat.reduceAdd, f5, f11, str]; done) | (simp [mkAct, upd, f5, f11, str, *]; done)
                · -- operation 13
                  obtain ⟨f12, -⟩ := hp
                  replace f12 : u 12 = (.bool false) := f12
                  try simp only [f12, str]
                  go_wp2
                  refine stq_v rfl Same.refl ?_
                  first | (simp only [mkAct, List.foldl_cons, List.foldl_nil, List.setIfInBounds_toArray, List.set_cons_succ, List.set_cons_zero, upd, reduceIte, Nat.reduceEqDiff, Nat.reduceAdd, f12, str]; done) | (simp [mkAct, upd, f12, str, *]; done)
                · -- operation 14
                  obtain ⟨f13, -⟩ := hp
                  replace f13 : u 13 = (.bool false) := f13
                  try simp only [f13, str]
                  go_wp2
                  refine stq_v rfl Same.refl ?_
                  first | (simp only [mkAct, List.foldl_cons, List.foldl_nil, List.setIfInBounds_toArray, List.set_cons_succ, List.set_cons_zero, upd, reduceIte, Nat.reduceEqDiff, Nat.reduceAdd, f13, str]; done) | (simp [mkAct, upd, f13, str, *]; done)
                · -- operation 15
                  obtain ⟨f14, f13, -⟩ := hp
                  replace f14 : u 14 = undef := f14
                  replace f13 : u 13 = (.bool false) := f13
                  try simp only [f14, f13, str]
                  go_wp2
                  refine stq_v rfl Same.refl ?_
                  first | (simp only [mkAct, List.foldl_cons, List.foldl_nil, List.setIfInBounds_toArray, List.set_cons_succ, List.set_cons_zero, upd, reduceIte, Nat.reduceEqDiff, Nat.reduceAdd, f14, f13, str]; done) | (simp [mkAct, upd, f14, f13, str, *]; done)
                · -- operation 16
                  obtain ⟨f13, -⟩ := hp
                  replace f13 : u 13 = (.bool false) := f13
                  try simp only [f13, str]
                  go_wp2
                  refine stq_v rfl Same.refl ?_
                  first | (simp only [mkAct, List.foldl_cons, List.foldl_nil, List.setIfInBounds_toArray, List.set_cons_succ, List.set_cons_zero, upd, reduceIte, Nat.reduceEqDiff, Nat.reduceAdd, f13, str]; done) | (simp [mkAct, upd, f13, str, *]; done)
                · -- operation 17
                  obtain ⟨f15, f16, f13, -⟩ := hp
                  replace f15 : u 15 = undef := f15
                  replace f16 : u 16 = undef := f16
                  replace f13 : u 13 = (.bool false) := f13
                  try simp only [f15, f16, f13, str]
                  go_wp2
                  refine stq_v rfl Same.refl ?_
                  first | (simp only [mkAct, List.foldl_cons, List.foldl_nil, List.setIfInBounds_toArray, List.set_cons_succ, List.set_cons_zero, upd, reduceIte, Nat.reduceEqDiff, Nat.reduceAdd, f15, f16, f13, str]; done) | (simp [mkAct, upd, f15, f16, f13, str, *]; done)
                · -- operation 18
                  obtain ⟨f17, f13, -⟩ := hp
                  replace f17 : u 17 = undef := f17
                  replace f13 : u 13 = (.bool false) := f13
                  try simp only [f17, f13, str]
                  go_wp2
                  refine stq_v rfl Same.refl ?_
                  first | (simp only [mkAct, List.foldl_cons, List.foldl_nil, List.setIfInBounds_toArray, List.set_cons_succ, List.set_cons_zero, upd, reduceIte, Nat.reduceEqDiff, Nat.reduceAdd, f17, f13, str]; done) | (simp [mkAct, upd, f17, f13, str, *]; done)
                · -- operation 19
                  obtain ⟨f18, f13, -⟩ := hp
                  replace f18 : u 18 = undef := f18
                  replace f13 : u 13 = (.bool false) := f13
                  try simp only [f18, f13, str]
                  go_wp2
                  refine stq_v rfl Same.refl ?_
                  first | (simp only [mkAct, List.foldl_cons, List.foldl_nil, List.setIfInBounds_toArray, List.set_cons_succ, List.set_cons_zero, upd, reduceIte, Nat.reduceEqDiff, Nat.reduceAdd, f18, f13, str]; done) | (simp [mkAct, upd, f18, f13, str, *]; done)
                · -- operation 20
                  obtain ⟨f13, -⟩ := hp
                  replace f13 : u 13 = (.bool false) := f13
                  try simp only [f13, str]
                  go_wp2
                  refine stq_v rfl Same.refl ?_
                  first | (simp only [mkAct, List.foldl_cons, List.foldl_nil, List.setIfInBounds_toArray, List.set_cons_succ, List.set_cons_zero, upd, reduceIte, Nat.reduceEqDiff, Nat.reduceAdd, f13, str]; done) | (simp [mkAct, upd, f13, str, *]; done)
                · -- operation 21
                  obtain ⟨f20, f13, -⟩ := hp
                  replace f20 : u 20 = undef := f20
                  replace f13 : u 13 = (.bool false) := f13
                  try simp only [f20, f13, str]
                  go_wp2
                  refine stq_v rfl Same.refl ?_
                  first | (simp only [mkAct, List.foldl_cons, List.foldl_nil, List.setIfInBounds_toArray, List.set_cons_succ, List.set_cons_zero, upd, reduceIte, Nat.reduceEqDiff, Nat.reduceAdd, f20, f13, str]; done) | (simp [mkAct, upd, f20, f13, str, *]; done)
                · -- operation 22
                  obtain ⟨f13, -⟩ := hp
                  replace f13 : u 13 = (.bool false) := f13
                  try simp only [f13, str]
                  go_wp2
                  refine stq_v rfl Same.refl ?_
                  first | (simp only [mkAct, List.foldl_cons, List.foldl_nil, List.setIfInBounds_toArray, List.set_cons_succ, List.set_cons_zero, upd, reduceIte, Nat.reduceEqDiff, Nat.reduceAdd, f13, str]; done) | (simp [mkAct, upd, f13, str, *]; done)
                · -- operation 23
                  obtain ⟨f21, f22, f13, -⟩ := hp
                  replace f21 : u 21 = undef := f21
                  replace f22 : u 22 = undef := f22
                  replace f13 : u 13 = (.bool false) := f13
                  try simp only [f21, f22, f13, str]
                  go_wp2
                  refine stq_v rfl Same.refl ?_
                  first | (simp only [mkAct, List.foldl_cons, List.foldl_nil, List.setIfInBounds_toArray, List.set_cons_succ, List.set_cons_zero, upd, reduceIte, Nat.reduceEqDiff, Nat.reduceAdd, f21, f22, f13, str]; done) | (simp [mkAct, upd, f21, f22, f13, str, *]; done)
                · -- operation 24
                  obtain ⟨f23, f13, -⟩ := hp
                  replace f23 : u 23 = undef := f23
                  replace f13 : u 13 = (.bool false) := f13
                  try simp only [f23, f13, str]
                  go_wp2
                  refine stq_v rfl Same.refl ?_
                  first | (simp only [mkAct, List.foldl_cons, List.foldl_nil, List.setIfInBounds_toArray, List.set_cons_succ, List.set_cons_zero, upd, reduceIte, Nat.reduceEqDiff, Nat.reduceAdd, f23, f13, str]; done) | (simp [mkAct, upd, f23, f13, str, *]; done)
                · -- operation 25
                  obtain ⟨f24, f13, -⟩ := hp
                  replace f24 : u 24 = undef := f24
                  replace f13 : u 13 = (.bool false) := f13
                  try simp only [f24, f13, str]
                  go_wp2
                  refine stq_v rfl Same.refl ?_
                  first | (simp only [mkAct, List.foldl_cons, List.foldl_nil, List.setIfInBounds_toArray, List.set_cons_succ, List.set_cons_zero, upd, reduceIte, Nat.reduceEqDiff, Nat.reduceAdd, f24, f13, str]; done) | (simp [mkAct, upd, f24, f13, str, *]; done)
                · -- operation 26
                  obtain ⟨f19, f25, f13, -⟩ := hp
                  replace f19 : u 19 = undef := f19
                  replace f25 : u 25 = undef := f25
                  replace f13 : u 13 = (.bool false) := f13
                  try simp only [f19, f25, f13, str]
                  go_wp2
                  refine stq_v rfl Same.refl ?_
                  first | (simp only [mkAct, List.foldl_cons, List.foldl_nil, List.setIfInBounds_toArray, List.set_cons_succ, List.set_cons_zero, upd, reduceIte, Nat.reduceEqDiff, Nat.reduceAdd, f19, f25, f13, str]; done) | (simp [mkAct, upd, f19, f25, f13, str, *]; done)
                · -- operation 27
                  obtain ⟨f13, f26, -⟩ := hp
                  replace f13 : u 13 = (.bool false) := f13
                  replace f26 : u 26 = undef := f26
                  try simp only [f13, f26, str]
                  go_wp2
                  refine stq_v rfl Same.refl ?_
                  first | (simp only [mkAct, List.foldl_cons, List.foldl_nil, List.setIfInBounds_toArray, List.set_cons_succ, List.set_cons_zero, upd, reduceIte, Nat.reduceEqDiff, Nat.reduceAdd, f13, f26, str]; done) | (simp [mkAct, upd, f13, f26, str, *]; done)
              · intro u wx hI hR
                obtain ⟨r0, r1, r2, r3, r4, r5, r6, r7, r8, r9, r10, r11, r12, r13, r14, r15, r16, r17, r18, r19, r20, r21, r22, r23, r24, r25, r26, r27, -⟩ := hR
                replace r0 : u 0 = (.pointer (some ⟨w.heap.size, 1, none⟩)) := r0
                replace r1 : u 1 = (.slice (some ⟨bk, off, none⟩) n a.c) := r1
                replace r2 : u 2 = (.int .i64 (k : Int)) := r2
                replace r3 : u 3 = (.pointer (some ⟨bk, off + k * 19, none⟩)) := r3
                replace r4 : u 4 = (.pointer (some ⟨bk, off + k * 19, none⟩)) := r4
                replace r5 : u 5 = (.int .i64 xc) := r5
                replace r6 : u 6 = (.pointer (some ⟨w0.heap.size, 1, none⟩)) := r6
                replace r7 : u 7 = (.slice (some ⟨bk2, off2, none⟩) m b.c) := r7
                replace r8 : u 8 = (.int .i64 (j : Int)) := r8
                replace r9 : u 9 = (.pointer (some ⟨bk2, off2 + j * 19, none⟩)) := r9
                replace r10 : u 10 = (.pointer (some ⟨bk2, off2 + j * 19, none⟩)) := r10
                replace r11 : u 11 = (.int .i64 yc) := r11
                replace r12 : u 12 = (.bool false) := r12
                replace r13 : u 13 = (.bool false) := r13
                replace r14 : u 14 = undef := r14
                replace r15 : u 15 = undef := r15
                replace r16 : u 16 = undef := r16
                replace r17 : u 17 = undef := r17
                replace r18 : u 18 = undef := r18
                replace r19 : u 19 = undef := r19
                replace r20 : u 20 = undef := r20
                replace r21 : u 21 = undef := r21
                replace r22 : u 22 = undef := r22
                replace r23 : u 23 = undef := r23
                replace r24 : u 24 = undef := r24
                replace r25 : u 25 = undef := r25
                replace r26 : u 26 = undef := r26
                replace r27 : u 27 = (.bool false) := r27
                simp only [mkAct, List.foldl_cons, List.foldl_nil, List.setIfInBounds_toArray, List.set_cons_succ, List.set_cons_zero]
                try simp only [str, r0, r1, r2, r3, r4, r5, r6, r7, r8, r9, r10, r11, r12, r13, r14, r15, r16, r17, r18, r19, r20, r21, r22, r23, r24, r25, r26, r27]
                go_wp2
                go_meet
                exact ⟨rfl, hI⟩
            · have hGe := hG.out
              simp only [Bool.false_and, Bool.true_and] at hGe
              subst hGe
              refine wp_region_facts (by kernel_rfl) [(21, 0), (22, 1), (23, 2), (24, 3), (25, 4), (26, 5), (27, 6), (28, 7), (29, 8), (30, 9), (31, 10), (32, 11), (33, 12), (34, 13), (35, 14), (36, 15), (37, 16), (38, 17), (39, 18), (40, 19), (41, 20), (42, 21), (43, 22), (44, 23), (45, 24), (46, 25), (47, 26), (48, 27)] Same (Same _) [isV (.pointer (some ⟨w.heap.size, 1, none⟩)), isV (.slice (some ⟨bk, off, none⟩) n a.c), isV (.int .i64 (k : Int)), isV (.pointer (some ⟨bk, off + k * 19, none⟩)), isV (.pointer (some ⟨bk, off + k * 19, none⟩)), isV (.int .i64 xc), isV (.pointer (some ⟨w0.heap.size, 1, none⟩)), isV (.slice (some ⟨bk2, off2, none⟩) m b.c), isV (.int .i64 (j : Int)), isV (.pointer (some ⟨bk2, off2 + j * 19, none⟩)), isV (.pointer (some ⟨bk2, off2 + j * 19, none⟩)), isV (.int .i64 yc), isV (.bool true), isV (.bool true), isV (.pointer (some ⟨w.heap.size, 1, none⟩)), isV (.slice (some ⟨bk, off, none⟩) n a.c), isV (.int .i64 (k : Int)), isV (.pointer (some ⟨bk, off + k * 19, none⟩)), isV (.pointer (some ⟨bk, off + k * 19 + 1, none⟩)), isV (.int .i64 xn), isV (.pointer (some ⟨w0.heap.size, 1, none⟩)), isV (.slice (some ⟨bk2, off2, none⟩) m b.c), isV (.int .i64 (j : Int)), isV (.pointer (some ⟨bk2, off2 + j * 19, none⟩)), isV (.pointer (some ⟨bk2, off2 + j * 19 + 1, none⟩)), isV (.int .i64 yn), isV (.bool G), isV (.bool G)] Same.refl.drew (fun _ _ h k => h.trans k) (by simp [isV_stable, isB_stable, isAny_stable]) (by decide) (by decide) ?_ ?_
              · refine ⟨?_, ?_, ?_, ?_, ?_, ?_, ?_, ?_, ?_, ?_, ?_, ?_, ?_, ?_, ?_, ?_, ?_, ?_, ?_, ?_, ?_, ?_, ?_, ?_, ?_, ?_, ?_, ?_, trivial⟩
                all_goals (intro u wx hI hp; simp only [mkAct, List.foldl_cons, List.foldl_nil, List.setIfInBounds_toArray, List.set_cons_succ, List.set_cons_zero])
                · -- operation 0
                  go_wp2
                  refine stq_v rfl Same.refl ?_
                  first | (simp only [mkAct, List.foldl_cons, List.foldl_nil, List.setIfInBounds_toArray, List.set_cons_succ, List.set_cons_zero, upd, reduceIte, Nat.reduceEqDiff, Nat.reduceAdd, str]; done) | (simp [mkAct, upd, str, *]; done)
                · -- operation 1
                  obtain ⟨f0, -⟩ := hp
                  replace f0 : u 0 = (.pointer (some ⟨w.heap.size, 1, none⟩)) := f0
                  try simp only [f0, str]
                  have cx := hI.cell (c1q.out)
                  go_wp2
                  refine stq_v rfl Same.refl ?_
                  first | (simp only [mkAct, List.foldl_cons, List.foldl_nil, List.setIfInBounds_toArray, List.set_cons_succ, List.set_cons_zero, upd, reduceIte, Nat.reduceEqDiff, Nat.reduceAdd, f0, str]; done) | (simp [mkAct, upd, f0, str, *]; done)
                · -- operation 2
                  go_wp2
                  refine stq_v rfl Same.refl ?_
                  first | (simp only [mkAct, List.foldl_cons, List.foldl_nil, List.setIfInBounds_toArray, List.set_cons_succ, List.set_cons_zero, upd, reduceIte, Nat.reduceEqDiff, Nat.reduceAdd, str]; done) | (simp [mkAct, upd, str, *]; done)
                · -- operation 3
                  obtain ⟨f1, f2, -⟩ := hp
                  replace f1 : u 1 = (.slice (some ⟨bk, off, none⟩) n a.c) := f1
                  replace f2 : u 2 = (.int .i64 (k : Int)) := f2
                  try simp only [f1, f2, str]
                  go_wp2
                  refine stq_v rfl Same.refl ?_
                  first | (simp only [mkAct, List.foldl_cons, List.foldl_nil, List.setIfInBounds_toArray, List.set_cons_succ, List.set_cons_zero, upd, reduceIte, Nat.reduceEqDiff, Nat.reduceAdd, f1, f2, str]; done) | (simp [mkAct, upd, f1, f2, str, *]; done)
                · -- operation 4
                  obtain ⟨f3, -⟩ := hp
                  replace f3 : u 3 = (.pointer (some ⟨bk, off + k * 19, none⟩)) := f3
                  try simp only [f3, str]
                  go_wp2
                  refine stq_v rfl Same.refl ?_
                  first | (simp only [mkAct, List.foldl_cons, List.foldl_nil, List.setIfInBounds_toArray, List.set_cons_succ, List.set_cons_zero, upd, reduceIte, Nat.reduceEqDiff, Nat.reduceAdd, f3, str]; done) | (simp [mkAct, upd, f3, str, *]; done)
                · -- operation 5
                  obtain ⟨f4, -⟩ := hp
                  replace f4 : u 4 = (.pointer (some ⟨bk, off + k * 19, none⟩)) := f4
                  try simp only [f4, str]
                  have cx := hI.cell x0.out
                  go_wp2
                  refine stq_v rfl Same.refl ?_
                  first | (simp only [mkAct, List.foldl_cons, List.foldl_nil, List.setIfInBounds_toArray, List.set_cons_succ, List.set_cons_zero, upd, reduceIte, Nat.reduceEqDiff, Nat.reduceAdd, f4, str]; done) | (simp [mkAct, upd, f4, str, *]; done)
                · -- operation 6
                  go_wp2
                  refine stq_v rfl Same.refl ?_
                  first | (simp only [mkAct, List.foldl_cons, List.foldl_nil, List.setIfInBounds_toArray, List.set_cons_succ, List.set_cons_zero, upd, reduceIte, Nat.reduceEqDiff, Nat.reduceAdd, str]; done) | (simp [mkAct, upd, str, *]; done)
                · -- operation 7
                  obtain ⟨f6, -⟩ := hp
                  replace f6 : u 6 = (.pointer (some ⟨w0.heap.size, 1, none⟩)) := f6
                  try simp only [f6, str]
                  have cx := hI.cell (d1r.out)
                  go_wp2
                  refine stq_v rfl Same.refl ?_
                  first | (simp only [mkAct, List.foldl_cons, List.foldl_nil, List.setIfInBounds_toArray, List.set_cons_succ, List.set_cons_zero, upd, reduceIte, Nat.reduceEqDiff, Nat.reduceAdd, f6, str]; done) | (simp [mkAct, upd, f6, str, *]; done)
                · -- operation 8
                  go_wp2
                  refine stq_v rfl Same.refl ?_
                  first | (simp only [mkAct, List.foldl_cons, List.foldl_nil, List.setIfInBounds_toArray, List.set_cons_succ, List.set_cons_zero, upd, reduceIte, Nat.reduceEqDiff, Nat.reduceAdd, str]; done) | (simp [mkAct, upd, str, *]; done)
                · -- operation 9
                  obtain ⟨f7, f8, -⟩ := hp
                  replace f7 : u 7 = (.slice (some ⟨bk2, off2, none⟩) m b.c) := f7
                  replace f8 : u 8 = (.int .i64 (j : Int)) := f8
                  try simp only [f7, f8, str]
                  go_wp2
                  refine stq_v rfl Same.refl ?_
                  first | (simp only [mkAct, List.foldl_cons, List.foldl_nil, List.setIfInBounds_toArray, List.set_cons_succ, List.set_cons_zero, upd, reduceIte, Nat.reduceEqDiff, Nat.reduceAdd, f7, f8, str]; done) | (simp [mkAct, upd, f7, f8, str, *]; done)
                · -- operation 10
                  obtain ⟨f9, -⟩ := hp
                  replace f9 : u 9 = (.pointer (some ⟨bk2, off2 + j * 19, none⟩)) := f9
                  try simp only [f9, str]
                  go_wp2
                  refine stq_v rfl Same.refl ?_
                  first | (simp only [mkAct, List.foldl_cons, List.foldl_nil, List.setIfInBounds_toArray, List.set_cons_succ, List.set_cons_zero, upd, reduceIte, Nat.reduceEqDiff, Nat.reduceAdd, f9, str]; done) | (simp [mkAct, upd, f9, str, *]; done)
                · -- operation 11
                  obtain ⟨f10, -⟩ := hp
                  replace f10 : u 10 = (.pointer (some ⟨bk2, off2 + j * 19, none⟩)) := f10
                  try simp only [f10, str]
                  have cx := hI.cell y0.out
                  go_wp2
                  refine stq_v rfl Same.refl ?_
                  first | (simp only [mkAct, List.foldl_cons, List.foldl_nil, List.setIfInBounds_toArray, List.set_cons_succ, List.set_cons_zero, upd, reduceIte, Nat.reduceEqDiff, Nat.reduceAdd, f10, str]; done) | (simp [mkAct, upd, f10, str, *]; done)
                · -- operation 12
                  obtain ⟨f5, f11, -⟩ := hp
                  replace f5 : u 5 = (.int .i64 xc) := f5
                  replace f11 : u 11 = (.int .i64 yc) := f11
                  try simp only [f5, f11, str]
                  have he := he1.out
                  go_wp2
                  refine stq_v rfl Same.refl ?_
                  first | (simp only [mkAct, List.foldl_cons, List.foldl_nil, List.setIfInBounds_toArray, List.set_cons_succ, List.set_cons_zero, upd, reduceIte, Nat.reduceEqDiff, Nat.reduceAdd, f5, f11, str]; done) | (simp [mkAct, upd, f5, f11, str, *]; done)
                · -- operation 13
                  obtain ⟨f12, -⟩ := hp
                  replace f12 : u 12 = (.bool true) := f12
                  try simp only [f12, str]
                  go_wp2
                  refine stq_v rfl Same.refl ?_
                  first | (simp only [mkAct, List.foldl_cons, List.foldl_nil, List.setIfInBounds_toArray, List.set_cons_succ, List.set_cons_zero, upd, reduceIte, Nat.reduceEqDiff, Nat.reduceAdd, f12, str]; done) | (simp [mkAct, upd, f12, str, *]; done)
                · -- operation 14
                  obtain ⟨f13, -⟩ := hp
                  replace f13 : u 13 = (.bool true) := f13
                  try simp only [f13, str]
                  go_wp2
                  refine stq_v rfl Same.refl ?_
                  first | (simp only [mkAct, List.foldl_cons, List.foldl_nil, List.setIfInBounds_toArray, List.set_cons_succ, List.set_cons_zero, upd, reduceIte, Nat.reduceEqDiff, Nat.reduceAdd, f13, str]; done) | (simp [mkAct, upd, f13, str, *]; done)
                · -- operation 15
                  obtain ⟨f14, f13, -⟩ := hp
                  replace f14 : u 14 = (.pointer (some ⟨w.heap.size, 1, none⟩)) := f14
                  replace f13 : u 13 = (.bool true) := f13
                  try simp only [f14, f13, str]
                  have cx := hI.cell (c1q.out)
                  go_wp2
                  refine stq_v rfl Same.refl ?_
                  first | (simp only [mkAct, List.foldl_cons, List.foldl_nil, List.setIfInBounds_toArray, List.set_cons_succ, List.set_cons_zero, upd, reduceIte, Nat.reduceEqDiff, Nat.reduceAdd, f14, f13, str]; done) | (simp [mkAct, upd, f14, f13, str, *]; done)
                · -- operation 16
                  obtain ⟨f13, -⟩ := hp
                  replace f13 : u 13 = (.bool true) := f13
                  try simp only [f13, str]
                  go_wp2
                  refine stq_v rfl Same.refl ?_
                  first | (simp only [mkAct, List.foldl_cons, List.foldl_nil, List.setIfInBounds_toArray, List.set_cons_succ, List.set_cons_zero, upd, reduceIte, Nat.reduceEqDiff, Nat.reduceAdd, f13, str]; done) | (simp [mkAct, upd, f13, str, *]; done)
                · -- operation 17
                  obtain ⟨f15, f16, f13, -⟩ := hp
                  replace f15 : u 15 = (.slice (some ⟨bk, off, none⟩) n a.c) := f15
                  replace f16 : u 16 = (.int .i64 (k : Int)) := f16
                  replace f13 : u 13 = (.bool true) := f13
                  try simp only [f15, f16, f13, str]
                  go_wp2
                  refine stq_v rfl Same.refl ?_
                  first | (simp only [mkAct, List.foldl_cons, List.foldl_nil, List.setIfInBounds_toArray, List.set_cons_succ, List.set_cons_zero, upd, reduceIte, Nat.reduceEqDiff, Nat.reduceAdd, f15, f16, f13, str]; done) | (simp [mkAct, upd, f15, f16, f13, str, *]; done)
                · -- operation 18
                  obtain ⟨f17, f13, -⟩ := hp
                  replace f17 : u 17 = (.pointer (some ⟨bk, off + k * 19, none⟩)) := f17
                  replace f13 : u 13 = (.bool true) := f13
                  try simp only [f17, f13, str]
                  go_wp2
                  refine stq_v rfl Same.refl ?_
                  first | (simp only [mkAct, List.foldl_cons, List.foldl_nil, List.setIfInBounds_toArray, List.set_cons_succ, List.set_cons_zero, upd, reduceIte, Nat.reduceEqDiff, Nat.reduceAdd, f17, f13, str]; done) | (simp [mkAct, upd, f17, f13, str, *]; done)
                · -- operation 19
                  obtain ⟨f18, f13, -⟩ := hp
                  replace f18 : u 18 = (.pointer (some ⟨bk, off + k * 19 + 1, none⟩)) := f18
                  replace f13 : u 13 = (.bool true) := f13
                  try simp only [f18, f13, str]
                  have cx := hI.cell x1.out
                  go_wp2
                  refine stq_v rfl Same.refl ?_
                  first | (simp only [mkAct, List.foldl_cons, List.foldl_nil, List.setIfInBounds_toArray, List.set_cons_succ, List.set_cons_zero, upd, reduceIte, Nat.reduceEqDiff, Nat.reduceAdd, f18, f13, str]; done) | (simp [mkAct, upd, f18, f13, str, *]; done)
                · -- operation 20
                  obtain ⟨f13, -⟩ := hp
                  replace f13 : u 13 = (.bool true) := f13
                  try simp only [f13, str]
                  go_wp2
                  refine stq_v rfl Same.refl ?_
                  first | (simp only [mkAct, List.foldl_cons, List.foldl_nil, List.setIfInBounds_toArray, List.set_cons_succ, List.set_cons_zero, upd, reduceIte, Nat.reduceEqDiff, Nat.reduceAdd, f13, str]; done) | (simp [mkAct, upd, f13, str, *]; done)
                · -- operation 21
                  obtain ⟨f20, f13, -⟩ := hp
                  replace f20 : u 20 = (.pointer (some ⟨w0.heap.size, 1, none⟩)) := f20
                  replace f13 : u 13 = (.bool true) := f13
                  try simp only [f20, f13, str]
                  have cx := hI.cell (d1r.out)
                  go_wp2
                  refine stq_v rfl Same.refl ?_
                  first | (simp only [mkAct, List.foldl_cons, List.foldl_nil, List.setIfInBounds_toArray, List.set_cons_succ, List.set_cons_zero, upd, reduceIte, Nat.reduceEqDiff, Nat.reduceAdd, f20, f13, str]; done) | (simp [mkAct, upd, f20, f13, str, *]; done)
                · -- operation 22
                  obtain ⟨f13, -⟩ := hp
                  replace f13 : u 13 = (.bool true) := f13
                  try simp only [f13, str]
                  go_wp2
                  refine stq_v rfl Same.refl ?_
                  first | (simp only [mkAct, List.foldl_cons, List.foldl_nil, List.setIfInBounds_toArray, List.set_cons_succ, List.set_cons_zero, upd, reduceIte, Nat.reduceEqDiff, Nat.reduceAdd, f13, str]; done) | (simp [mkAct, upd, f13, str, *]; done)
                · -- operation 23
                  obtain ⟨f21, f22, f13, -⟩ := hp
                  replace f21 : u 21 = (.slice (some ⟨bk2, off2, none⟩) m b.c) := f21
                  replace f22 : u 22 = (.int .i64 (j : Int)) := f22
                  replace f13 : u 13 = (.bool true) := f13
                  try simp only [f21, f22, f13, str]
                  go_wp2
                  refine stq_v rfl Same.refl ?_
                  first | (simp only [mkAct, List.foldl_cons, List.foldl_nil, List.setIfInBounds_toArray, List.set_cons_succ, List.set_cons_zero, upd, reduceIte, Nat.reduceEqDiff, Nat.reduceAdd, f21, f22, f13, str]; done) | (simp [mkAct, upd, f21, f22, f13, str, *]; done)
                · -- operation 24
                  obtain ⟨f23, f13, -⟩ := hp
                  replace f23 : u 23 = (.pointer (some ⟨bk2, off2 + j * 19, none⟩)) := f23
                  replace f13 : u 13 = (.bool true) := f13
                  try simp only [f23, f13, str]
                  go_wp2
                  refine stq_v rfl Same.refl ?_
                  first | (simp only [mkAct, List.foldl_cons, List.foldl_nil, List.setIfInBounds_toArray, List.set_cons_succ, List.set_cons_zero, upd, reduceIte, Nat.reduceEqDiff, Nat.reduceAdd, f23, f13, str]; done) | (simp [mkAct, upd, f23, f13, str, *]; done)
                · -- operation 25
                  obtain ⟨f24, f13, -⟩ := hp
                  replace f24 : u 24 = (.pointer (some ⟨bk2, off2 + j * 19 + 1, none⟩)) := f24
                  replace f13 : u 13 = (.bool true) := f13
                  try simp only [f24, f13, str]
                  have cx := hI.cell y1.out
                  go_wp2
                  refine stq_v rfl Same.refl ?_
                  first | (simp only [mkAct, List.foldl_cons, List.foldl_nil, List.setIfInBounds_toArray, List.set_cons_succ, List.set_cons_zero, upd, reduceIte, Nat.reduceEqDiff, Nat.reduceAdd, f24, f13, str]; done) | (simp [mkAct, upd, f24, f13, str, *]; done)
                · -- operation 26
                  obtain ⟨f19, f25, f13, -⟩ := hp
                  replace f19 : u 19 = (.int .i64 xn) := f19
                  replace f25 : u 25 = (.int .i64 yn) := f25
                  replace f13 : u 13 = (.bool true) := f13
                  try simp only [f19, f25, f13, str]
                  have he := he2.out
                  go_wp2
                  refine stq_v rfl Same.refl ?_
                  first | (simp only [mkAct, List.foldl_cons, List.foldl_nil, List.setIfInBounds_toArray, List.set_cons_succ, List.set_cons_zero, upd, reduceIte, Nat.reduceEqDiff, Nat.reduceAdd, f19, f25, f13, str]; done) | (simp [mkAct, upd, f19, f25, f13, str, *]; done)
                · -- operation 27
                  obtain ⟨f13, f26, -⟩ := hp
                  replace f13 : u 13 = (.bool true) := f13
                  replace f26 : u 26 = (.bool G) := f26
                  try simp only [f13, f26, str]
                  go_wp2
                  refine stq_v rfl Same.refl ?_
                  first | (simp only [mkAct, List.foldl_cons, List.foldl_nil, List.setIfInBounds_toArray, List.set_cons_succ, List.set_cons_zero, upd, reduceIte, Nat.reduceEqDiff, Nat.reduceAdd, f13, f26, str]; done) | (simp [mkAct, upd, f13, f26, str, *]; done)
              · intro u wx hI hR
                obtain ⟨r0, r1, r2, r3, r4, r5, r6, r7, r8, r9, r10, r11, r12, r13, r14, r15, r16, r17, r18, r19, r20, r21, r22, r23, r24, r25, r26, r27, -⟩ := hR
                replace r0 : u 0 = (.pointer (some ⟨w.heap.size, 1, none⟩)) := r0
                replace r1 : u 1 = (.slice (some ⟨bk, off, none⟩) n a.c) := r1
                replace r2 : u 2 = (.int .i64 (k : Int)) := r2
                replace r3 : u 3 = (.pointer (some ⟨bk, off + k * 19, none⟩)) := r3
                replace r4 : u 4 = (.pointer (some ⟨bk, off + k * 19, none⟩)) := r4
                replace r5 : u 5 = (.int .i64 xc) := r5
                replace r6 : u 6 = (.pointer (some ⟨w0.heap.size, 1, none⟩)) := r6
                replace r7 : u 7 = (.slice (some ⟨bk2, off2, none⟩) m b.c) := r7
                replace r8 : u 8 = (.int .i64 (j : Int)) := r8
                replace r9 : u 9 = (.pointer (some ⟨bk2, off2 + j * 19, none⟩)) := r9
                replace r10 : u 10 = (.pointer (some ⟨bk2, off2 + j * 19, none⟩)) := r10
                replace r11 : u 11 = (.int .i64 yc) := r11
                replace r12 : u 12 = (.bool true) := r12
                replace r13 : u 13 = (.bool true) := r13
                replace r14 : u 14 = (.pointer (some ⟨w.heap.size, 1, none⟩)) := r14
                replace r15 : u 15 = (.slice (some ⟨bk, off, none⟩) n a.c) := r15
                replace r16 : u 16 = (.int .i64 (k : Int)) := r16
                replace r17 : u 17 = (.pointer (some ⟨bk, off + k * 19, none⟩)) := r17
                replace r18 : u 18 = (.pointer (some ⟨bk, off + k * 19 + 1, none⟩)) := r18
                replace r19 : u 19 = (.int .i64 xn) := r19
                replace r20 : u 20 = (.pointer (some ⟨w0.heap.size, 1, none⟩)) := r20
                replace r21 : u 21 = (.slice (some ⟨bk2, off2, none⟩) m b.c) := r21
                replace r22 : u 22 = (.int .i64 (j : Int)) := r22
                replace r23 : u 23 = (.pointer (some ⟨bk2, off2 + j * 19, none⟩)) := r23
                replace r24 : u 24 = (.pointer (some ⟨bk2, off2 + j * 19 + 1, none⟩)) := r24
                replace r25 : u 25 = (.int .i64 yn) := r25
                replace r26 : u 26 = (.bool G) := r26
                replace r27 : u 27 = (.bool G) := r27
                simp only [mkAct, List.foldl_cons, List.foldl_nil, List.setIfInBounds_toArray, List.set_cons_succ, List.set_cons_zero]
                try simp only [str, r0, r1, r2, r3, r4, r5, r6, r7, r8, r9, r10, r11, r12, r13, r14, r15, r16, r17, r18, r19, r20, r21, r22, r23, r24, r25, r26, r27]
                go_wp2
                go_meet
                exact ⟨rfl, hI⟩
          case rest =>
            obtain ⟨rfl, hs3⟩ := hcut
            clear hG he1 he2
            cases G
            · have hGf2 := Lib.hid (hGf.out rfl)
              clear hGf hGt
              go_wp2
              go_roundw
              case rel => exact ⟨j + 1, by omega, by go_num, hGf2.out, hs2.out.trans hs3⟩
              case measure => simp [intOf]; omega
            · have hMt := Lib.hid (hGt.out rfl)
              clear hGf hGt
              go_wp2
              go_ret
              exact ⟨by rw [hMt.out]; rfl, hw1.out.trans (hs.out.trans (hs2.out.trans hs3))⟩
        · obtain rfl : j = m := by omega
          have hnew : meets b.reqs (a.reqs.take (k + 1)) = false := by
            rw [List.take_of_length_le (by rw [← hm.out]; exact Nat.le_refl _)] at hin
            rw [hkn.out, meets_snoc, hmt.out, hin]
            rfl
          clear hin
          replace hnew := Lib.hid hnew
          replace hs2 := Lib.hid hs2
          go_wp2
          go_roundw
          case rel => exact ⟨k + 1, by omega, by go_num, hnew.out, hs.out.trans hs2.out⟩
          case measure => simp [intOf]; omega
    · obtain rfl : k = n := by omega
      have hMf : M = false := by rw [hM0.out, ← hmt, List.take_of_length_le (by rw [← hn.out]; exact Nat.le_refl _)]
      clear hmt
      replace hs := Lib.hid hs
      replace hMf := Lib.hid hMf
      go_wp2
      go_ret
      exact ⟨by rw [hMf.out]; rfl, hw1.out.trans hs.out⟩
end Go.Proofs.Ytgdkhiihdoekaaa
namespace Go.Proofs.Ytgdkhiihdoekaaa
open Go Go.RowKit
set_option linter.unusedSimpArgs false
set_option linter.unusedVariables false

/-- Ahead of k nothing stands twice. -/
def once (l : List Req) (k : Nat) : Prop := ∀ j, j < k → inPairs (l.take j) (reqAt l j).pair = false
/-- Which one stands twice first. -/
def twiceAt (l : List Req) : Int := match (List.range l.length).find? (fun j => inPairs (l.take j) (reqAt l j).pair) with | some j => (j : Int) | none => -1
theorem once_zero (l : List Req) : once l 0 := fun j hj => by omega
theorem once_step {l : List Req} {k : Nat} (h : once l k) (hp : inPairs (l.take k) (reqAt l k).pair = false) : once l (k + 1) := by
  intro j hj
  by_cases e : j = k
  · rw [e]
    exact hp
  · exact h j (by omega)
theorem twice_hit {l : List Req} {k : Nat} (h : once l k) (hk : k < l.length) (hp : inPairs (l.take k) (reqAt l k).pair = true) : twiceAt l = (k : Int) := by
  have : (List.range l.length).find? (fun j => inPairs (l.take j) (reqAt l j).pair) = some k := by
    rw [List.find?_range_eq_some]
    exact ⟨hp, List.mem_range.2 hk, fun j hj => by rw [h j hj]; rfl⟩
  rw [twiceAt, this]
theorem twice_none {l : List Req} (h : once l l.length) : twiceAt l = -1 := by
  have : (List.range l.length).find? (fun j => inPairs (l.take j) (reqAt l j).pair) = none := by
    rw [List.find?_eq_none]
    intro j hj
    rw [h j (List.mem_range.1 hj)]
    simp
  rw [twiceAt, this]
theorem reqAt_take {l : List Req} {j k : Nat} (h : j < k) : reqAt (l.take k) j = reqAt l j := by
  unfold reqAt
  simp only [List.getD, List.getElem?_take, h, if_true]
theorem twice_take {l : List Req} {k : Nat} (h : once l k) (hk : k < l.length) : twiceAt (l.take (k + 1)) = if inPairs (l.take k) (reqAt l k).pair then (k : Int) else -1 := by
  have hl : (l.take (k + 1)).length = k + 1 := by rw [List.length_take]; omega
  have ht : ∀ j, j ≤ k → (l.take (k + 1)).take j = l.take j := fun j hj => by rw [List.take_take, Nat.min_eq_left (by omega)]
  have ho : once (l.take (k + 1)) k := fun j hj => by rw [ht j (by omega), reqAt_take (by omega)]; exact h j hj
  cases hp : inPairs (l.take k) (reqAt l k).pair
  · rw [twice_none]
    · rfl
    · rw [hl]
      exact once_step ho (by rw [ht k (Nat.le_refl _), reqAt_take (by omega)]; exact hp)
  · rw [twice_hit ho (by omega) (by rw [ht k (Nat.le_refl _), reqAt_take (by omega)]; exact hp)]
    rfl
theorem rangeP_mem {a : Req} {l : List Req} (h : inPairs l a.pair = true) : ∃ r ∈ l, r.pair = a.pair := by
  rw [inPairs, List.any_eq_true] at h
  obtain ⟨r, h1, h2⟩ := h
  exact ⟨r, h1, of_decide_eq_true h2⟩
set_option maxRecDepth 100000 in
set_option maxHeartbeats 1600000 in
theorem btwice_any (b : BatV) (w : World) (hb : b.at w) :
    Calls Try.prog 40 #[.slice b.ao b.reqs.length b.c] w fun e w' => e = .returned (.int .i64 (twiceAt b.reqs)) ∧ Same w w' := by
  have hof := Lib.hid bof_any
  have hcap := hb.1.cap
  have hmost := hb.1.most
  unfold maxLen at hmost
  obtain ⟨T, hT⟩ : ∃ T, T = twiceAt b.reqs := ⟨_, rfl⟩
  rw [← hT]
  obtain ⟨n, hn⟩ : ∃ n, n = b.reqs.length := ⟨_, rfl⟩
  rw [← hn] at hcap ⊢
  replace hb := Lib.hid hb
  replace hn := Lib.hid hn
  replace hT := Lib.hid hT
  go_enter Try.func40, Try.ntmps40
  go_wp2_with (refine bp_make rfl rfl ?_; intro w2 hMs hs2 hz2; replace hMs := Lib.hid hMs; replace hs2 := Lib.hid hs2)
  obtain ⟨B, hB⟩ : ∃ B, B = w.heap.size := ⟨_, rfl⟩
  rw [← hB] at hMs
  try rw [← hB]
  have hB2 : ∀ x, x < w.heap.size → ¬ x = B := fun x hx => by omega
  replace hB := Lib.hid hB
  go_loopw [9] (fun i wr => ∃ k c : Nat, k ≤ n ∧ i = .int .i64 k ∧ once b.reqs k ∧ bp_set wr B k c (inPairs (b.reqs.take k)) ∧ Same w wr) (fun i _ => n - (intOf i).toNat)
  case atStart => exact ⟨0, 0, by omega, rfl, once_zero _, hMs.out, hs2.out⟩
  case round =>
    obtain ⟨k, c, hk, rfl, hon, hset, hs⟩ := hrel
    clear hMs hs2
    have hsetl := hset.lt
    by_cases hlt : k < n
    · have hkn := take_snoc (l := b.reqs) (k := k) (by rw [← hn.out]; exact hlt)
      have hst := once_step hon
      have hht := twice_hit hon (by rw [← hn.out]; exact hlt)
      obtain ⟨bk, off, hao, hbl, hrange⟩ := BatV.range (w := w) (b := b) hb.out (i := k) (by rw [← hn.out]; exact hlt)
      have hr2 := (hs).range hrange
      have hwfR := (hb.out.2 _ (reqAt_mem (l := b.reqs) (i := k) (by rw [← hn.out]; exact hlt))).1
      obtain ⟨R, hR⟩ : ∃ R, R = reqAt b.reqs k := ⟨_, rfl⟩
      rw [← hR] at hr2 hwfR
      have hinfL := Lib.hid (req_infoL hwfR.1)
      have hinfR := Lib.hid (req_info hwfR.1)
      have hsz := Lib.hid (req_sizes (r := zeroReq) rfl hwfR.1)
      have q0 : 0 ≤ (k : Int) := by omega
      clear hrange hbl
      replace hr2 := Lib.hid hr2
      replace hwfR := Lib.hid hwfR
      replace hR := Lib.hid hR
      have q1 : (k : Int) < (n : Int) := by omega
      rw [← hR.out] at hkn hst hht
      rw [hao]
      clear hao
      replace hset := Lib.hid hset
      replace hs := Lib.hid hs
      replace hkn := Lib.hid hkn
      replace hst := Lib.hid hst
      replace hht := Lib.hid hht
      replace hon := Lib.hid hon
      go_upto_region 5 with (first | (refine load_mid rfl _ _ rfl bk (off + k * 19) rfl R.cells _ hr2.out Try.underlying78 rfl hinfL.out ?_) | (refine alloc_new rfl 78 rfl zeroReq.cells.toArray (by kernel_rfl) ?_; intro w3 hd hs3; have hdl := blk_lt hd; replace hd := Lib.hid hd; replace hs3 := Lib.hid hs3) | (refine store_row rfl _ _ _ rfl wr.heap.size _ rfl rfl _ _ hd.out hinfR.out hsz.out (req_one _) ?_; intro w4 hd4 hk4))
      have hs4 : Same wr w4 := hs3.out.keep hk4 (fun x hx hv => by omega)
      have hw4 := Lib.hid (hs.out.trans hs4)
      have hset4 := Lib.hid (hset.out.same hs4)
      replace hd4 := Lib.hid hd4
      have hsw4 := hs4.size
      clear hs hs3 hk4 hs4 hd hset
      go_simp
      go_wp2_with (refine load_row rfl _ _ rfl wr.heap.size rfl _ _ _ _ hd4.out Try.underlying78 rfl hinfR.out ?_)
      refine (hof.out _ _ hwfR.out.1).mono ?_
      rintro e w5 ⟨rfl, hs5⟩
      have hw5 := Lib.hid (hw4.out.trans hs5)
      have hset5 := Lib.hid (hset4.out.same hs5)
      have hd5 := Lib.hid (hs5.at hd4.out)
      clear hs5 hw4 hset4 hd4
      obtain ⟨G, hG⟩ : ∃ G, G = inPairs (b.reqs.take k) R.pair := ⟨_, rfl⟩
      rw [← hG] at hst hht
      replace hG := Lib.hid hG
      cases G
      · have hon2 := Lib.hid (hst.out rfl)
        go_wp2_with (first | (refine bp_look R.pair rfl _ _ rfl rfl hset5.out rfl hwfR.out.pair ?_; rw [← hG.out]) | (refine load_row rfl _ _ rfl wr.heap.size rfl _ _ _ _ hd5.out Try.underlying78 rfl hinfR.out ?_))
        refine (hof.out _ _ hwfR.out.1).mono ?_
        rintro e w6 ⟨rfl, hs6⟩
        have hw6 := Lib.hid (hw5.out.trans hs6)
        have hset6 := Lib.hid (hset5.out.same hs6)
        clear hs6 hw5 hset5 hd5
        go_wp2_with (refine bp_put R.pair rfl _ _ _ rfl rfl hset6.out (by unfold maxLen; omega) rfl hwfR.out.pair rfl ?_; intro w7 hset7 hk7; replace hset7 := Lib.hid hset7; replace hk7 := Lib.hid hk7)
        go_roundw
        case rel =>
          refine ⟨k + 1, _, by omega, by go_num, hon2.out, hset7.out.congr rfl (fun p => ?_), hw6.out.keep hk7.out hB2⟩
          rw [hkn.out, inPairs_snoc]
        case measure => simp [intOf]; omega
      · have hTk := Lib.hid (hht.out rfl)
        go_wp2_with (refine bp_look R.pair rfl _ _ rfl rfl hset5.out rfl hwfR.out.pair ?_; rw [← hG.out])
        go_ret
        exact ⟨by rw [hT.out, hTk.out]; rfl, hw5.out⟩
    · obtain rfl : k = n := by omega
      have hTk : T = -1 := by rw [hT.out]; exact twice_none (by rw [← hn.out]; exact hon)
      clear hset hon
      replace hs := Lib.hid hs
      replace hTk := Lib.hid hTk
      go_wp2
      go_ret
      exact ⟨by rw [hTk.out]; rfl, hs.out⟩
end Go.Proofs.Ytgdkhiihdoekaaa
namespace Go.Proofs.Ytgdkhiihdoekaaa
open Go Go.RowKit
set_option linter.unusedSimpArgs false
set_option linter.unusedVariables false

set_option maxRecDepth 100000 in
set_option maxHeartbeats 1600000 in
theorem rbtwice_any (b : BatV) (w : World) (hb : b.at w) :
    Calls Try.prog 41 #[.slice b.ao b.reqs.length b.c] w fun e w' => e = .returned (.int .i64 (twiceAt b.reqs)) ∧ Same w w' := by
  have hcap := hb.1.cap
  have hmost := hb.1.most
  unfold maxLen at hmost
  obtain ⟨T, hT⟩ : ∃ T, T = twiceAt b.reqs := ⟨_, rfl⟩
  rw [← hT]
  obtain ⟨n, hn⟩ : ∃ n, n = b.reqs.length := ⟨_, rfl⟩
  rw [← hn] at hcap ⊢
  obtain ⟨ao, hao⟩ : ∃ ao, ao = b.ao := ⟨_, rfl⟩
  rw [← hao]
  replace hb := Lib.hid hb
  replace hn := Lib.hid hn
  replace hT := Lib.hid hT
  replace hao := Lib.hid hao
  go_enter Try.func41, Try.ntmps41
  go_wp2
  go_loopw [3] (fun i wr => ∃ k : Nat, k ≤ n ∧ i = .int .i64 k ∧ once b.reqs k ∧ Same w wr) (fun i _ => n - (intOf i).toNat)
  case atStart => exact ⟨0, by omega, rfl, once_zero _, Same.refl⟩
  case round =>
    obtain ⟨k, hk, rfl, hon, hs⟩ := hrel
    by_cases hlt : k < n
    · have hst := once_step hon
      have hht := twice_hit hon (by rw [← hn.out]; exact hlt)
      obtain ⟨bk, off, hao2, hbl, hrange⟩ := BatV.range (w := w) (b := b) hb.out (i := k) (by rw [← hn.out]; exact hlt)
      have hra := hs.range hrange
      obtain ⟨X, hX⟩ : ∃ X, X = reqAt b.reqs k := ⟨_, rfl⟩
      rw [← hX] at hra hst hht
      have q0 : 0 ≤ (k : Int) := by omega
      have q1 : (k : Int) < (n : Int) := by omega
      rw [← hao.out] at hao2
      clear hrange hbl hon
      replace hra := Lib.hid hra
      replace hX := Lib.hid hX
      replace hst := Lib.hid hst
      replace hht := Lib.hid hht
      replace hs := Lib.hid hs
      replace hao2 := Lib.hid hao2
      go_wp2
      obtain ⟨wo, hwo⟩ : ∃ x, x = wr := ⟨_, rfl⟩
      subst hwo
      go_loopw [4] (fun i wr2 => ∃ j : Nat, j ≤ k ∧ i = .int .i64 j ∧ inPairs (b.reqs.take j) X.pair = false ∧ Same wo wr2) (fun i _ => k - (intOf i).toNat)
      case atStart => exact ⟨0, by omega, rfl, rfl, Same.refl⟩
      case round =>
        obtain ⟨j, hj, rfl, hin, hs2⟩ := hrel
        by_cases hjt : j < k
        · have hjn := take_snoc (l := b.reqs) (k := j) (by rw [← hn.out]; omega)
          have hjm := reqAt_mem (l := b.reqs.take k) (i := j) (by rw [List.length_take, ← hn.out]; omega)
          rw [reqAt_take hjt] at hjm
          obtain ⟨bk2, off2, hao3, hbl2, hrange2⟩ := BatV.range (w := w) (b := b) hb.out (i := j) (by rw [← hn.out]; omega)
          rw [← hao.out, hao2.out] at hao3
          injection hao3 with hao3
          injection hao3 with hb3 ho3 _
          subst hb3
          subst ho3
          have hrb := (hs.out.trans hs2).range hrange2
          obtain ⟨Y, hY⟩ : ∃ Y, Y = reqAt b.reqs j := ⟨_, rfl⟩
          rw [← hY] at hrb hjn hjm
          have hra2 := hs2.range hra.out
          have x0 := range_client hra2
          have x1 := range_num hra2
          have y0 := range_client hrb
          have y1 := range_num hrb
          obtain ⟨xc, hxc⟩ : ∃ z, z = X.client := ⟨_, rfl⟩
          obtain ⟨xn, hxn⟩ : ∃ z, z = X.num := ⟨_, rfl⟩
          obtain ⟨yc, hyc⟩ : ∃ z, z = Y.client := ⟨_, rfl⟩
          obtain ⟨yn, hyn⟩ : ∃ z, z = Y.num := ⟨_, rfl⟩
          rw [← hxc] at x0
          rw [← hxn] at x1
          rw [← hyc] at y0
          rw [← hyn] at y1
          obtain ⟨e1, he1⟩ : ∃ e, e = (xc == yc) := ⟨_, rfl⟩
          obtain ⟨e2, he2⟩ : ∃ e, e = (xn == yn) := ⟨_, rfl⟩
          obtain ⟨G, hG⟩ : ∃ G, G = (e1 && e2) := ⟨_, rfl⟩
          have hGp : G = decide (Y.pair = X.pair) := by
            rw [hG, he1, he2, hxc, hxn, hyc, hyn, Bool.eq_iff_iff]
            simp only [Bool.and_eq_true, beq_iff_eq, decide_eq_true_eq, Req.pair, Prod.mk.injEq]
            exact ⟨fun h => ⟨h.1.symm, h.2.symm⟩, fun h => ⟨h.1.symm, h.2.symm⟩⟩
          have hGf : G = false → inPairs (b.reqs.take (j + 1)) X.pair = false := by
            intro h
            rw [hjn, inPairs_snoc, hin, Bool.false_or]
            rw [h] at hGp
            simp only [Bool.false_eq, decide_eq_false_iff_not] at hGp ⊢
            exact fun h => hGp h.symm
          have hGt : G = true → T = (k : Int) := by
            intro h
            rw [hT.out]
            refine hht.out ?_
            rw [inPairs, List.any_eq_true]
            exact ⟨Y, hjm, by rw [← hGp, h]⟩
          have p0 : 0 ≤ (j : Int) := by omega
          have p1 : (j : Int) < (n : Int) := by omega
          have p2 : (j : Int) < (k : Int) := by omega
          clear hrange2 hbl2 hra2 hrb hjn hjm hGp hY hxc hxn hyc hyn hin
          replace he1 := Lib.hid he1
          replace he2 := Lib.hid he2
          replace hG := Lib.hid hG
          replace hGf := Lib.hid hGf
          replace hGt := Lib.hid hGt
          replace x0 := Lib.hid x0
          replace x1 := Lib.hid x1
          replace y0 := Lib.hid y0
          replace y1 := Lib.hid y1
          replace hs2 := Lib.hid hs2
          have haq := hao2.out
          subst haq
          go_upto_region 7 with fail
          go_cut [39] (fun v wx => v = .bool G ∧ Same wr wx)
          case first =>
            cases e1
            · have hGe := hG.out
              simp only [Bool.false_and, Bool.true_and] at hGe
              subst hGe
              refine wp_region_facts (by kernel_rfl) [(16, 0), (17, 1), (18, 2), (19, 3), (20, 4), (21, 5), (22, 6), (23, 7), (24, 8), (25, 9), (26, 10), (27, 11), (28, 12), (29, 13), (30, 14), (31, 15), (32, 16), (33, 17), (34, 18), (35, 19), (36, 20), (37, 21), (38, 22), (39, 23)] Same (Same _) [isV (.slice (some ⟨bk, off, none⟩) n b.c), isV (.int .i64 (k : Int)), isV (.pointer (some ⟨bk, off + k * 19, none⟩)), isV (.pointer (some ⟨bk, off + k * 19, none⟩)), isV (.int .i64 xc), isV (.slice (some ⟨bk, off, none⟩) n b.c), isV (.int .i64 (j : Int)), isV (.pointer (some ⟨bk, off + j * 19, none⟩)), isV (.pointer (some ⟨bk, off + j * 19, none⟩)), isV (.int .i64 yc), isV (.bool false), isV (.bool false), isV undef, isV undef, isV undef, isV undef, isV undef, isV undef, isV undef, isV undef, isV undef, isV undef, isV undef, isV (.bool false)] Same.refl.drew (fun _ _ h k => h.trans k) (by simp [isV_stable, isB_stable, isAny_stable]) (by decide) (by decide) ?_ ?_
              · refine ⟨?_, ?_, ?_, ?_, ?_, ?_, ?_, ?_, ?_, ?_, ?_, ?_, ?_, ?_, ?_, ?_, ?_, ?_, ?_, ?_, ?_, ?_, ?_, ?_, trivial⟩
                all_goals (intro u wx hI hp; simp only [mkAct, List.foldl_cons, List.foldl_nil, List.setIfInBounds_toArray, List.set_cons_succ, List.set_cons_zero])
                · -- operation 0
                  go_wp2
                  refine stq_v rfl Same.refl ?_
                  first | (simp only [mkAct, List.foldl_cons, List.foldl_nil, List.setIfInBounds_toArray, List.set_cons_succ, List.set_cons_zero, upd, reduceIte, Nat.reduceEqDiff, Nat.reduceAdd, str]; done) | (simp [mkAct, upd, str, *]; done)
                · -- operation 1
                  go_wp2
                  refine stq_v rfl Same.refl ?_
                  first | (simp only [mkAct, List.foldl_cons, List.foldl_nil, List.setIfInBounds_toArray, List.set_cons_succ, List.set_cons_zero, upd, reduceIte, Nat.reduceEqDiff, Nat.reduceAdd, str]; done) | (simp [mkAct, upd, str, *]; done)
                · -- operation 2
                  obtain ⟨f0, f1, -⟩ := hp
                  replace f0 : u 0 = (.slice (some ⟨bk, off, none⟩) n b.c) := f0
                  replace f1 : u 1 = (.int .i64 (k : Int)) := f1
                  try simp only [f0, f1, str]
                  go_wp2
                  refine stq_v rfl Same.refl ?_
                  first | (simp only [mkAct, List.foldl_cons, List.foldl_nil, List.setIfInBounds_toArray, List.set_cons_succ, List.set_cons_zero, upd, reduceIte, Nat.reduceEqDiff, Nat.reduceAdd, f0, f1, str]; done) | (simp [mkAct, upd, f0, f1, str, *]; done)
                · -- operation 3
                  obtain ⟨f2, -⟩ := hp
                  replace f2 : u 2 = (.pointer (some ⟨bk, off + k * 19, none⟩)) := f2
                  try simp only [f2, str]
                  go_wp2
                  refine stq_v rfl Same.refl ?_
                  first | (simp only [mkAct, List.foldl_cons, List.foldl_nil, List.setIfInBounds_toArray, List.set_cons_succ, List.set_cons_zero, upd, reduceIte, Nat.reduceEqDiff, Nat.reduceAdd, f2, str]; done) | (simp [mkAct, upd, f2, str, *]; done)
                · -- operation 4
                  obtain ⟨f3, -⟩ := hp
                  replace f3 : u 3 = (.pointer (some ⟨bk, off + k * 19, none⟩)) := f3
                  try simp only [f3, str]
                  have cx := hI.cell x0.out
                  go_wp2
                  refine stq_v rfl Same.refl ?_
                  first | (simp only [mkAct, List.foldl_cons, List.foldl_nil, List.setIfInBounds_toArray, List.set_cons_succ, List.set_cons_zero, upd, reduceIte, Nat.reduceEqDiff, Nat.reduceAdd, f3, str]; done) | (simp [mkAct, upd, f3, str, *]; done)
                · -- operation 5
                  go_wp2
                  refine stq_v rfl Same.refl ?_
                  first | (simp only [mkAct, List.foldl_cons, List.foldl_nil, List.setIfInBounds_toArray, List.set_cons_succ, List.set_cons_zero, upd, reduceIte, Nat.reduceEqDiff, Nat.reduceAdd, str]; done) | (simp [mkAct, upd, str, *]; done)
                · -- operation 6
                  go_wp2
                  refine stq_v rfl Same.refl ?_
                  first | (simp only [mkAct, List.foldl_cons, List.foldl_nil, List.setIfInBounds_toArray, List.set_cons_succ, List.set_cons_zero, upd, reduceIte, Nat.reduceEqDiff, Nat.reduceAdd, str]; done) | (simp [mkAct, upd, str, *]; done)
                · -- operation 7
                  obtain ⟨f5, f6, -⟩ := hp
                  replace f5 : u 5 = (.slice (some ⟨bk, off, none⟩) n b.c) := f5
                  replace f6 : u 6 = (.int .i64 (j : Int)) := f6
                  try simp only [f5, f6, str]
                  go_wp2
                  refine stq_v rfl Same.refl ?_
                  first | (simp only [mkAct, List.foldl_cons, List.foldl_nil, List.setIfInBounds_toArray, List.set_cons_succ, List.set_cons_zero, upd, reduceIte, Nat.reduceEqDiff, Nat.reduceAdd, f5, f6, str]; done) | (simp [mkAct, upd, f5, f6, str, *]; done)
                · -- operation 8
                  obtain ⟨f7, -⟩ := hp
                  replace f7 : u 7 = (.pointer (some ⟨bk, off + j * 19, none⟩)) := f7
                  try simp only [f7, str]
                  go_wp2
                  refine stq_v rfl Same.refl ?_
                  first | (simp only [mkAct, List.foldl_cons, List.foldl_nil, List.setIfInBounds_toArray, List.set_cons_succ, List.set_cons_zero, upd, reduceIte, Nat.reduceEqDiff, Nat.reduceAdd, f7, str]; done) | (simp [mkAct, upd, f7, str, *]; done)
                · -- operation 9
                  obtain ⟨f8, -⟩ := hp
                  replace f8 : u 8 = (.pointer (some ⟨bk, off + j * 19, none⟩)) := f8
                  try simp only [f8, str]
                  have cx := hI.cell y0.out
                  go_wp2
                  refine stq_v rfl Same.refl ?_
                  first | (simp only [mkAct, List.foldl_cons, List.foldl_nil, List.setIfInBounds_toArray, List.set_cons_succ, List.set_cons_zero, upd, reduceIte, Nat.reduceEqDiff, Nat.reduceAdd, f8, str]; done) | (simp [mkAct, upd, f8, str, *]; done)
                · -- operation 10
                  obtain ⟨f4, f9, -⟩ := hp
                  replace f4 : u 4 = (.int .i64 xc) := f4
                  replace f9 : u 9 = (.int .i64 yc) := f9
                  try simp only [f4, f9, str]
                  have he := he1.out
                  go_wp2
                  refine stq_v rfl Same.refl ?_
                  first | (simp only [mkAct, List.foldl_cons, List.foldl_nil, List.setIfInBounds_toArray, List.set_cons_succ, List.set_cons_zero, upd, reduceIte, Nat.reduceEqDiff, Nat.reduceAdd, f4, f9, str]; done) | (simp [mkAct, upd, f4, f9, str, *]; done)
                · -- operation 11
                  obtain ⟨f10, -⟩ := hp
                  replace f10 : u 10 = (.bool false) := f10
                  try simp only [f10, str]
                  go_wp2
                  refine stq_v rfl Same.refl ?_
                  first | (simp only [mkAct, List.foldl_cons, List.foldl_nil, List.setIfInBounds_toArray, List.set_cons_succ, List.set_cons_zero, upd, reduceIte, Nat.reduceEqDiff, Nat.reduceAdd, f10, str]; done) | (simp [mkAct, upd, f10, str, *]; done)
                · -- operation 12
                  obtain ⟨f11, -⟩ := hp
                  replace f11 : u 11 = (.bool false) := f11
                  try simp only [f11, str]
                  go_wp2
                  refine stq_v rfl Same.refl ?_
                  first | (simp only [mkAct, List.foldl_cons, List.foldl_nil, List.setIfInBounds_toArray, List.set_cons_succ, List.set_cons_zero, upd, reduceIte, Nat.reduceEqDiff, Nat.reduceAdd, f11, str]; done) | (simp [mkAct, upd, f11, str, *]; done)
                · -- operation 13
                  obtain ⟨f11, -⟩ := hp
                  replace f11 : u 11 = (.bool false) := f11
                  try simp only [f11, str]
                  go_wp2
                  refine stq_v rfl Same.refl ?_
                  first | (simp only [mkAct, List.foldl_cons, List.foldl_nil, List.setIfInBounds_toArray, List.set_cons_succ, List.set_cons_zero, upd, reduceIte, Nat.reduceEqDiff, Nat.reduceAdd, f11, str]; done) | (simp [mkAct, upd, f11, str, *]; done)
                · -- operation 14
                  obtain ⟨f12, f13, f11, -⟩ := hp
                  replace f12 : u 12 = undef := f12
                  replace f13 : u 13 = undef := f13
                  replace f11 : u 11 = (.bool false) := f11
                  try simp only [f12, f13, f11, str]
                  go_wp2
                  refine stq_v rfl Same.refl ?_
                  first | (simp only [mkAct, List.foldl_cons, List.foldl_nil, List.setIfInBounds_toArray, List.set_cons_succ, List.set_cons_zero, upd, reduceIte, Nat.reduceEqDiff, Nat.reduceAdd, f12, f13, f11, str]; done) | (simp [mkAct, upd, f12, f13, f11, str, *]; done)
                · -- operation 15
                  obtain ⟨f14, f11, -⟩ := hp
                  replace f14 : u 14 = undef := f14
                  replace f11 : u 11 = (.bool false) := f11
                  try simp only [f14, f11, str]
                  go_wp2
                  refine stq_v rfl Same.refl ?_
                  first | (simp only [mkAct, List.foldl_cons, List.foldl_nil, List.setIfInBounds_toArray, List.set_cons_succ, List.set_cons_zero, upd, reduceIte, Nat.reduceEqDiff, Nat.reduceAdd, f14, f11, str]; done) | (simp [mkAct, upd, f14, f11, str, *]; done)
                · -- operation 16
                  obtain ⟨f15, f11, -⟩ := hp
                  replace f15 : u 15 = undef := f15
                  replace f11 : u 11 = (.bool false) := f11
                  try simp only [f15, f11, str]
                  go_wp2
                  refine stq_v rfl Same.refl ?_
                  first | (simp only [mkAct, List.foldl_cons, List.foldl_nil, List.setIfInBounds_toArray, List.set_cons_succ, List.set_cons_zero, upd, reduceIte, Nat.reduceEqDiff, Nat.reduceAdd, f15, f11, str]; done) | (simp [mkAct, upd, f15, f11, str, *]; done)
                · -- operation 17
                  obtain ⟨f11, -⟩ := hp
                  replace f11 : u 11 = (.bool false) := f11
                  try simp only [f11, str]
                  go_wp2
                  refine stq_v rfl Same.refl ?_
                  first | (simp only [mkAct, List.foldl_cons, List.foldl_nil, List.setIfInBounds_toArray, List.set_cons_succ, List.set_cons_zero, upd, reduceIte, Nat.reduceEqDiff, Nat.reduceAdd, f11, str]; done) | (simp [mkAct, upd, f11, str, *]; done)
                · -- operation 18
                  obtain ⟨f11, -⟩ := hp
                  replace f11 : u 11 = (.bool false) := f11
                  try simp only [f11, str]
                  go_wp2
                  refine stq_v rfl Same.refl ?_
                  first | (simp only [mkAct, List.foldl_cons, List.foldl_nil, List.setIfInBounds_toArray, List.set_cons_succ, List.set_cons_zero, upd, reduceIte, Nat.reduceEqDiff, Nat.reduceAdd, f11, str]; done) | (simp [mkAct, upd, f11, str, *]; done)
                · -- operation 19
                  obtain ⟨f17, f18, f11, -⟩ := hp
                  replace f17 : u 17 = undef := f17
                  replace f18 : u 18 = undef := f18
                  replace f11 : u 11 = (.bool false) := f11
                  try simp only [f17, f18, f11, str]
                  go_wp2
                  refine stq_v rfl Same.refl ?_
                  first | (simp only [mkAct, List.foldl_cons, List.foldl_nil, List.setIfInBounds_toArray, List.set_cons_succ, List.set_cons_zero, upd, reduceIte, Nat.reduceEqDiff, Nat.reduceAdd, f17, f18, f11, str]; done) | (simp [mkAct, upd, f17, f18, f11, str, *]; done)
                · -- operation 20
                  obtain ⟨f19, f11, -⟩ := hp
                  replace f19 : u 19 = undef := f19
                  replace f11 : u 11 = (.bool false) := f11
                  try simp only [f19, f11, str]
                  go_wp2
                  refine stq_v rfl Same.refl ?_
                  first | (simp only [mkAct, List.foldl_cons, List.foldl_nil, List.setIfInBounds_toArray, List.set_cons_succ, List.set_cons_zero, upd, reduceIte, Nat.reduceEqDiff, Nat.reduceAdd, f19, f11, str]; done) | (simp [mkAct, upd, f19, f11, str, *]; done)
                · -- operation 21
                  obtain ⟨f20, f11, -⟩ := hp
                  replace f20 : u 20 = undef := f20
                  replace f11 : u 11 = (.bool false) := f11
                  try simp only [f20, f11, str]
                  go_wp2
                  refine stq_v rfl Same.refl ?_
                  first | (simp only [mkAct, List.foldl_cons, List.foldl_nil, List.setIfInBounds_toArray, List.set_cons_succ, List.set_cons_zero, upd, reduceIte, Nat.reduceEqDiff, Nat.reduceAdd, f20, f11, str]; done) | (simp [mkAct, upd, f20, f11, str, *]; done)
                · -- operation 22
                  obtain ⟨f16, f21, f11, -⟩ := hp
                  replace f16 : u 16 = undef := f16
                  replace f21 : u 21 = undef := f21
                  replace f11 : u 11 = (.bool false) := f11
                  try simp only [f16, f21, f11, str]
                  go_wp2
                  refine stq_v rfl Same.refl ?_
                  first | (simp only [mkAct, List.foldl_cons, List.foldl_nil, List.setIfInBounds_toArray, List.set_cons_succ, List.set_cons_zero, upd, reduceIte, Nat.reduceEqDiff, Nat.reduceAdd, f16, f21, f11, str]; done) | (simp [mkAct, upd, f16, f21, f11, str, *]; done)
                · -- operation 23
                  obtain ⟨f11, f22, -⟩ := hp
                  replace f11 : u 11 = (.bool false) := f11
                  replace f22 : u 22 = undef := f22
                  try simp only [f11, f22, str]
                  go_wp2
                  refine stq_v rfl Same.refl ?_
                  first | (simp only [mkAct, List.foldl_cons, List.foldl_nil, List.setIfInBounds_toArray, List.set_cons_succ, List.set_cons_zero, upd, reduceIte, Nat.reduceEqDiff, Nat.reduceAdd, f11, f22, str]; done) | (simp [mkAct, upd, f11, f22, str, *]; done)
              · intro u wx hI hR
                obtain ⟨r0, r1, r2, r3, r4, r5, r6, r7, r8, r9, r10, r11, r12, r13, r14, r15, r16, r17, r18, r19, r20, r21, r22, r23, -⟩ := hR
                replace r0 : u 0 = (.slice (some ⟨bk, off, none⟩) n b.c) := r0
                replace r1 : u 1 = (.int .i64 (k : Int)) := r1
                replace r2 : u 2 = (.pointer (some ⟨bk, off + k * 19, none⟩)) := r2
                replace r3 : u 3 = (.pointer (some ⟨bk, off + k * 19, none⟩)) := r3
                replace r4 : u 4 = (.int .i64 xc) := r4
                replace r5 : u 5 = (.slice (some ⟨bk, off, none⟩) n b.c) := r5
                replace r6 : u 6 = (.int .i64 (j : Int)) := r6
                replace r7 : u 7 = (.pointer (some ⟨bk, off + j * 19, none⟩)) := r7
                replace r8 : u 8 = (.pointer (some ⟨bk, off + j * 19, none⟩)) := r8
                replace r9 : u 9 = (.int .i64 yc) := r9
                replace r10 : u 10 = (.bool false) := r10
                replace r11 : u 11 = (.bool false) := r11
                replace r12 : u 12 = undef := r12
                replace r13 : u 13 = undef := r13
                replace r14 : u 14 = undef := r14
                replace r15 : u 15 = undef := r15
                replace r16 : u 16 = undef := r16
                replace r17 : u 17 = undef := r17
                replace r18 : u 18 = undef := r18
                replace r19 : u 19 = undef := r19
                replace r20 : u 20 = undef := r20
                replace r21 : u 21 = undef := r21
                replace r22 : u 22 = undef := r22
                replace r23 : u 23 = (.bool false) := r23
                simp only [mkAct, List.foldl_cons, List.foldl_nil, List.setIfInBounds_toArray, List.set_cons_succ, List.set_cons_zero]
                try simp only [str, r0, r1, r2, r3, r4, r5, r6, r7, r8, r9, r10, r11, r12, r13, r14, r15, r16, r17, r18, r19, r20, r21, r22, r23]
                go_wp2
                go_meet
                exact ⟨rfl, hI⟩
            · have hGe := hG.out
              simp only [Bool.false_and, Bool.true_and] at hGe
              subst hGe
              refine wp_region_facts (by kernel_rfl) [(16, 0), (17, 1), (18, 2), (19, 3), (20, 4), (21, 5), (22, 6), (23, 7), (24, 8), (25, 9), (26, 10), (27, 11), (28, 12), (29, 13), (30, 14), (31, 15), (32, 16), (33, 17), (34, 18), (35, 19), (36, 20), (37, 21), (38, 22), (39, 23)] Same (Same _) [isV (.slice (some ⟨bk, off, none⟩) n b.c), isV (.int .i64 (k : Int)), isV (.pointer (some ⟨bk, off + k * 19, none⟩)), isV (.pointer (some ⟨bk, off + k * 19, none⟩)), isV (.int .i64 xc), isV (.slice (some ⟨bk, off, none⟩) n b.c), isV (.int .i64 (j : Int)), isV (.pointer (some ⟨bk, off + j * 19, none⟩)), isV (.pointer (some ⟨bk, off + j * 19, none⟩)), isV (.int .i64 yc), isV (.bool true), isV (.bool true), isV (.slice (some ⟨bk, off, none⟩) n b.c), isV (.int .i64 (k : Int)), isV (.pointer (some ⟨bk, off + k * 19, none⟩)), isV (.pointer (some ⟨bk, off + k * 19 + 1, none⟩)), isV (.int .i64 xn), isV (.slice (some ⟨bk, off, none⟩) n b.c), isV (.int .i64 (j : Int)), isV (.pointer (some ⟨bk, off + j * 19, none⟩)), isV (.pointer (some ⟨bk, off + j * 19 + 1, none⟩)), isV (.int .i64 yn), isV (.bool G), isV (.bool G)] Same.refl.drew (fun _ _ h k => h.trans k) (by simp [isV_stable, isB_stable, isAny_stable]) (by decide) (by decide) ?_ ?_
              · refine ⟨?_, ?_, ?_, ?_, ?_, ?_, ?_, ?_, ?_, ?_, ?_, ?_, ?_, ?_, ?_, ?_, ?_, ?_, ?_, ?_, ?_, ?_, ?_, ?_, trivial⟩
                all_goals (intro u wx hI hp; simp only [mkAct, List.foldl_cons, List.foldl_nil, List.setIfInBounds_toArray, List.set_cons_succ, List.set_cons_zero])
                · -- operation 0
                  go_wp2
                  refine stq_v rfl Same.refl ?_
                  first | (simp only [mkAct, List.foldl_cons, List.foldl_nil, List.setIfInBounds_toArray, List.set_cons_succ, List.set_cons_zero, upd, reduceIte, Nat.reduceEqDiff, Nat.reduceAdd, str]; done) | (simp [mkAct, upd, str, *]; done)
                · -- operation 1
                  go_wp2
                  refine stq_v rfl Same.refl ?_
                  first | (simp only [mkAct, List.foldl_cons, List.foldl_nil, List.setIfInBounds_toArray, List.set_cons_succ, List.set_cons_zero, upd, reduceIte, Nat.reduceEqDiff, Nat.reduceAdd, str]; done) | (simp [mkAct, upd, str, *]; done)
                · -- operation 2
                  obtain ⟨f0, f1, -⟩ := hp
                  replace f0 : u 0 = (.slice (some ⟨bk, off, none⟩) n b.c) := f0
                  replace f1 : u 1 = (.int .i64 (k : Int)) := f1
                  try simp only [f0, f1, str]
                  go_wp2
                  refine stq_v rfl Same.refl ?_
                  first | (simp only [mkAct, List.foldl_cons, List.foldl_nil, List.setIfInBounds_toArray, List.set_cons_succ, List.set_cons_zero, upd, reduceIte, Nat.reduceEqDiff, Nat.reduceAdd, f0, f1, str]; done) | (simp [mkAct, upd, f0, f1, str, *]; done)
                · -- operation 3
                  obtain ⟨f2, -⟩ := hp
                  replace f2 : u 2 = (.pointer (some ⟨bk, off + k * 19, none⟩)) := f2
                  try simp only [f2, str]
                  go_wp2
                  refine stq_v rfl Same.refl ?_
                  first | (simp only [mkAct, List.foldl_cons, List.foldl_nil, List.setIfInBounds_toArray, List.set_cons_succ, List.set_cons_zero, upd, reduceIte, Nat.reduceEqDiff, Nat.reduceAdd, f2, str]; done) | (simp [mkAct, upd, f2, str, *]; done)
                · -- operation 4
                  obtain ⟨f3, -⟩ := hp
                  replace f3 : u 3 = (.pointer (some ⟨bk, off + k * 19, none⟩)) := f3
                  try simp only [f3, str]
                  have cx := hI.cell x0.out
                  go_wp2
                  refine stq_v rfl Same.refl ?_
                  first | (simp only [mkAct, List.foldl_cons, List.foldl_nil, List.setIfInBounds_toArray, List.set_cons_succ, List.set_cons_zero, upd, reduceIte, Nat.reduceEqDiff, Nat.reduceAdd, f3, str]; done) | (simp [mkAct, upd, f3, str, *]; done)
                · -- operation 5
                  go_wp2
                  refine stq_v rfl Same.refl ?_
                  first | (simp only [mkAct, List.foldl_cons, List.foldl_nil, List.setIfInBounds_toArray, List.set_cons_succ, List.set_cons_zero, upd, reduceIte, Nat.reduceEqDiff, Nat.reduceAdd, str]; done) | (simp [mkAct, upd, str, *]; done)
                · -- operation 6
                  go_wp2
                  refine stq_v rfl Same.refl ?_
                  first | (simp only [mkAct, List.foldl_cons, List.foldl_nil, List.setIfInBounds_toArray, List.set_cons_succ, List.set_cons_zero, upd, reduceIte, Nat.reduceEqDiff, Nat.reduceAdd, str]; done) | (simp [mkAct, upd, str, *]; done)
                · -- operation 7
                  obtain ⟨f5, f6, -⟩ := hp
                  replace f5 : u 5 = (.slice (some ⟨bk, off, none⟩) n b.c) := f5
                  replace f6 : u 6 = (.int .i64 (j : Int)) := f6
                  try simp only [f5, f6, str]
                  go_wp2
                  refine stq_v rfl Same.refl ?_
                  first | (simp only [mkAct, List.foldl_cons, List.foldl_nil, List.setIfInBounds_toArray, List.set_cons_succ, List.set_cons_zero, upd, reduceIte, Nat.reduceEqDiff, Nat.reduceAdd, f5, f6, str]; done) | (simp [mkAct, upd, f5, f6, str, *]; done)
                · -- operation 8
                  obtain ⟨f7, -⟩ := hp
                  replace f7 : u 7 = (.pointer (some ⟨bk, off + j * 19, none⟩)) := f7
                  try simp only [f7, str]
                  go_wp2
                  refine stq_v rfl Same.refl ?_
                  first | (simp only [mkAct, List.foldl_cons, List.foldl_nil, List.setIfInBounds_toArray, List.set_cons_succ, List.set_cons_zero, upd, reduceIte, Nat.reduceEqDiff, Nat.reduceAdd, f7, str]; done) | (simp [mkAct, upd, f7, str, *]; done)
                · -- operation 9
                  obtain ⟨f8, -⟩ := hp
                  replace f8 : u 8 = (.pointer (some ⟨bk, off + j * 19, none⟩)) := f8
                  try simp only [f8, str]
                  have cx := hI.cell y0.out
                  go_wp2
                  refine stq_v rfl Same.refl ?_
                  first | (simp only [mkAct, List.foldl_cons, List.foldl_nil, List.setIfInBounds_toArray, List.set_cons_succ, List.set_cons_zero, upd, reduceIte, Nat.reduceEqDiff, Nat.reduceAdd, f8, str]; done) | (simp [mkAct, upd, f8, str, *]; done)
                · -- operation 10
                  obtain ⟨f4, f9, -⟩ := hp
                  replace f4 : u 4 = (.int .i64 xc) := f4
                  replace f9 : u 9 = (.int .i64 yc) := f9
                  try simp only [f4, f9, str]
                  have he := he1.out
                  go_wp2
                  refine stq_v rfl Same.refl ?_
                  first | (simp only [mkAct, List.foldl_cons, List.foldl_nil, List.setIfInBounds_toArray, List.set_cons_succ, List.set_cons_zero, upd, reduceIte, Nat.reduceEqDiff, Nat.reduceAdd, f4, f9, str]; done) | (simp [mkAct, upd, f4, f9, str, *]; done)
                · -- operation 11
                  obtain ⟨f10, -⟩ := hp
                  replace f10 : u 10 = (.bool true) := f10
                  try simp only [f10, str]
                  go_wp2
                  refine stq_v rfl Same.refl ?_
                  first | (simp only [mkAct, List.foldl_cons, List.foldl_nil, List.setIfInBounds_toArray, List.set_cons_succ, List.set_cons_zero, upd, reduceIte, Nat.reduceEqDiff, Nat.reduceAdd, f10, str]; done) | (simp [mkAct, upd, f10, str, *]; done)
                · -- operation 12
                  obtain ⟨f11, -⟩ := hp
                  replace f11 : u 11 = (.bool true) := f11
                  try simp only [f11, str]
                  go_wp2
                  refine stq_v rfl Same.refl ?_
                  first | (simp only [mkAct, List.foldl_cons, List.foldl_nil, List.setIfInBounds_toArray, List.set_cons_succ, List.set_cons_zero, upd, reduceIte, Nat.reduceEqDiff, Nat.reduceAdd, f11, str]; done) | (simp [mkAct, upd, f11, str, *]; done)
                · -- operation 13
                  obtain ⟨f11, -⟩ := hp
                  replace f11 : u 11 = (.bool true) := f11
                  try simp only [f11, str]
                  go_wp2
                  refine stq_v rfl Same.refl ?_
                  first | (simp only [mkAct, List.foldl_cons, List.foldl_nil, List.setIfInBounds_toArray, List.set_cons_succ, List.set_cons_zero, upd, reduceIte, Nat.reduceEqDiff, Nat.reduceAdd, f11, str]; done) | (simp [mkAct, upd, f11, str, *]; done)
                · -- operation 14
                  obtain ⟨f12, f13, f11, -⟩ := hp
                  replace f12 : u 12 = (.slice (some ⟨bk, off, none⟩) n b.c) := f12
                  replace f13 : u 13 = (.int .i64 (k : Int)) := f13
                  replace f11 : u 11 = (.bool true) := f11
                  try simp only [f12, f13, f11, str]
                  go_wp2
                  refine stq_v rfl Same.refl ?_
                  first | (simp only [mkAct, List.foldl_cons, List.foldl_nil, List.setIfInBounds_toArray, List.set_cons_succ, List.set_cons_zero, upd, reduceIte, Nat.reduceEqDiff, Nat.reduceAdd, f12, f13, f11, str]; done) | (simp [mkAct, upd, f12, f13, f11, str, *]; done)
                · -- operation 15
                  obtain ⟨f14, f11, -⟩ := hp
                  replace f14 : u 14 = (.pointer (some ⟨bk, off + k * 19, none⟩)) := f14
                  replace f11 : u 11 = (.bool true) := f11
                  try simp only [f14, f11, str]
                  go_wp2
                  refine stq_v rfl Same.refl ?_
                  first | (simp only [mkAct, List.foldl_cons, List.foldl_nil, List.setIfInBounds_toArray, List.set_cons_succ, List.set_cons_zero, upd, reduceIte, Nat.reduceEqDiff, Nat.reduceAdd, f14, f11, str]; done) | (simp [mkAct, upd, f14, f11, str, *]; done)
                · -- operation 16
                  obtain ⟨f15, f11, -⟩ := hp
                  replace f15 : u 15 = (.pointer (some ⟨bk, off + k * 19 + 1, none⟩)) := f15
                  replace f11 : u 11 = (.bool true) := f11
                  try simp only [f15, f11, str]
                  have cx := hI.cell x1.out
                  go_wp2
                  refine stq_v rfl Same.refl ?_
                  first | (simp only [mkAct, List.foldl_cons, List.foldl_nil, List.setIfInBounds_toArray, List.set_cons_succ, List.set_cons_zero, upd, reduceIte, Nat.reduceEqDiff, Nat.reduceAdd, f15, f11, str]; done) | (simp [mkAct, upd, f15, f11, str, *]; done)
                · -- operation 17
                  obtain ⟨f11, -⟩ := hp
                  replace f11 : u 11 = (.bool true) := f11
                  try simp only [f11, str]
                  go_wp2
                  refine stq_v rfl Same.refl ?_
                  first | (simp only [mkAct, List.foldl_cons, List.foldl_nil, List.setIfInBounds_toArray, List.set_cons_succ, List.set_cons_zero, upd, reduceIte, Nat.reduceEqDiff, Nat.reduceAdd, f11, str]; done) | (simp [mkAct, upd, f11, str, *]; done)
                · -- operation 18
                  obtain ⟨f11, -⟩ := hp
                  replace f11 : u 11 = (.bool true) := f11
                  try simp only [f11, str]
                  go_wp2
                  refine stq_v rfl Same.refl ?_
                  first | (simp only [mkAct, List.foldl_cons, List.foldl_nil, List.setIfInBounds_toArray, List.set_cons_succ, List.set_cons_zero, upd, reduceIte, Nat.reduceEqDiff, Nat.reduceAdd, f11, str]; done) | (simp [mkAct, upd, f11, str, *]; done)
                · -- operation 19
                  obtain ⟨f17, f18, f11, -⟩ := hp
                  replace f17 : u 17 = (.slice (some ⟨bk, off, none⟩) n b.c) := f17
                  replace f18 : u 18 = (.int .i64 (j : Int)) := f18
                  replace f11 : u 11 = (.bool true) := f11
                  try simp only [f17, f18, f11, str]
                  go_wp2
                  refine stq_v rfl Same.refl ?_
                  first | (simp only [mkAct, List.foldl_cons, List.foldl_nil, List.setIfInBounds_toArray, List.set_cons_succ, List.set_cons_zero, upd, reduceIte, Nat.reduceEqDiff, Nat.reduceAdd, f17, f18, f11, str]; done) | (simp [mkAct, upd, f17, f18, f11, str, *]; done)
                · -- operation 20
                  obtain ⟨f19, f11, -⟩ := hp
                  replace f19 : u 19 = (.pointer (some ⟨bk, off + j * 19, none⟩)) := f19
                  replace f11 : u 11 = (.bool true) := f11
                  try simp only [f19, f11, str]
                  go_wp2
                  refine stq_v rfl Same.refl ?_
                  first | (simp only [mkAct, List.foldl_cons, List.foldl_nil, List.setIfInBounds_toArray, List.set_cons_succ, List.set_cons_zero, upd, reduceIte, Nat.reduceEqDiff, Nat.reduceAdd, f19, f11, str]; done) | (simp [mkAct, upd, f19, f11, str, *]; done)
                · -- operation 21
                  obtain ⟨f20, f11, -⟩ := hp
                  replace f20 : u 20 = (.pointer (some ⟨bk, off + j * 19 + 1, none⟩)) := f20
                  replace f11 : u 11 = (.bool true) := f11
                  try simp only [f20, f11, str]
                  have cx := hI.cell y1.out
                  go_wp2
                  refine stq_v rfl Same.refl ?_
                  first | (simp only [mkAct, List.foldl_cons, List.foldl_nil, List.setIfInBounds_toArray, List.set_cons_succ, List.set_cons_zero, upd, reduceIte, Nat.reduceEqDiff, Nat.reduceAdd, f20, f11, str]; done) | (simp [mkAct, upd, f20, f11, str, *]; done)
                · -- operation 22
                  obtain ⟨f16, f21, f11, -⟩ := hp
                  replace f16 : u 16 = (.int .i64 xn) := f16
                  replace f21 : u 21 = (.int .i64 yn) := f21
                  replace f11 : u 11 = (.bool true) := f11
                  try simp only [f16, f21, f11, str]
                  have he := he2.out
                  go_wp2
                  refine stq_v rfl Same.refl ?_
                  first | (simp only [mkAct, List.foldl_cons, List.foldl_nil, List.setIfInBounds_toArray, List.set_cons_succ, List.set_cons_zero, upd, reduceIte, Nat.reduceEqDiff, Nat.reduceAdd, f16, f21, f11, str]; done) | (simp [mkAct, upd, f16, f21, f11, str, *]; done)
                · -- operation 23
                  obtain ⟨f11, f22, -⟩ := hp
                  replace f11 : u 11 = (.bool true) := f11
                  replace f22 : u 22 = (.bool G) := f22
                  try simp only [f11, f22, str]
                  go_wp2
                  refine stq_v rfl Same.refl ?_
                  first | (simp only [mkAct, List.foldl_cons, List.foldl_nil, List.setIfInBounds_toArray, List.set_cons_succ, List.set_cons_zero, upd, reduceIte, Nat.reduceEqDiff, Nat.reduceAdd, f11, f22, str]; done) | (simp [mkAct, upd, f11, f22, str, *]; done)
              · intro u wx hI hR
                obtain ⟨r0, r1, r2, r3, r4, r5, r6, r7, r8, r9, r10, r11, r12, r13, r14, r15, r16, r17, r18, r19, r20, r21, r22, r23, -⟩ := hR
                replace r0 : u 0 = (.slice (some ⟨bk, off, none⟩) n b.c) := r0
                replace r1 : u 1 = (.int .i64 (k : Int)) := r1
                replace r2 : u 2 = (.pointer (some ⟨bk, off + k * 19, none⟩)) := r2
                replace r3 : u 3 = (.pointer (some ⟨bk, off + k * 19, none⟩)) := r3
                replace r4 : u 4 = (.int .i64 xc) := r4
                replace r5 : u 5 = (.slice (some ⟨bk, off, none⟩) n b.c) := r5
                replace r6 : u 6 = (.int .i64 (j : Int)) := r6
                replace r7 : u 7 = (.pointer (some ⟨bk, off + j * 19, none⟩)) := r7
                replace r8 : u 8 = (.pointer (some ⟨bk, off + j * 19, none⟩)) := r8
                replace r9 : u 9 = (.int .i64 yc) := r9
                replace r10 : u 10 = (.bool true) := r10
                replace r11 : u 11 = (.bool true) := r11
                replace r12 : u 12 = (.slice (some ⟨bk, off, none⟩) n b.c) := r12
                replace r13 : u 13 = (.int .i64 (k : Int)) := r13
                replace r14 : u 14 = (.pointer (some ⟨bk, off + k * 19, none⟩)) := r14
                replace r15 : u 15 = (.pointer (some ⟨bk, off + k * 19 + 1, none⟩)) := r15
                replace r16 : u 16 = (.int .i64 xn) := r16
                replace r17 : u 17 = (.slice (some ⟨bk, off, none⟩) n b.c) := r17
                replace r18 : u 18 = (.int .i64 (j : Int)) := r18
                replace r19 : u 19 = (.pointer (some ⟨bk, off + j * 19, none⟩)) := r19
                replace r20 : u 20 = (.pointer (some ⟨bk, off + j * 19 + 1, none⟩)) := r20
                replace r21 : u 21 = (.int .i64 yn) := r21
                replace r22 : u 22 = (.bool G) := r22
                replace r23 : u 23 = (.bool G) := r23
                simp only [mkAct, List.foldl_cons, List.foldl_nil, List.setIfInBounds_toArray, List.set_cons_succ, List.set_cons_zero]
                try simp only [str, r0, r1, r2, r3, r4, r5, r6, r7, r8, r9, r10, r11, r12, r13, r14, r15, r16, r17, r18, r19, r20, r21, r22, r23]
                go_wp2
                go_meet
                exact ⟨rfl, hI⟩
          case rest =>
            obtain ⟨rfl, hs3⟩ := hcut
            clear hG he1 he2
            cases G
            · have hGf2 := Lib.hid (hGf.out rfl)
              clear hGf hGt
              go_wp2
              go_roundw
              case rel => exact ⟨j + 1, by omega, by go_num, hGf2.out, hs2.out.trans hs3⟩
              case measure => simp [intOf]; omega
            · have hTt := Lib.hid (hGt.out rfl)
              clear hGf hGt
              go_wp2
              go_ret
              exact ⟨by rw [hTt.out]; rfl, hs.out.trans (hs2.out.trans hs3)⟩
        · obtain rfl : j = k := by omega
          have hnew := hst.out hin
          clear hin
          replace hnew := Lib.hid hnew
          replace hs2 := Lib.hid hs2
          go_wp2
          go_roundw
          case rel => exact ⟨j + 1, by omega, by go_num, hnew.out, hs.out.trans hs2.out⟩
          case measure => simp [intOf]; omega
    · obtain rfl : k = n := by omega
      have hTk : T = -1 := by rw [hT.out]; exact twice_none (by rw [← hn.out]; exact hon)
      clear hon
      replace hs := Lib.hid hs
      replace hTk := Lib.hid hTk
      go_wp2
      go_ret
      exact ⟨by rw [hTk.out]; rfl, hs.out⟩
end Go.Proofs.Ytgdkhiihdoekaaa
